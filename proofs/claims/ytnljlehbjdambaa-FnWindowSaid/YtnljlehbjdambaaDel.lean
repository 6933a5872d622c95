/-
  slices.Delete over numbers, from the head of a row that a call owns.
-/
import Derived.Test.YtnljlehbjdambaaDropO
import Derived.Deep.RegionLaw
import Derived.Lib.SliceRun
namespace Go.Proofs.Ytnljlehbjdambaa
open Go.RowKit
set_option linter.unusedSimpArgs false
set_option linter.unusedVariables false

/-- The list xs with vs laid over it from o on. -/
def spl (xs : List Value) : Nat → List Value → List Value
  | _, [] => xs
  | o, v :: vs => spl (xs.set o v) (o + 1) vs
theorem spl_get (vs : List Value) : ∀ (xs : List Value) (o t : Nat), (spl xs o vs)[t]? = if o ≤ t ∧ t < o + vs.length ∧ t < xs.length then vs[t - o]? else xs[t]? := by
  induction vs with
  | nil => intro xs o t; rw [if_neg (by simp; omega)]; rfl
  | cons v vs ih =>
    intro xs o t
    show (spl (xs.set o v) (o + 1) vs)[t]? = _
    rw [ih]
    simp only [List.length_set, List.length_cons]
    by_cases h1 : o + 1 ≤ t ∧ t < o + 1 + vs.length ∧ t < xs.length
    · rw [if_pos h1, if_pos (by omega), show t - o = (t - (o + 1)) + 1 by omega, List.getElem?_cons_succ]
    · rw [if_neg h1]
      by_cases h2 : o = t
      · subst h2
        by_cases h3 : o < xs.length
        · rw [if_pos (by omega), List.getElem?_set_self h3, Nat.sub_self]; rfl
        · rw [if_neg (by omega), List.getElem?_eq_none (by simp; omega), List.getElem?_eq_none (by omega)]
      · rw [List.getElem?_set_ne h2]
        by_cases h3 : o ≤ t ∧ t < o + (vs.length + 1) ∧ t < xs.length
        · omega
        · rw [if_neg h3]
theorem stored_many {base g n c : Nat} {e : TypeId} (vs : List Value) : ∀ {w : World} {xs : List Value} (o : Nat), w.ownsRow base e 1 (.slice (some ⟨g, 0, none⟩) n c) n xs →
    (w.setCells g o vs).ownsRow base e 1 (.slice (some ⟨g, 0, none⟩) n c) n (spl xs o vs) ∧ w.grownBy (w.setCells g o vs) (some g) ∧ (w.setCells g o vs).heap.size = w.heap.size := by
  induction vs with
  | nil => intro w xs o h; exact ⟨h, ⟨rfl, rfl, rfl, Nat.le_refl _, fun _ _ _ => rfl⟩, rfl⟩
  | cons v vs ih =>
    intro w xs o h
    obtain ⟨s1, s2⟩ := h.stored o v
    obtain ⟨t1, t2, t3⟩ := ih (o + 1) s1
    refine ⟨t1, s2.trans t2, ?_⟩
    show ((w.setCell ⟨g, o, none⟩ v).setCells g (o + 1) vs).heap.size = _
    rw [t3]; simp [World.setCell]

theorem del_list (xs : List Int) (n j : Nat) (hn : xs.length = n) (h1 : j ≤ n) :
    (spl (spl (xs.map (Value.int .i64)) 0 ((xs.drop j).map (Value.int .i64))) (n - j) (List.replicate j (Value.int .i64 0))).take (n - j) = (xs.drop j).map (Value.int .i64) := by
  apply List.ext_getElem?
  intro t
  rw [List.getElem?_take]
  by_cases ht : t < n - j
  · rw [if_pos ht, spl_get, if_neg (by omega), spl_get, if_pos (by simp; omega), Nat.sub_zero]
  · rw [if_neg ht, List.getElem?_eq_none (by simp; omega)]

set_option maxHeartbeats 4000000 in
theorem del_any (base g n c j : Nat) (xs : List Int) (w : World) (h : w.ownsRow base 3 1 (.slice (some ⟨g, 0, none⟩) n c) n (xs.map (Value.int .i64))) (h1 : 1 ≤ j) (h2 : j ≤ n) (hn : n ≤ 1048576) :
    Calls Try.prog 39 #[.slice (some ⟨g, 0, none⟩) n c, .int .i64 0, .int .i64 j] w fun e w' => e = .returned (.slice (some ⟨g, 0, none⟩) (n - j) c) ∧ w'.ownsRow base 3 1 (.slice (some ⟨g, 0, none⟩) (n - j) c) (n - j) ((xs.drop j).map (Value.int .i64)) ∧ w.grownBy w' (some g) ∧ w'.heap.size = w.heap.size := by
  have hlen : xs.length = n := by have := h.1; simpa using this
  obtain ⟨g', c', hv, hb, hg, hnc, hcm⟩ := own_form h (by omega)
  simp only [Value.slice.injEq, Option.some.injEq, Addr.mk.injEq, and_true, true_and] at hv
  obtain ⟨rfl, rfl⟩ := hv
  unfold maxLen at hcm
  obtain ⟨i0, hi0, hz0, hz1, hz2⟩ := info_parts info_IntS
  have HI := Lib.hid hi0; have HZ := Lib.hid hz0; have HZ1 := Lib.hid hz1; have HZ2 := Lib.hid hz2
  clear hi0 hz0 hz1 hz2
  obtain ⟨news, hnews⟩ : ∃ news, news = (xs.drop j).map (Value.int .i64) := ⟨_, rfl⟩
  have hnl : news.length = n - j := by rw [hnews]; simp [hlen]
  have hget : ∀ t u, news[t]? = some u → w.drew.cell? ⟨g, j + t, none⟩ = some u := by
    intro t u hu
    have ht : t < n - j := by have := (List.getElem?_eq_some_iff.1 hu).1; omega
    rw [hnews, List.getElem?_map, List.getElem?_drop] at hu
    have hc := h.cellAt (j + t) (by omega)
    have : w.cell? ⟨g, j + t, none⟩ = some u := by rw [hc, List.getElem?_map, hu]
    exact this
  obtain ⟨A, hA, hsrc⟩ : ∃ A : Addr, (if c = j then some (⟨g, 0, none⟩ : Addr) else some ⟨g, j, none⟩) = some A ∧ Hid (∀ t u, news[t]? = some u → w.drew.cell? (A.add t) = some u) := by
    by_cases h : c = j
    · refine ⟨⟨g, 0, none⟩, by simp [h], fun t u hu => ?_⟩
      have h0 : news.length = 0 := by omega
      rw [List.length_eq_zero_iff.1 h0] at hu
      simp at hu
    · refine ⟨⟨g, j, none⟩, by simp [h], fun t u hu => ?_⟩
      rw [Go.WideShapes.add_plain]
      exact hget t u hu
  have s1 : Hid (news.length = (n - j) * 1) := by unfold Hid; rw [Nat.mul_one]; exact hnl
  have s2 : Hid (∀ u ∈ news, u.oneCell' = true) := by unfold Hid; rw [hnews]; exact i64_one _
  have s3 : Hid (∀ t, t < news.length → (w.drew.cell? ⟨g, 0 + 0 * 1 + t, none⟩).isSome = true ∧ w.drew.frozen? ⟨g, 0 + 0 * 1 + t, none⟩ = false) := by
    intro t ht
    rw [show 0 + 0 * 1 + t = t by omega]
    refine ⟨?_, h.frozenAt t⟩
    have hc := h.cellAt t (by omega)
    have : (w.cell? ⟨g, t, none⟩).isSome = true := by rw [hc]; simp; omega
    exact this
  obtain ⟨W1, hW1⟩ : ∃ W1, W1 = w.drew.setCells g (0 + 0 * 1) news := ⟨_, rfl⟩
  obtain ⟨d1, d2, d3⟩ := stored_many news 0 h.drew
  have hW1' : W1 = w.drew.setCells g 0 news := hW1
  rw [← hW1'] at d1 d2 d3
  obtain ⟨e1, e2, e3⟩ := stored_many (List.replicate j (Value.int .i64 0)) (n - j) d1
  obtain ⟨W2, hW2⟩ : ∃ W2, W2 = W1.setCells g (n - j) (List.replicate j (Value.int .i64 0)) := ⟨_, rfl⟩
  have hcl : ∀ ty, (Builtin.clear_ #[54] ty #[.slice (some ⟨g, n - j, none⟩) (n - (n - j)) (c - (n - j))]).run Try.prog W1 = .ok (.tuple #[]) W2 := by
    intro ty
    rw [hW2, show n - (n - j) = j by omega]
    refine Lib.run_clear_slice W1 _ _ ty _ Try.underlying54 (fun w => by kernel_rfl) rfl rfl g (n - j) _ _ (by omega) (fun t ht => ?_) (fun t ht => d1.frozenAt _)
    rw [d1.cellAt (n - j + t) (by omega)]
    have := d1.1
    simp; omega
  have HFin : Hid (W2.ownsRow base 3 1 (.slice (some ⟨g, 0, none⟩) (n - j) c) (n - j) ((xs.drop j).map (Value.int .i64)) ∧ w.grownBy W2 (some g) ∧ W2.heap.size = w.heap.size) := by
    rw [← hW2] at e1 e2 e3
    refine ⟨?_, ?_, ?_⟩
    · have := own_take e1 (m := n - j) (by omega)
      rw [hnews, del_list xs n j hlen h2] at this
      exact this
    · have h1 : w.grownBy w.drew (some g) := ⟨rfl, rfl, rfl, Nat.le_refl _, fun _ _ _ => rfl⟩
      exact (h1.trans d2).trans e2
    · rw [e3, d3]; rfl
  have hW : Hid (W1 = w.drew.setCells g (0 + 0 * 1) news) := hW1
  have n1 : (j : Int) ≤ (n : Int) := by omega
  have n2 : (0 : Int) ≤ (j : Int) := by omega
  have n3 : ¬ (0 : Int) = (j : Int) := by omega
  have hjc : j ≤ c := by omega
  have hb0 : ((0 : Int) == (j : Int)) = false := beq_false_of_ne n3
  have hd0 : decide ((0 : Int) = (j : Int)) = false := decide_eq_false n3
  clear hW1 hW1' d1 d2 d3 e1 e2 e3 hW2 hget hnews hnl hlen h
  go_enter Try.func39, Try.ntmps39
  go_wp2_with fail
  go_region_law (refine step_append_room rfl (.tmp 22) (.tmp 25) 54 rfl 3 i0 1 Try.underlying54 HI.out HZ1.out g 0 0 c (by simp [Act.eval, Act.put]) A (n - j) (c - j) news (by simp [Act.eval, Act.put]) s1.out hsrc.out s2.out (by omega) s3.out ?_; rw [← hW.out])
  go_wp2
  go_ret
  exact ⟨rfl, HFin.out⟩

end Go.Proofs.Ytnljlehbjdambaa
