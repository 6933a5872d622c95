/-
  What candidates are: permitted, no two alike, two branches if required. Plain, and laws.times.
-/
import Derived.Test.YtchkmcikpamdeaaDoorCandI
import Derived.Test.YtchkmcikpamdeaaDoorFText
namespace Go.Proofs.YtchkmcikpamdeaaDoor
open Go.RowKit
set_option linter.unusedSimpArgs false
set_option linter.unusedVariables false

def cntL (x : Int) : List Int → Nat
  | [] => 0
  | y :: ys => (if y = x then 1 else 0) + cntL x ys
theorem cntL_le (x : Int) : ∀ xs : List Int, cntL x xs ≤ xs.length
  | [] => Nat.le_refl _
  | y :: ys => by have := cntL_le x ys; simp only [cntL, List.length_cons]; split <;> omega
theorem cntL_snoc (x : Int) : ∀ (xs : List Int) (y : Int), cntL x (xs ++ [y]) = cntL x xs + (if y = x then 1 else 0)
  | [], y => by simp [cntL]
  | z :: zs, y => by have := cntL_snoc x zs y; simp only [List.cons_append, cntL, this]; omega
theorem cntL_take {x y : Int} {xs : List Int} {k : Nat} (h : xs[k]? = some y) : cntL x (xs.take (k + 1)) = cntL x (xs.take k) + (if y = x then 1 else 0) := by
  obtain ⟨h1, h2⟩ := List.getElem?_eq_some_iff.1 h
  rw [List.take_succ_eq_append_getElem h1, h2, cntL_snoc]
theorem cntL_no {x : Int} : ∀ {xs : List Int}, (∀ y ∈ xs, ¬ y = x) → cntL x xs = 0
  | [], _ => rfl
  | y :: ys, h => by
    have h1 := cntL_no (x := x) (xs := ys) fun z hz => h z (by simp [hz])
    simp only [cntL, h1, if_neg (h y (by simp))]
theorem cntL_one {x : Int} : ∀ {xs : List Int}, xs.Pairwise (· < ·) → x ∈ xs → cntL x xs = 1
  | [], _, h => by cases h
  | y :: ys, hp, h => by
    obtain ⟨h1, h2⟩ := List.pairwise_cons.1 hp
    by_cases e : y = x
    · subst e
      have := cntL_no (x := y) (xs := ys) fun z hz e => by have := h1 z hz; omega
      simp [cntL, this]
    · have hm : x ∈ ys := by rcases List.mem_cons.1 h with h | h; exact absurd h.symm e; exact h
      simp [cntL, if_neg e, cntL_one h2 hm]
theorem asc_pair {xs : List Int} (h : ascB xs = true) : xs.Pairwise (· < ·) := by
  unfold ascB at h
  rw [allB_iff] at h
  have key : ∀ d i, i + d + 1 < xs.length → xs.getD i 0 < xs.getD (i + d + 1) 0 := by
    intro d
    induction d with
    | zero => intro i hi; exact of_decide_eq_true (h i (by omega))
    | succ d ih =>
      intro i hi
      have h1 := ih i (by omega)
      have h2 := of_decide_eq_true (h (i + d + 1) (by omega))
      rw [show i + (d + 1) + 1 = i + d + 1 + 1 by omega]
      omega
  rw [List.pairwise_iff_getElem]
  intro i j hi hj hij
  have h1 := key (j - i - 1) i (by omega)
  rw [show i + (j - i - 1) + 1 = j by omega] at h1
  simpa [List.getD, hi, hj] using h1
theorem cand_in {ats : List AD} {two : Bool} {x x' y : Int} (hm : (x, y) ∈ candA ats two x') : x = x' ∧ (((atA ats x').cuts.length = 0 ∧ two = false ∧ y = -1) ∨ ∃ t : Nat, t < (lastI (atA ats x') + 1).toNat ∧ y = (t : Int)) := by
  unfold candA at hm
  split at hm
  · rename_i h
    simp only [List.mem_singleton, Prod.mk.injEq] at hm
    exact ⟨hm.1, .inl ⟨h.1, h.2, hm.2⟩⟩
  · unfold rowF at hm
    obtain ⟨t, ht, e⟩ := List.mem_map.1 hm
    simp only [Prod.mk.injEq] at e
    exact ⟨e.1.symm, .inr ⟨t, List.mem_range.1 ht, e.2.symm⟩⟩
theorem cand_mem {ats : List AD} {cs : List ByteArray} {xs : List Int} {two : Bool} (h : attrsB ats cs xs = true) {x y : Int} (hm : (x, y) ∈ candJ ats two xs) : x ∈ xs ∧ forkB ats cs x y = true ∧ (two = true → brI ats cs x y = 2) := by
  unfold candJ at hm
  obtain ⟨x', hx', hm⟩ := List.mem_flatMap.1 hm
  obtain ⟨rfl, hc⟩ := cand_in hm
  obtain ⟨k, hk⟩ := List.getElem?_of_mem hx'
  obtain ⟨j, a, nn, rfl, hj, ha, hab, hn, h4, hs, hi⟩ := attr_ok h hk
  rw [atA_get ha] at hc
  have hf : forkB ats cs (j : Nat) y = true := by
    rw [forkB_at hs hi ha]
    rcases hc with ⟨_, _, rfl⟩ | ⟨t, ht, rfl⟩
    · exact inB_yes (by omega) (by omega)
    · exact inB_yes (by omega) (by omega)
  refine ⟨hx', hf, fun h2 => ?_⟩
  unfold brI
  rw [if_pos hf]
  rcases hc with ⟨_, h3, _⟩ | ⟨t, ht, rfl⟩
  · rw [h2] at h3; cases h3
  · rw [if_neg (by omega)]
theorem candA_pos {ats : List AD} {cs : List ByteArray} {xs : List Int} {two : Bool} (h : attrsB ats cs xs = true) {k : Nat} {x : Int} (hx : xs[k]? = some x) : 1 ≤ (candA ats two x).length := by
  obtain ⟨j, a, nn, rfl, _, ha, hab, hn, h4, _⟩ := attr_ok h hx
  obtain ⟨nb, b1, b2, b3⟩ := attrB_bins2 hab
  unfold candA
  rw [atA_get ha]
  split
  · simp
  · rw [rowF_len, hn]
    unfold lastI at hn
    split at hn <;> omega
theorem cand_len {ats : List AD} {cs : List ByteArray} {xs : List Int} {two : Bool} (h : attrsB ats cs xs = true) : xs.length ≤ (candJ ats two xs).length := by
  have key : ∀ k, k ≤ xs.length → k ≤ (candJ ats two (xs.take k)).length := by
    intro k
    induction k with
    | zero => intro _; omega
    | succ k ih =>
      intro hk
      have hx : xs[k]? = some xs[k] := List.getElem?_eq_getElem (by omega)
      rw [candJ_snoc hx, List.length_append]
      have h1 := ih (by omega)
      have h2 := candA_pos (two := two) h hx
      omega
  have := key xs.length (Nat.le_refl _)
  rwa [List.take_length] at this
theorem cand_apart {ats : List AD} {cs : List ByteArray} {xs : List Int} {two : Bool} (h : attrsB ats cs xs = true) : (candJ ats two xs).Pairwise (· ≠ ·) := by
  have ha : ascB xs = true := by unfold attrsB at h; simp only [Bool.and_eq_true] at h; exact h.1.2
  unfold candJ
  rw [List.pairwise_flatMap]
  refine ⟨fun x hx => ?_, (asc_pair ha).imp fun {x1 x2} hlt a ha b hb e => ?_⟩
  · unfold candA
    split
    · exact List.pairwise_singleton _ _
    · unfold rowF
      rw [List.pairwise_map]
      exact List.pairwise_lt_range.imp fun {a b} hab e => by simp only [Prod.mk.injEq] at e; omega
  · obtain ⟨a1, a2⟩ := a; obtain ⟨b1, b2⟩ := b
    have e1 := (cand_in ha).1; have e2 := (cand_in hb).1
    simp only [Prod.mk.injEq] at e
    omega
theorem ft_some {ats : List AD} {cs : List ByteArray} {x y : Int} (h : forkB ats cs x y = true) : 0 < (ftS ats cs x y).size := by
  obtain ⟨h1, k, a, rfl, ha, _, _⟩ := forkB_yes h
  have hab := schB_get h1 ha
  have hn : 0 < a.nm.size := by
    unfold attrB at hab
    simp only [Bool.and_eq_true] at hab
    have h2 := hab.1
    unfold wordB at h2
    simp only [Bool.and_eq_true] at h2
    have := inB_iff.1 h2.1; omega
  unfold ftS ftA
  rw [if_pos h, atA_get ha]
  split
  · rw [ByteArray.size_append]; omega
  · split <;> (rw [ByteArray.size_append, ByteArray.size_append]; omega)

set_option maxHeartbeats 1000000 in
theorem times_any (A : Option Addr) (n c : Nat) (xs : List Int) (x : Int) (w : World) (h : Rd w A n (xs.map (Value.int .i64))) (hn : n ≤ 1048576) :
    Calls Tryd.prog 17 #[.slice A n c, .int .i64 x] w fun e w' => e = .returned (.int .i64 (cntL x xs : Nat)) ∧ w = w' := by
  have hlen : xs.length = n := by simpa using h.len
  have HL := Lib.hid hlen
  have H := Lib.hid h
  clear h hlen
  go_enter Tryd.func17, Tryd.ntmps17
  go_wp2_with fail
  go_loop [5, 6] (fun s i => ∃ k : Nat, k ≤ n ∧ i = .int .i64 k ∧ s = .int .i64 ((cntL x (xs.take k) : Nat) : Int)) (fun _ i => n - (intOf i).toNat)
  case atStart => exact ⟨0, Nat.zero_le _, rfl, rfl⟩
  case round =>
    obtain ⟨k, hk, rfl, rfl⟩ := hrel
    obtain ⟨s, hs⟩ : ∃ s, cntL x (xs.take k) = s := ⟨_, rfl⟩
    have hsl := cntL_le x (xs.take k)
    have hlt3 : (xs.take k).length ≤ k := by rw [List.length_take]; omega
    by_cases hlt : k < n
    · obtain ⟨b, off, rfl, hbl, hc⟩ := H.out.ex (by omega)
      have hl : k < xs.length := by rw [HL.out]; exact hlt
      obtain ⟨y, hy⟩ : ∃ y, xs[k]? = some y := ⟨_, List.getElem?_eq_getElem hl⟩
      have hcell := hc k (.int .i64 y) (by rw [List.getElem?_map, hy]; rfl)
      have HSS := Lib.hid (cntL_take (x := x) hy)
      rw [hs] at hsl HSS ⊢
      have w1 : IntKind.i64.wrap ((s : Int) + 1) = (s : Int) + 1 := IntWalk.i64_in _ (by omega)
      clear hc hl hy hs hlt3
      by_cases e : y = x
      · subst e
        have HS2 : Hid (cntL y (xs.take (k + 1)) = s + 1) := by unfold Hid; rw [HSS.out, if_pos rfl]
        clear HSS
        go_wp2_with fail
        go_round
        case rel => exact ⟨k + 1, by omega, by go_num, by rw [HS2.out]; go_num⟩
        case measure => simp [intOf]; omega
      · have e1 : (y == x) = false := beq_false_of_ne e
        have e2 : decide (y = x) = false := decide_eq_false e
        have HS2 : Hid (cntL x (xs.take (k + 1)) = s) := by unfold Hid; rw [HSS.out, if_neg e, Nat.add_zero]
        clear HSS
        go_wp2_with fail
        go_round
        case rel => exact ⟨k + 1, by omega, by go_num, by rw [HS2.out]⟩
        case measure => simp [intOf]; omega
    · obtain rfl : k = n := by omega
      have HS := Lib.hid (show cntL x xs = s by rw [← hs, ← HL.out, List.take_length])
      go_wp2_with fail
      go_ret
      exact ⟨by rw [HS.out]; rfl, rfl⟩

end Go.Proofs.YtchkmcikpamdeaaDoor
