/-
  Proved: laws.FnBag returns true for every code. Conditions: none.
-/
import Derived.Test.YtfdpfeaegcfglaaDrawA
import Derived.Test.YtfdpfeaegcfglaaBag
import Derived.Test.YtfdpfeaegcfglaaObj
import Derived.Test.YtfdpfeaegcfglaaOpen
namespace Go.Proofs.Ytfdpfeaegcfglaa
open Go.ChangeShapes Go.WideShapes Go.ChangeAt Go.RowKit Go.Deep
namespace LawFBag
set_option linter.unusedSimpArgs false
set_option linter.unusedVariables false
theorem cntL_mono (xs : List Int) {d d' : Int} (h : d ≤ d') (k : Nat) : cntL xs d k ≤ cntL xs d' k := by
  unfold cntL
  generalize xs.take k = ys
  induction ys with
  | nil => simp
  | cons y ys ih =>
    simp only [List.filter_cons]
    by_cases h1 : y ≤ d
    · have h2 : y ≤ d' := by omega
      simp only [h1, h2, decide_true, if_true, List.length_cons]; omega
    · simp only [h1, decide_false, Bool.false_eq_true, if_false]
      split
      · simp only [List.length_cons]; omega
      · exact ih
theorem wtI_ok {l d : Int} (h : 0 ≤ wtI l d) : (l = 1 ∨ l = 6) ∧ 0 ≤ d ∧ d ≤ 65535 ∧ wtI l d = (cntL (thrL l) d 7 : Int) := by
  unfold wtI at h ⊢
  split at h
  · rename_i hc
    rw [if_pos hc]
    have := inB_iff.1 hc.2
    exact ⟨hc.1, this.1, this.2, rfl⟩
  · omega
theorem wtI_at {l d : Int} (hl : l = 1 ∨ l = 6) (h0 : 0 ≤ d) (h1 : d ≤ 65535) : wtI l d = (cntL (thrL l) d 7 : Int) := by
  unfold wtI
  rw [if_pos ⟨hl, inB_iff.2 ⟨h0, h1⟩⟩]
theorem wtI_mono {l d : Int} (h : 0 ≤ wtI l d) (hd : d ≠ 65535) : wtI l d ≤ wtI l (d + 1) := by
  obtain ⟨hl, h0, h1, he⟩ := wtI_ok h
  rw [he, wtI_at hl (by omega) (by omega)]
  have := cntL_mono (thrL l) (d := d) (d' := d + 1) (by omega) 7
  omega
/-- The least draws, by their weights. -/
theorem least_all (l : Int) (hl : l = 1 ∨ l = 6) : ∀ x : Nat, x ≤ 7 → 0 ≤ leastI l x ∧ leastI l x ≤ 65535 ∧ cntL (thrL l) (leastI l x) 7 = x ∧ (x = 0 → leastI l x = 0) ∧ (0 < x → 0 < leastI l x ∧ cntL (thrL l) (leastI l x - 1) 7 < x) := by
  intro x hx
  rcases hl with rfl | rfl
  all_goals
    rcases x with _ | _ | _ | _ | _ | _ | _ | _ | x
    all_goals first | decide +kernel | omega
theorem least_facts {l d : Int} (h : 0 ≤ wtI l d) : 0 ≤ leastI l (wtI l d) ∧ leastI l (wtI l d) ≤ d ∧ wtI l (leastI l (wtI l d)) = wtI l d ∧ (leastI l (wtI l d) = 0 ∨ wtI l (leastI l (wtI l d) - 1) < wtI l d) := by
  obtain ⟨hl, h0, h1, he⟩ := wtI_ok h
  obtain ⟨x, hx⟩ : ∃ x, x = cntL (thrL l) d 7 := ⟨_, rfl⟩
  have hx7 : x ≤ 7 := by rw [hx]; exact cntL_le _ _ _
  rw [he, ← hx]
  obtain ⟨a1, a2, a3, a4, a5⟩ := least_all l hl x hx7
  refine ⟨a1, ?_, by rw [wtI_at hl a1 a2, a3], ?_⟩
  · rcases Nat.eq_zero_or_pos x with h0' | h0'
    · rw [a4 h0']; exact h0
    · obtain ⟨b1, b2⟩ := a5 h0'
      rcases Int.lt_or_le d (leastI l x) with hc | hc
      · have := cntL_mono (thrL l) (d := d) (d' := leastI l x - 1) (by omega) 7
        omega
      · exact hc
  · rcases Nat.eq_zero_or_pos x with h0' | h0'
    · exact .inl (a4 h0')
    · obtain ⟨b1, b2⟩ := a5 h0'
      refine .inr ?_
      rw [wtI_at hl (by omega) (by omega)]
      omega

theorem u8wf {z : Int} (h : (Lit.int .u8 z).wf = true) : 0 ≤ z ∧ z ≤ 255 := by
  simp [Lit.wf, IntKind.min, IntKind.max, IntKind.bits, IntKind.signed] at h
  omega
theorem big_no (A : Option Addr) (n c : Nat) (w : World) (h : n ≤ 1048576) : Calls Try.prog 15 #[.slice A n c] w fun e w' => e = .returned (.bool false) ∧ w = w' := by
  go_enter Try.func15, Try.ntmps15
  go_wp2
  go_ret
  exact ⟨by simp; omega, rfl⟩
theorem big_yes (A : Option Addr) (n c : Nat) (w : World) (h : ¬ n ≤ 1048576) : Calls Try.prog 15 #[.slice A n c] w fun e w' => e = .returned (.bool true) ∧ w = w' := by
  go_enter Try.func15, Try.ntmps15
  go_wp2
  go_ret
  exact ⟨by simp; omega, rfl⟩

/-- A list that is written out reads as itself. -/
theorem rdLit (w : World) (xs : List Int) (cs : Array Value) (T : TypeId) (m : Nat) (hcs : cs.toList = xs.map (Value.int .i64)) (hm : xs.length = m) : Rd (w.alloc (.cells cs T)) (some ⟨w.heap.size, 0, none⟩) m (xs.map (Value.int .i64)) := by
  refine ⟨by simpa using hm, fun _ => ⟨w.heap.size, 0, rfl, by simp, fun j v hv => ?_⟩⟩
  rw [← hcs] at hv
  have := (Bx.new w T cs).cells j
  rw [Nat.zero_add, this]
  simpa using hv
theorem below_lit {w w' : World} {o : Obj} (h : Below (w.alloc o).heap.size (w.alloc o) w') : Below w.heap.size w w' := (below_alloc1 o).trans (h.mono (by simp))

set_option maxRecDepth 50000 in
set_option maxHeartbeats 4000000 in
theorem walkIn (w : World) (A : Option Addr) (n c : Nat) (xs : List Int) (hn : n ≤ 1048576) (HR : Hid (Rd w A n (xs.map (Value.int .u8)))) (HU : Hid (∀ z ∈ xs, 0 ≤ z ∧ z ≤ 255)) :
    Calls Try.prog 7 #[.slice A n c] w fun e w' => e = .returned (.bool true) ∧ Below w.heap.size w w' := by
  have B0 := Below.refl w.heap.size w
  have s0 : w.heap.size ≤ w.heap.size := Nat.le_refl _
  go_enter Try.func7, Try.ntmps7
  go_wp2_with fail
  refine (big_no A n c _ hn).mono ?_
  rintro e w1 ⟨rfl, rfl⟩
  go_wp2_with fail
  refine (sDrawWeightOf_any A n c xs _ HR.out HU.out (by omega)).mono ?_
  rintro e w1 ⟨l, d, rfl, b⟩
  have t_1 := b.size
  have z_1 : w.heap.size ≤ w1.heap.size := by omega
  have B_1 := B0.trans (b.mono (by omega))
  clear B0 b
  by_cases hw : 0 ≤ wtI l d
  case neg =>
    obtain ⟨x, hx⟩ : ∃ x, wtI l d = x := ⟨_, rfl⟩
    have hbk : ¬ bagOk l [d] := fun hb => hw (hb d (by simp))
    rw [hx] at hw
    go_wp2_with fail
    refine (iWeightOf_any l d _).mono ?_
    rw [hx]
    rintro e w2 ⟨rfl, b⟩
    have t_3 := b.size
    have z_3 : w.heap.size ≤ w2.heap.size := by omega
    have B_3 := B_1.trans (b.mono (by omega))
    clear B_1 b
    go_wp2_with fail
    refine (sWeightOf_any l d _).mono ?_
    rw [hx]
    rintro e w3 ⟨rfl, b⟩
    have t_5 := b.size
    have z_5 : w.heap.size ≤ w3.heap.size := by omega
    have B_5 := B_3.trans (b.mono (by omega))
    clear B_3 b
    go_wp2_with fail
    refine (iBag_no l _ 1 _ [d] _ (rdLit _ [d] _ _ 1 rfl rfl) (by omega) hbk).mono ?_
    rintro e v ⟨rfl, b⟩
    go_wp2_with fail
    go_ret
    exact ⟨rfl, B_5.trans ((below_lit b).mono z_5)⟩
  case pos =>
    have hdd := (wtI_ok hw).2
    obtain ⟨f1, f2, f3, f4⟩ := least_facts hw
    have f5 := fun hd => wtI_mono hw hd
    have x7 := (wtI_bd l d).2
    obtain ⟨x, hx⟩ : ∃ x, wtI l d = x := ⟨_, rfl⟩
    rw [hx] at f1 f2 f3 f4 f5 x7 hw
    obtain ⟨s, hs⟩ : ∃ s, leastI l x = s := ⟨_, rfl⟩
    rw [hs] at f1 f2 f3 f4
    have d0 := hdd.1
    have d1 := hdd.2.1
    clear hdd
    have HX := Lib.hid hx; have HS := Lib.hid hs; have H3 := Lib.hid f3
    clear hx hs f3
    by_cases hd : d = 65535 <;> by_cases h0 : s = 0
    · skip
      subst hd
      subst h0
      clear f4 f5
      go_wp2_with fail
      refine (iWeightOf_any l 65535 _).mono ?_
      rw [HX.out]
      rintro e w2 ⟨rfl, b⟩
      have t_3 := b.size
      have z_3 : w.heap.size ≤ w2.heap.size := by omega
      have B_3 := B_1.trans (b.mono (by omega))
      clear B_1 b
      go_wp2_with fail
      refine (sWeightOf_any l 65535 _).mono ?_
      rw [HX.out]
      rintro e w3 ⟨rfl, b⟩
      have t_5 := b.size
      have z_5 : w.heap.size ≤ w3.heap.size := by omega
      have B_5 := B_3.trans (b.mono (by omega))
      clear B_3 b
      go_wp2_with fail
      refine (iLeastDraw_any l x _).mono ?_
      rw [HS.out]
      rintro e w4 ⟨rfl, b⟩
      have t_7 := b.size
      have z_7 : w.heap.size ≤ w4.heap.size := by omega
      have B_7 := B_5.trans (b.mono (by omega))
      clear B_5 b
      go_wp2_with fail
      refine (iWeightOf_any l 0 _).mono ?_
      rw [H3.out]
      rintro e w5 ⟨rfl, b⟩
      have t_9 := b.size
      have z_9 : w.heap.size ≤ w5.heap.size := by omega
      have B_9 := B_7.trans (b.mono (by omega))
      clear B_7 b
      go_wp2_with fail
      go_ret
      exact ⟨rfl, B_9⟩
    · skip
      subst hd
      have f7 := f4.resolve_left h0
      obtain ⟨z, hz⟩ : ∃ z, wtI l (s - 1) = z := ⟨_, rfl⟩
      rw [hz] at f7
      clear f4 f5
      go_wp2_with fail
      refine (iWeightOf_any l 65535 _).mono ?_
      rw [HX.out]
      rintro e w2 ⟨rfl, b⟩
      have t_3 := b.size
      have z_3 : w.heap.size ≤ w2.heap.size := by omega
      have B_3 := B_1.trans (b.mono (by omega))
      clear B_1 b
      go_wp2_with fail
      refine (sWeightOf_any l 65535 _).mono ?_
      rw [HX.out]
      rintro e w3 ⟨rfl, b⟩
      have t_5 := b.size
      have z_5 : w.heap.size ≤ w3.heap.size := by omega
      have B_5 := B_3.trans (b.mono (by omega))
      clear B_3 b
      go_wp2_with fail
      refine (iLeastDraw_any l x _).mono ?_
      rw [HS.out]
      rintro e w4 ⟨rfl, b⟩
      have t_7 := b.size
      have z_7 : w.heap.size ≤ w4.heap.size := by omega
      have B_7 := B_5.trans (b.mono (by omega))
      clear B_5 b
      go_wp2_with fail
      refine (iWeightOf_any l s _).mono ?_
      rw [H3.out]
      rintro e w5 ⟨rfl, b⟩
      have t_9 := b.size
      have z_9 : w.heap.size ≤ w5.heap.size := by omega
      have B_9 := B_7.trans (b.mono (by omega))
      clear B_7 b
      go_wp2_with fail
      refine (iWeightOf_any l (s - 1) _).mono ?_
      rw [hz]
      rintro e w6 ⟨rfl, b⟩
      have t_11 := b.size
      have z_11 : w.heap.size ≤ w6.heap.size := by omega
      have B_11 := B_9.trans (b.mono (by omega))
      clear B_9 b
      go_wp2_with fail
      go_ret
      exact ⟨rfl, B_11⟩
    · skip
      subst h0
      have f6 := f5 hd
      obtain ⟨y, hy⟩ : ∃ y, wtI l (d + 1) = y := ⟨_, rfl⟩
      rw [hy] at f6
      clear f4 f5
      go_wp2_with fail
      refine (iWeightOf_any l d _).mono ?_
      rw [HX.out]
      rintro e w2 ⟨rfl, b⟩
      have t_3 := b.size
      have z_3 : w.heap.size ≤ w2.heap.size := by omega
      have B_3 := B_1.trans (b.mono (by omega))
      clear B_1 b
      go_wp2_with fail
      refine (sWeightOf_any l d _).mono ?_
      rw [HX.out]
      rintro e w3 ⟨rfl, b⟩
      have t_5 := b.size
      have z_5 : w.heap.size ≤ w3.heap.size := by omega
      have B_5 := B_3.trans (b.mono (by omega))
      clear B_3 b
      go_wp2_with fail
      refine (iLeastDraw_any l x _).mono ?_
      rw [HS.out]
      rintro e w4 ⟨rfl, b⟩
      have t_7 := b.size
      have z_7 : w.heap.size ≤ w4.heap.size := by omega
      have B_7 := B_5.trans (b.mono (by omega))
      clear B_5 b
      go_wp2_with fail
      refine (iWeightOf_any l (d + 1) _).mono ?_
      rw [hy]
      rintro e w5 ⟨rfl, b⟩
      have t_9 := b.size
      have z_9 : w.heap.size ≤ w5.heap.size := by omega
      have B_9 := B_7.trans (b.mono (by omega))
      clear B_7 b
      go_wp2_with fail
      refine (iWeightOf_any l 0 _).mono ?_
      rw [H3.out]
      rintro e w6 ⟨rfl, b⟩
      have t_11 := b.size
      have z_11 : w.heap.size ≤ w6.heap.size := by omega
      have B_11 := B_9.trans (b.mono (by omega))
      clear B_9 b
      go_wp2_with fail
      go_ret
      exact ⟨rfl, B_11⟩
    · skip
      have f6 := f5 hd
      obtain ⟨y, hy⟩ : ∃ y, wtI l (d + 1) = y := ⟨_, rfl⟩
      rw [hy] at f6
      have f7 := f4.resolve_left h0
      obtain ⟨z, hz⟩ : ∃ z, wtI l (s - 1) = z := ⟨_, rfl⟩
      rw [hz] at f7
      clear f4 f5
      go_wp2_with fail
      refine (iWeightOf_any l d _).mono ?_
      rw [HX.out]
      rintro e w2 ⟨rfl, b⟩
      have t_3 := b.size
      have z_3 : w.heap.size ≤ w2.heap.size := by omega
      have B_3 := B_1.trans (b.mono (by omega))
      clear B_1 b
      go_wp2_with fail
      refine (sWeightOf_any l d _).mono ?_
      rw [HX.out]
      rintro e w3 ⟨rfl, b⟩
      have t_5 := b.size
      have z_5 : w.heap.size ≤ w3.heap.size := by omega
      have B_5 := B_3.trans (b.mono (by omega))
      clear B_3 b
      go_wp2_with fail
      refine (iLeastDraw_any l x _).mono ?_
      rw [HS.out]
      rintro e w4 ⟨rfl, b⟩
      have t_7 := b.size
      have z_7 : w.heap.size ≤ w4.heap.size := by omega
      have B_7 := B_5.trans (b.mono (by omega))
      clear B_5 b
      go_wp2_with fail
      refine (iWeightOf_any l (d + 1) _).mono ?_
      rw [hy]
      rintro e w5 ⟨rfl, b⟩
      have t_9 := b.size
      have z_9 : w.heap.size ≤ w5.heap.size := by omega
      have B_9 := B_7.trans (b.mono (by omega))
      clear B_7 b
      go_wp2_with fail
      refine (iWeightOf_any l s _).mono ?_
      rw [H3.out]
      rintro e w6 ⟨rfl, b⟩
      have t_11 := b.size
      have z_11 : w.heap.size ≤ w6.heap.size := by omega
      have B_11 := B_9.trans (b.mono (by omega))
      clear B_9 b
      go_wp2_with fail
      refine (iWeightOf_any l (s - 1) _).mono ?_
      rw [hz]
      rintro e w7 ⟨rfl, b⟩
      have t_13 := b.size
      have z_13 : w.heap.size ≤ w7.heap.size := by omega
      have B_13 := B_11.trans (b.mono (by omega))
      clear B_11 b
      go_wp2_with fail
      go_ret
      exact ⟨rfl, B_13⟩

theorem walk (w : World) (A : Option Addr) (n c : Nat) (xs : List Int) (hl : n ≤ c) (hm : c ≤ maxLen) (hr : Rd w A n (xs.map (Value.int .u8))) (hu : ∀ z ∈ xs, (Lit.int .u8 z).wf = true) :
    Calls Try.prog 7 #[.slice A n c] w fun e w' => e = .returned (.bool true) ∧ Below w.heap.size w w' := by
  unfold maxLen at hm
  have HR := Lib.hid hr
  have HU : Hid (∀ z ∈ xs, 0 ≤ z ∧ z ≤ 255) := fun z hz => u8wf (hu z hz)
  clear hr hu
  by_cases hn : n ≤ 1048576
  · exact walkIn w A n c xs hn HR HU
  · go_enter Try.func7, Try.ntmps7
    go_wp2_with fail
    refine (big_yes A n c w hn).mono ?_
    rintro e _ ⟨rfl, rfl⟩
    go_wp2_with fail
    go_ret
    exact ⟨rfl, Below.refl _ _⟩

theorem walks : Walks 7 Try.f7 := by
  intro H enc W base args ds ps hval hA _
  rw [Try.params7] at hA hval
  obtain ⟨v0, vs0, d0, ds0, p0, q0, hargs, rfl, rfl, h0, r0⟩ := trodAll_cons hA
  obtain ⟨rfl, rfl, rfl⟩ := trodAll_nil r0
  obtain rfl : args = #[v0] := by cases args; simp_all
  obtain ⟨f0, y0, z0⟩ := slice_cell Try.underlying22 (hval 0 22 v0 rfl rfl) h0
  obtain ⟨A0, n0, c0, a0, rfl, hl0, hm0, hr0, w0⟩ := open_ints_rd Try.underlying22 (by kernel_rfl) Try.underlying5 z0
  exact walk (w := W) A0 n0 c0 a0 hl0 hm0 hr0 w0

set_option maxRecDepth 100000 in
theorem lifted (os : Os) (started : os.Started) (H : Type) (enc : TypeId × Value → H) :
    ReturnsInHanded {} Try.checked os 7 .any (Rows.fnBagSpec.pre6 enc Try.prog Try.f7 Rows.fnBagRow.domain false) (Rows.fnBagSpec.post enc Try.prog Try.f7 false true false false) :=
  law_lifted started (by kernel_rfl) Try.func7
    (ChangeSpec.witness6 (enc := enc) (C := Try.checked) false ⟨#[], #[.slice none 0 0], []⟩ 8 (by kernel_rfl) (by kernel_rfl) (by kernel_rfl) (by kernel_rfl))
    rfl rfl Try.underlying4 (fun ds h => match ds, h with | [_], _ => rfl) (by
      rw [Try.params7]
      intro t ht
      simp only [List.mem_cons, List.not_mem_nil, or_false] at ht
      subst ht
      exact ⟨by kernel_rfl, of_decide_eq_true (by kernel_rfl)⟩) walks

theorem over : Rows.fnBagRow.holds Try.pinned (OpenSpec.ofChange Rows.fnBagSpec) :=
  OpenClaim.holds_of_wide 7 Try.f7 rfl rfl rfl rfl rfl rfl rfl ⟨rfl, rfl, rfl, rfl, rfl⟩ rfl rfl rfl rfl rfl (by kernel_rfl) Try.func7 (by kernel_rfl)
    (of_decide_eq_true (by kernel_rfl)) (by unfold Func.isWrapper; first | (rw [if_pos (by decide +kernel)]; kernel_rfl) | (rw [if_neg (by decide +kernel)]; exact ⟨rfl, rfl⟩))
    (fun os started H enc _ => lifted os started H enc)

theorem proved : Rows.FnBagSaid := over
#print axioms proved

end LawFBag
end Go.Proofs.Ytfdpfeaegcfglaa
