/-
  Proved: laws.FnCutSides returns true for every code. Conditions: none.
-/
import Derived.Test.YtfdpfeaegcfglaaDrawA
import Derived.Test.YtfdpfeaegcfglaaCut
import Derived.Test.YtfdpfeaegcfglaaObj
import Derived.Test.YtfdpfeaegcfglaaOpen
namespace Go.Proofs.Ytfdpfeaegcfglaa
open Go.ChangeShapes Go.WideShapes Go.ChangeAt Go.RowKit Go.Deep
namespace LawFCutSides
set_option linter.unusedSimpArgs false
set_option linter.unusedVariables false
theorem cut_sym (n u m v k : Int) : cutB m v n u k = cutB n u m v k := by
  have e1 : lnI k * (m + n) * m * n = lnI k * (n + m) * n * m := by grind
  have e2 : (v * n - u * m) * (v * n - u * m) = (u * m - v * n) * (u * m - v * n) := by grind
  unfold cutB cutR
  rw [e1, e2]
  cases inB n 5 1000 <;> cases inB m 5 1000 <;> cases inB u 0 n <;> cases inB v 0 m <;> rfl
theorem inB_flip (n u : Int) : inB (n - u) 0 n = inB u 0 n := by
  unfold inB
  have e1 : (0 ≤ n - u) = (u ≤ n) := by apply propext; omega
  have e2 : (n - u ≤ n) = (0 ≤ u) := by apply propext; omega
  simp only [e1, e2]; exact Bool.and_comm _ _
theorem cut_flip (n u m v k : Int) : cutB n (n - u) m (m - v) k = cutB n u m v k := by
  have e2 : ((n - u) * m - (m - v) * n) * ((n - u) * m - (m - v) * n) = (u * m - v * n) * (u * m - v * n) := by grind
  unfold cutB cutR
  rw [e2, inB_flip, inB_flip]
theorem lnI_mono {k : Int} (h1 : 1 < k) (h2 : k ≤ 9) : lnI (k - 1) ≤ lnI k := by
  unfold lnI
  rw [if_pos (inB_iff.2 (by omega)), if_pos (inB_iff.2 (by omega))]
  omega
theorem cut_mono {n u m v k : Int} (h : cutB n u m v k = true) (hk : k ≠ 1) : cutB n u m v (k - 1) = true := by
  simp only [cutB, cutR, Bool.and_eq_true, decide_eq_true_eq, inB_iff] at h ⊢
  obtain ⟨⟨⟨⟨⟨⟨n1, n2⟩, m1, m2⟩, u12⟩, v12⟩, k1, k2⟩, h⟩ := h
  refine ⟨⟨⟨⟨⟨⟨n1, n2⟩, m1, m2⟩, u12⟩, v12⟩, by omega, by omega⟩, Int.lt_of_le_of_lt ?_ h⟩
  exact Int.mul_le_mul_of_nonneg_right (Int.mul_le_mul_of_nonneg_right (Int.mul_le_mul_of_nonneg_right (lnI_mono (by omega) k2) (by omega)) (by omega)) (by omega)
theorem cut_out {n u m v k : Int} (h : n < 0 ∨ 1000 < n ∨ m < 0 ∨ 1000 < m ∨ u < 0 ∨ n < u ∨ v < 0 ∨ m < v) : cutB n u m v k = false := by
  cases hc : cutB n u m v k
  · rfl
  · simp only [cutB, cutR, Bool.and_eq_true, decide_eq_true_eq, inB_iff] at hc
    omega

theorem cut_k {n u m v k : Int} (h : cutB n u m v k = true) : 1 ≤ k ∧ k ≤ 9 := by
  simp only [cutB, cutR, Bool.and_eq_true, decide_eq_true_eq, inB_iff] at h
  omega

theorem u8wf {z : Int} (h : (Lit.int .u8 z).wf = true) : 0 ≤ z ∧ z ≤ 255 := by
  simp [Lit.wf, IntKind.min, IntKind.max, IntKind.bits, IntKind.signed] at h
  omega

theorem big_no (A : Option Addr) (n c : Nat) (w : World) (h : n ≤ 1048576) : Calls Try.prog 15 #[.slice A n c] w fun e w' => e = .returned (.bool false) ∧ w = w' := by
  go_enter Try.func15, Try.ntmps15
  go_wp2
  go_ret
  exact ⟨by simp; omega, rfl⟩
theorem big_yes (A : Option Addr) (n c : Nat) (w : World) (h : ¬ n ≤ 1048576) : Calls Try.prog 15 #[.slice A n c] w fun e w' => e = .returned (.bool true) ∧ w = w' := by
  go_enter Try.func15, Try.ntmps15
  go_wp2
  go_ret
  exact ⟨by simp; omega, rfl⟩

set_option maxRecDepth 50000 in
set_option maxHeartbeats 2000000 in
theorem walkIn (w : World) (A : Option Addr) (n c : Nat) (xs : List Int) (hn : n ≤ 1048576) (HR : Hid (Rd w A n (xs.map (Value.int .u8)))) (HU : Hid (∀ z ∈ xs, 0 ≤ z ∧ z ≤ 255)) :
    Calls Try.prog 3 #[.slice A n c] w fun e w' => e = .returned (.bool true) ∧ Below w.heap.size w w' := by
  have B0 := Below.refl w.heap.size w
  have s0 : w.heap.size ≤ w.heap.size := Nat.le_refl _
  go_enter Try.func3, Try.ntmps3
  go_wp2_with fail
  refine (big_no A n c _ hn).mono ?_
  rintro e w1 ⟨rfl, rfl⟩
  go_wp2_with fail
  refine (sDrawCutHere_any A n c xs _ HR.out HU.out (by omega)).mono ?_
  rintro e w1 ⟨a, b, m, d, k, rfl, bb⟩
  have t_1 := bb.size
  have z_1 : w.heap.size ≤ w1.heap.size := by omega
  have B_1 := B0.trans (bb.mono (by omega))
  clear B0 bb
  obtain ⟨x, hx⟩ : ∃ x, cutB a b m d k = x := ⟨_, rfl⟩
  have HX := Lib.hid hx
  by_cases c0 : a < 0
  · obtain rfl : x = false := by rw [← hx]; exact cut_out (by omega)
    clear hx
    go_wp2_with fail
    refine (iCutHere_any a b m d k _).mono ?_
    rw [HX.out]
    rintro e w2 ⟨rfl, rfl⟩
    go_wp2_with fail
    refine (sCutHere_any a b m d k _).mono ?_
    rw [HX.out]
    rintro e w2 ⟨rfl, rfl⟩
    go_wp2_with fail
    go_ret
    exact ⟨rfl, B_1⟩
  by_cases c1 : a > 1000
  · obtain rfl : x = false := by rw [← hx]; exact cut_out (by omega)
    clear hx
    go_wp2_with fail
    refine (iCutHere_any a b m d k _).mono ?_
    rw [HX.out]
    rintro e w2 ⟨rfl, rfl⟩
    go_wp2_with fail
    refine (sCutHere_any a b m d k _).mono ?_
    rw [HX.out]
    rintro e w2 ⟨rfl, rfl⟩
    go_wp2_with fail
    go_ret
    exact ⟨rfl, B_1⟩
  by_cases c2 : m < 0
  · obtain rfl : x = false := by rw [← hx]; exact cut_out (by omega)
    clear hx
    go_wp2_with fail
    refine (iCutHere_any a b m d k _).mono ?_
    rw [HX.out]
    rintro e w2 ⟨rfl, rfl⟩
    go_wp2_with fail
    refine (sCutHere_any a b m d k _).mono ?_
    rw [HX.out]
    rintro e w2 ⟨rfl, rfl⟩
    go_wp2_with fail
    go_ret
    exact ⟨rfl, B_1⟩
  by_cases c3 : m > 1000
  · obtain rfl : x = false := by rw [← hx]; exact cut_out (by omega)
    clear hx
    go_wp2_with fail
    refine (iCutHere_any a b m d k _).mono ?_
    rw [HX.out]
    rintro e w2 ⟨rfl, rfl⟩
    go_wp2_with fail
    refine (sCutHere_any a b m d k _).mono ?_
    rw [HX.out]
    rintro e w2 ⟨rfl, rfl⟩
    go_wp2_with fail
    go_ret
    exact ⟨rfl, B_1⟩
  by_cases c4 : b < 0
  · obtain rfl : x = false := by rw [← hx]; exact cut_out (by omega)
    clear hx
    go_wp2_with fail
    refine (iCutHere_any a b m d k _).mono ?_
    rw [HX.out]
    rintro e w2 ⟨rfl, rfl⟩
    go_wp2_with fail
    refine (sCutHere_any a b m d k _).mono ?_
    rw [HX.out]
    rintro e w2 ⟨rfl, rfl⟩
    go_wp2_with fail
    go_ret
    exact ⟨rfl, B_1⟩
  by_cases c5 : b > a
  · obtain rfl : x = false := by rw [← hx]; exact cut_out (by omega)
    clear hx
    go_wp2_with fail
    refine (iCutHere_any a b m d k _).mono ?_
    rw [HX.out]
    rintro e w2 ⟨rfl, rfl⟩
    go_wp2_with fail
    refine (sCutHere_any a b m d k _).mono ?_
    rw [HX.out]
    rintro e w2 ⟨rfl, rfl⟩
    go_wp2_with fail
    go_ret
    exact ⟨rfl, B_1⟩
  by_cases c6 : d < 0
  · obtain rfl : x = false := by rw [← hx]; exact cut_out (by omega)
    clear hx
    go_wp2_with fail
    refine (iCutHere_any a b m d k _).mono ?_
    rw [HX.out]
    rintro e w2 ⟨rfl, rfl⟩
    go_wp2_with fail
    refine (sCutHere_any a b m d k _).mono ?_
    rw [HX.out]
    rintro e w2 ⟨rfl, rfl⟩
    go_wp2_with fail
    go_ret
    exact ⟨rfl, B_1⟩
  by_cases c7 : d > m
  · obtain rfl : x = false := by rw [← hx]; exact cut_out (by omega)
    clear hx
    go_wp2_with fail
    refine (iCutHere_any a b m d k _).mono ?_
    rw [HX.out]
    rintro e w2 ⟨rfl, rfl⟩
    go_wp2_with fail
    refine (sCutHere_any a b m d k _).mono ?_
    rw [HX.out]
    rintro e w2 ⟨rfl, rfl⟩
    go_wp2_with fail
    go_ret
    exact ⟨rfl, B_1⟩
  have hs := cut_sym a b m d k
  have hf := cut_flip a b m d k
  rw [hx] at hs hf
  have HS := Lib.hid hs; have HF := Lib.hid hf
  clear hs hf
  cases x
  · clear hx
    go_wp2_with fail
    refine (iCutHere_any a b m d k _).mono ?_
    rw [HX.out]
    rintro e w2 ⟨rfl, rfl⟩
    go_wp2_with fail
    refine (sCutHere_any a b m d k _).mono ?_
    rw [HX.out]
    rintro e w2 ⟨rfl, rfl⟩
    go_wp2_with fail
    refine (iCutHere_any m d a b k _).mono ?_
    rw [HS.out]
    rintro e w2 ⟨rfl, rfl⟩
    go_wp2_with fail
    refine (iCutHere_any a (a - b) m (m - d) k _).mono ?_
    rw [HF.out]
    rintro e w2 ⟨rfl, rfl⟩
    go_wp2_with fail
    go_ret
    exact ⟨rfl, B_1⟩
  by_cases hk : k = 1
  · clear hx
    subst hk
    go_wp2_with fail
    refine (iCutHere_any a b m d 1 _).mono ?_
    rw [HX.out]
    rintro e w2 ⟨rfl, rfl⟩
    go_wp2_with fail
    refine (sCutHere_any a b m d 1 _).mono ?_
    rw [HX.out]
    rintro e w2 ⟨rfl, rfl⟩
    go_wp2_with fail
    refine (iCutHere_any m d a b 1 _).mono ?_
    rw [HS.out]
    rintro e w2 ⟨rfl, rfl⟩
    go_wp2_with fail
    refine (iCutHere_any a (a - b) m (m - d) 1 _).mono ?_
    rw [HF.out]
    rintro e w2 ⟨rfl, rfl⟩
    go_wp2_with fail
    go_ret
    exact ⟨rfl, B_1⟩
  · have HM := Lib.hid (cut_mono hx hk)
    have hk9 := cut_k hx
    clear hx
    go_wp2_with fail
    refine (iCutHere_any a b m d k _).mono ?_
    rw [HX.out]
    rintro e w2 ⟨rfl, rfl⟩
    go_wp2_with fail
    refine (sCutHere_any a b m d k _).mono ?_
    rw [HX.out]
    rintro e w2 ⟨rfl, rfl⟩
    go_wp2_with fail
    refine (iCutHere_any m d a b k _).mono ?_
    rw [HS.out]
    rintro e w2 ⟨rfl, rfl⟩
    go_wp2_with fail
    refine (iCutHere_any a (a - b) m (m - d) k _).mono ?_
    rw [HF.out]
    rintro e w2 ⟨rfl, rfl⟩
    go_wp2_with fail
    refine (iCutHere_any a b m d (k - 1) _).mono ?_
    rw [HM.out]
    rintro e w2 ⟨rfl, rfl⟩
    go_wp2_with fail
    go_ret
    exact ⟨rfl, B_1⟩

theorem walk (w : World) (A : Option Addr) (n c : Nat) (xs : List Int) (hl : n ≤ c) (hm : c ≤ maxLen) (hr : Rd w A n (xs.map (Value.int .u8))) (hu : ∀ z ∈ xs, (Lit.int .u8 z).wf = true) :
    Calls Try.prog 3 #[.slice A n c] w fun e w' => e = .returned (.bool true) ∧ Below w.heap.size w w' := by
  unfold maxLen at hm
  have HR := Lib.hid hr
  have HU : Hid (∀ z ∈ xs, 0 ≤ z ∧ z ≤ 255) := fun z hz => u8wf (hu z hz)
  clear hr hu
  by_cases hn : n ≤ 1048576
  · exact walkIn w A n c xs hn HR HU
  · go_enter Try.func3, Try.ntmps3
    go_wp2_with fail
    refine (big_yes A n c w hn).mono ?_
    rintro e _ ⟨rfl, rfl⟩
    go_wp2_with fail
    go_ret
    exact ⟨rfl, Below.refl _ _⟩

theorem walks : Walks 3 Try.f3 := by
  intro H enc W base args ds ps hval hA _
  rw [Try.params3] at hA hval
  obtain ⟨v0, vs0, d0, ds0, p0, q0, hargs, rfl, rfl, h0, r0⟩ := trodAll_cons hA
  obtain ⟨rfl, rfl, rfl⟩ := trodAll_nil r0
  obtain rfl : args = #[v0] := by cases args; simp_all
  obtain ⟨f0, y0, z0⟩ := slice_cell Try.underlying22 (hval 0 22 v0 rfl rfl) h0
  obtain ⟨A0, n0, c0, a0, rfl, hl0, hm0, hr0, w0⟩ := open_ints_rd Try.underlying22 (by kernel_rfl) Try.underlying5 z0
  exact walk (w := W) A0 n0 c0 a0 hl0 hm0 hr0 w0

set_option maxRecDepth 100000 in
theorem lifted (os : Os) (started : os.Started) (H : Type) (enc : TypeId × Value → H) :
    ReturnsInHanded {} Try.checked os 3 .any (Rows.fnCutSidesSpec.pre6 enc Try.prog Try.f3 Rows.fnCutSidesRow.domain false) (Rows.fnCutSidesSpec.post enc Try.prog Try.f3 false true false false) :=
  law_lifted started (by kernel_rfl) Try.func3
    (ChangeSpec.witness6 (enc := enc) (C := Try.checked) false ⟨#[], #[.slice none 0 0], []⟩ 8 (by kernel_rfl) (by kernel_rfl) (by kernel_rfl) (by kernel_rfl))
    rfl rfl Try.underlying4 (fun ds h => match ds, h with | [_], _ => rfl) (by
      rw [Try.params3]
      intro t ht
      simp only [List.mem_cons, List.not_mem_nil, or_false] at ht
      subst ht
      exact ⟨by kernel_rfl, of_decide_eq_true (by kernel_rfl)⟩) walks

theorem over : Rows.fnCutSidesRow.holds Try.pinned (OpenSpec.ofChange Rows.fnCutSidesSpec) :=
  OpenClaim.holds_of_wide 3 Try.f3 rfl rfl rfl rfl rfl rfl rfl ⟨rfl, rfl, rfl, rfl, rfl⟩ rfl rfl rfl rfl rfl (by kernel_rfl) Try.func3 (by kernel_rfl)
    (of_decide_eq_true (by kernel_rfl)) (by unfold Func.isWrapper; first | (rw [if_pos (by decide +kernel)]; kernel_rfl) | (rw [if_neg (by decide +kernel)]; exact ⟨rfl, rfl⟩))
    (fun os started H enc _ => lifted os started H enc)

theorem proved : Rows.FnCutSidesSaid := over
#print axioms proved

end LawFCutSides
end Go.Proofs.Ytfdpfeaegcfglaa
