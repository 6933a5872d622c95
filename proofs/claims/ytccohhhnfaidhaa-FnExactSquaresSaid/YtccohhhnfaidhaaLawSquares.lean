/-
  Proved: laws.FnExactSquares returns true for every list. Conditions: none.
-/
import Derived.Test.YtccohhhnfaidhaaSquares
import Derived.Test.YtccohhhnfaidhaaOpen
namespace Go.Proofs.Ytccohhhnfaidhaa
open Go.ChangeShapes Go.WideShapes Go.ChangeAt Go.RowKit Go.Deep
namespace LawSquares
set_option linter.unusedSimpArgs false
set_option linter.unusedVariables false
set_option maxHeartbeats 1000000 in
theorem walk (w : World) (A : Option Addr) (n c : Nat) (xs : List Int) (hl : n ≤ c) (hm : c ≤ maxLen) (hr : Rd w A n (xs.map (Value.int .i64))) (_ : ∀ z ∈ xs, (Lit.int .i64 z).wf = true) :
    Calls Try.prog 11 #[.slice A n c] w fun e w' => e = .returned (.bool true) ∧ Below w.heap.size w w' := by
  unfold maxLen at hm
  have HR := Lib.hid hr
  clear hr
  have hs : n ≤ 9223372036854775807 := by omega
  clear hm hl
  by_cases hn : n ≤ 1048576
  · go_enter Try.func11, Try.ntmps11
    go_wp2_with fail
    refine (toIntS_any A n c xs _ HR.out (by omega)).mono ?_
    rintro e w1 ⟨rfl, o1, b1⟩
    go_wp2_with fail
    refine (sSquares_any _ _ _ xs _ (Rd.of_own o1) (by omega)).mono ?_
    rintro e w2 ⟨rfl, b2⟩
    have b02 : Below w.heap.size w w2 := b1.trans (b2.mono b1.size)
    go_wp2_with fail
    refine (toIntS_any A n c xs _ (HR.out.below b02 (Nat.le_refl _)) (by omega)).mono ?_
    rintro e w3 ⟨rfl, o3, b3⟩
    have b03 : Below w.heap.size w w3 := b02.trans (b3.mono b02.size)
    go_wp2_with fail
    refine (iSquares_any _ _ _ xs _ (Rd.of_own o3) (by omega)).mono ?_
    rintro e w4 ⟨rfl, rfl⟩
    go_wp2_with fail
    refine (toIntS_any A n c xs _ (HR.out.below b03 (Nat.le_refl _)) (by omega)).mono ?_
    rintro e w5 ⟨rfl, o5, b5⟩
    have b05 : Below w.heap.size w w5 := b03.trans (b5.mono b03.size)
    go_wp2_with fail
    refine (eqIntS_same _ _ _ _ _ xs _ (Rd.of_own (own_below o3 b5 (Nat.le_refl _))) (Rd.of_own o5) (by omega)).mono ?_
    rintro e w6 ⟨rfl, b6⟩
    go_wp2_with fail
    go_ret
    exact ⟨rfl, b05.trans (b6.mono b05.size)⟩
  · go_enter Try.func11, Try.ntmps11
    go_wp2_with fail
    go_ret
    exact ⟨rfl, Below.refl _ _⟩

theorem walks : Walks 11 Try.f11 := by
  intro H enc W base args ds ps hval hA _
  rw [Try.params11] at hA hval
  obtain ⟨v0, vs0, d0, ds0, p0, q0, hargs, rfl, rfl, h0, r0⟩ := trodAll_cons hA
  obtain ⟨rfl, rfl, rfl⟩ := trodAll_nil r0
  obtain rfl : args = #[v0] := by cases args; simp_all
  obtain ⟨f0, y0, z0⟩ := slice_cell Try.underlying33 (hval 0 33 v0 rfl rfl) h0
  obtain ⟨A0, n0, c0, a0, rfl, hl0, hm0, hr0, w0⟩ := open_ints_rd Try.underlying33 (by kernel_rfl) Try.underlying3 z0
  exact walk (w := W) A0 n0 c0 a0 hl0 hm0 hr0 w0

set_option maxRecDepth 100000 in
theorem lifted (os : Os) (started : os.Started) (H : Type) (enc : TypeId × Value → H) :
    ReturnsInHanded {} Try.checked os 11 .any (Rows.fnExactSquaresSpec.pre6 enc Try.prog Try.f11 Rows.fnExactSquaresRow.domain false) (Rows.fnExactSquaresSpec.post enc Try.prog Try.f11 false true false false) :=
  law_lifted started (by kernel_rfl) Try.func11
    (ChangeSpec.witness6 (enc := enc) (C := Try.checked) false ⟨#[], #[.slice none 0 0], []⟩ 8 (by kernel_rfl) (by kernel_rfl) (by kernel_rfl) (by kernel_rfl))
    rfl rfl Try.underlying4 (fun ds h => match ds, h with | [_], _ => rfl) (by
      rw [Try.params11]
      intro t ht
      simp only [List.mem_cons, List.not_mem_nil, or_false] at ht
      subst ht
      exact ⟨by kernel_rfl, of_decide_eq_true (by kernel_rfl)⟩) walks

theorem over : Rows.fnExactSquaresRow.holds Try.pinned (OpenSpec.ofChange Rows.fnExactSquaresSpec) :=
  OpenClaim.holds_of_wide 11 Try.f11 rfl rfl rfl rfl rfl rfl rfl ⟨rfl, rfl, rfl, rfl, rfl⟩ rfl rfl rfl rfl rfl (by kernel_rfl) Try.func11 (by kernel_rfl)
    (of_decide_eq_true (by kernel_rfl)) (by unfold Func.isWrapper; first | (rw [if_pos (by decide +kernel)]; kernel_rfl) | (rw [if_neg (by decide +kernel)]; exact ⟨rfl, rfl⟩))
    (fun os started H enc _ => lifted os started H enc)

theorem proved : Rows.FnExactSquaresSaid := over
#print axioms proved

end LawSquares
end Go.Proofs.Ytccohhhnfaidhaa
