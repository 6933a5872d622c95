/-
  Proved: laws.FnExactLeastDraw returns true for all two numbers. Conditions: none.
-/
import Derived.Test.YtccohhhnfaidhaaThr
import Derived.Test.YtccohhhnfaidhaaOpen
namespace Go.Proofs.Ytccohhhnfaidhaa
open Go.ChangeShapes Go.WideShapes Go.ChangeAt Go.RowKit Go.Deep
namespace LawLeastDraw
set_option maxHeartbeats 400000 in
theorem walk (l d : Int) (_ : (Lit.int .i64 l).wf = true) (_ : (Lit.int .i64 d).wf = true) (w : World) : Calls Try.prog 6 #[.int .i64 l, .int .i64 d] w fun e w' => e = .returned (.bool true) ∧ Below w.heap.size w w' := by
  have hb0 := Below.refl w.heap.size w
  go_enter Try.func6, Try.ntmps6
  go_wp2_with (first | (go_at_call 21; refine (lift (sLeastDraw_any _ _ _) (by assumption) (Nat.le_refl _)).mono ?_; rintro e w' ⟨rfl, hb⟩) | (go_at_call 22; refine (lift (iLeastDraw_any _ _ _) (by assumption) (Nat.le_refl _)).mono ?_; rintro e w' ⟨rfl, hb⟩))
  go_ret
  exact ⟨rfl, by assumption⟩

theorem walks : Walks 6 Try.f6 := by
  intro H enc W base args ds ps hval hA _
  rw [Try.params6] at hA hval
  obtain ⟨v0, vs0, d0, ds0, p0, q0, hargs, rfl, rfl, h0, r0⟩ := trodAll_cons hA
  obtain ⟨v1, vs1, d1, ds1, p1, q1, rfl, rfl, rfl, h1, r1⟩ := trodAll_cons r0
  obtain ⟨rfl, rfl, rfl⟩ := trodAll_nil r1
  obtain rfl : args = #[v0, v1] := by cases args; simp_all
  obtain ⟨a0, rfl, rfl, rfl, w0⟩ := open_int Try.underlying3 (hval 0 3 v0 rfl rfl) h0
  obtain ⟨a1, rfl, rfl, rfl, w1⟩ := open_int Try.underlying3 (hval 1 3 v1 rfl rfl) h1
  exact walk a0 a1 w0 w1 W

set_option maxRecDepth 100000 in
theorem lifted (os : Os) (started : os.Started) (H : Type) (enc : TypeId × Value → H) :
    ReturnsInHanded {} Try.checked os 6 .any (Rows.fnExactLeastDrawSpec.pre6 enc Try.prog Try.f6 Rows.fnExactLeastDrawRow.domain false) (Rows.fnExactLeastDrawSpec.post enc Try.prog Try.f6 false true false false) :=
  law_lifted started (by kernel_rfl) Try.func6
    (ChangeSpec.witness6 (enc := enc) (C := Try.checked) false ⟨#[], #[.int .i64 0, .int .i64 0], []⟩ 8 (by kernel_rfl) (by kernel_rfl) (by kernel_rfl) (by kernel_rfl))
    rfl rfl Try.underlying4 (fun ds h => match ds, h with | [_, _], _ => rfl) (by
      rw [Try.params6]
      intro t ht
      simp only [List.mem_cons, List.not_mem_nil, or_false] at ht
      rcases ht with rfl | rfl <;> exact ⟨by kernel_rfl, of_decide_eq_true (by kernel_rfl)⟩) walks

theorem over : Rows.fnExactLeastDrawRow.holds Try.pinned (OpenSpec.ofChange Rows.fnExactLeastDrawSpec) :=
  OpenClaim.holds_of_wide 6 Try.f6 rfl rfl rfl rfl rfl rfl rfl ⟨rfl, rfl, rfl, rfl, rfl⟩ rfl rfl rfl rfl rfl (by kernel_rfl) Try.func6 (by kernel_rfl)
    (of_decide_eq_true (by kernel_rfl)) (by unfold Func.isWrapper; first | (rw [if_pos (by decide +kernel)]; kernel_rfl) | (rw [if_neg (by decide +kernel)]; exact ⟨rfl, rfl⟩))
    (fun os started H enc _ => lifted os started H enc)

theorem proved : Rows.FnExactLeastDrawSaid := over
#print axioms proved

end LawLeastDraw
end Go.Proofs.Ytccohhhnfaidhaa
