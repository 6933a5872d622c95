/-
  Proved: laws.FnExactTied returns true for every rule and number. Conditions: none.
-/
import Derived.Test.YtccohhhnfaidhaaTied
import Derived.Test.YtccohhhnfaidhaaOpen
import Derived.Test.YtccohhhnfaidhaaToRule
namespace Go.Proofs.Ytccohhhnfaidhaa
open Go.ChangeShapes Go.WideShapes Go.ChangeAt Go.RowKit Go.Deep
namespace LawTied
set_option maxHeartbeats 1000000 in
theorem walk (s t g d n u : Int) (two : Bool) (m : Int) (_ : (Lit.int .i64 s).wf = true) (_ : (Lit.int .i64 t).wf = true) (_ : (Lit.int .i64 g).wf = true) (_ : (Lit.int .i64 d).wf = true) (_ : (Lit.int .i64 n).wf = true) (_ : (Lit.int .i64 u).wf = true) (_ : (Lit.int .i64 m).wf = true) (w : World) :
    Calls Try.prog 7 #[ruleV s t g d n u two, .int .i64 m] w fun e w' => e = .returned (.bool true) ∧ Below w.heap.size w w' := by
  have hb0 := Below.refl (w.heap.size + 1) (w.alloc (.cells #[.int .i64 s, .int .i64 t, .int .i64 g, .int .i64 d, .int .i64 n, .int .i64 u, .bool two] 23))
  have hs : w.heap.size + 1 ≤ (w.alloc (.cells #[.int .i64 s, .int .i64 t, .int .i64 g, .int .i64 d, .int .i64 n, .int .i64 u, .bool two] 23)).heap.size := by simp
  have HS := Lib.hid hs; clear hs
  go_enter Try.func7, Try.ntmps7
  go_wp2_with (first
    | (go_at_call 15; refine (lift (toRule_any _ _ _ _ _ _ _ _) (by assumption) HS.out).mono ?_; rintro e w' ⟨rfl, hb⟩; obtain ⟨bc, bf, bz⟩ := bcell hb)
    | (go_at_call 23; refine (lift (sTied_any _ _ _ _ _ _ _ _ _) (by assumption) HS.out).mono ?_; rintro e w' ⟨rfl, hb⟩; obtain ⟨bc, bf, bz⟩ := bcell hb)
    | (go_at_call 24; refine (lift (iTied_any _ _ _ _ _ _ _ _ _) (by assumption) HS.out).mono ?_; rintro e w' ⟨rfl, hb⟩; obtain ⟨bc, bf, bz⟩ := bcell hb))
  go_ret
  exact ⟨rfl, fin_below (by assumption) (by go_grown) (by omega)⟩

theorem walks : Walks 7 Try.f7 := by
  intro H enc W base args ds ps hval hA _
  rw [Try.params7] at hA hval
  obtain ⟨v0, vs0, d0, ds0, p0, q0, hargs, rfl, rfl, h0, r0⟩ := trodAll_cons hA
  obtain ⟨v1, vs1, d1, ds1, p1, q1, rfl, rfl, rfl, h1, r1⟩ := trodAll_cons r0
  obtain ⟨rfl, rfl, rfl⟩ := trodAll_nil r1
  obtain rfl : args = #[v0, v1] := by cases args; simp_all
  obtain ⟨cs0, rfl, hl0, nn0, hf0⟩ := open_agg Try.underlying23 (by kernel_rfl) (by kernel_rfl) (hval 0 23 v0 rfl rfl) h0
  obtain ⟨c0_0, _, e0_0, y0_0⟩ := hf0 0 _ rfl
  obtain ⟨c0_1, _, e0_1, y0_1⟩ := hf0 1 _ rfl
  obtain ⟨c0_2, _, e0_2, y0_2⟩ := hf0 2 _ rfl
  obtain ⟨c0_3, _, e0_3, y0_3⟩ := hf0 3 _ rfl
  obtain ⟨c0_4, _, e0_4, y0_4⟩ := hf0 4 _ rfl
  obtain ⟨c0_5, _, e0_5, y0_5⟩ := hf0 5 _ rfl
  obtain ⟨c0_6, _, e0_6, y0_6⟩ := hf0 6 _ rfl
  obtain ⟨a0_0, a0_1, a0_2, a0_3, a0_4, a0_5, a0_6, rfl⟩ : ∃ a0_0 a0_1 a0_2 a0_3 a0_4 a0_5 a0_6, cs0 = [a0_0, a0_1, a0_2, a0_3, a0_4, a0_5, a0_6] := by
    match cs0, hl0 with
    | [a0, a1, a2, a3, a4, a5, a6], _ => exact ⟨a0, a1, a2, a3, a4, a5, a6, rfl⟩
  simp only [List.getElem?_cons_zero, List.getElem?_cons_succ, Option.some.injEq] at e0_0 e0_1 e0_2 e0_3 e0_4 e0_5 e0_6
  subst e0_0 e0_1 e0_2 e0_3 e0_4 e0_5 e0_6
  obtain ⟨x0_0, rfl, w0_0⟩ := field_int Try.underlying3 y0_0
  obtain ⟨x0_1, rfl, w0_1⟩ := field_int Try.underlying3 y0_1
  obtain ⟨x0_2, rfl, w0_2⟩ := field_int Try.underlying3 y0_2
  obtain ⟨x0_3, rfl, w0_3⟩ := field_int Try.underlying3 y0_3
  obtain ⟨x0_4, rfl, w0_4⟩ := field_int Try.underlying3 y0_4
  obtain ⟨x0_5, rfl, w0_5⟩ := field_int Try.underlying3 y0_5
  obtain ⟨x0_6, rfl⟩ := field_bool Try.underlying4 y0_6
  obtain ⟨a1, rfl, rfl, rfl, w1⟩ := open_int Try.underlying3 (hval 1 3 v1 rfl rfl) h1
  exact walk x0_0 x0_1 x0_2 x0_3 x0_4 x0_5 x0_6 a1 w0_0 w0_1 w0_2 w0_3 w0_4 w0_5 w1 W

set_option maxRecDepth 100000 in
theorem lifted (os : Os) (started : os.Started) (H : Type) (enc : TypeId × Value → H) :
    ReturnsInHanded {} Try.checked os 7 .any (Rows.fnExactTiedSpec.pre6 enc Try.prog Try.f7 Rows.fnExactTiedRow.domain false) (Rows.fnExactTiedSpec.post enc Try.prog Try.f7 false true false false) :=
  law_lifted started (by kernel_rfl) Try.func7
    (ChangeSpec.witness6 (enc := enc) (C := Try.checked) false ⟨#[], #[.agg #[.int .i64 0, .int .i64 0, .int .i64 0, .int .i64 0, .int .i64 0, .int .i64 0, .bool false], .int .i64 0], []⟩ 8 (by kernel_rfl) (by kernel_rfl) (by kernel_rfl) (by kernel_rfl))
    rfl rfl Try.underlying4 (fun ds h => match ds, h with | [_, _], _ => rfl) (by
      rw [Try.params7]
      intro t ht
      simp only [List.mem_cons, List.not_mem_nil, or_false] at ht
      rcases ht with rfl | rfl <;> exact ⟨by kernel_rfl, of_decide_eq_true (by kernel_rfl)⟩) walks

theorem over : Rows.fnExactTiedRow.holds Try.pinned (OpenSpec.ofChange Rows.fnExactTiedSpec) :=
  OpenClaim.holds_of_wide 7 Try.f7 rfl rfl rfl rfl rfl rfl rfl ⟨rfl, rfl, rfl, rfl, rfl⟩ rfl rfl rfl rfl rfl (by kernel_rfl) Try.func7 (by kernel_rfl)
    (of_decide_eq_true (by kernel_rfl)) (by unfold Func.isWrapper; first | (rw [if_pos (by decide +kernel)]; kernel_rfl) | (rw [if_neg (by decide +kernel)]; exact ⟨rfl, rfl⟩))
    (fun os started H enc _ => lifted os started H enc)

theorem proved : Rows.FnExactTiedSaid := over
#print axioms proved

end LawTied
end Go.Proofs.Ytccohhhnfaidhaa
