/-
  Proved: laws.FnExactRuleOk returns true for every rule. Conditions: none.
-/
import Derived.Test.YtccohhhnfaidhaaRule
import Derived.Test.YtccohhhnfaidhaaOpen
namespace Go.Proofs.Ytccohhhnfaidhaa
open Go.ChangeShapes Go.WideShapes Go.ChangeAt Go.RowKit Go.Deep

set_option maxHeartbeats 400000 in
theorem toRule_any (s t g d n u : Int) (two : Bool) (w : World) : Calls Try.prog 15 #[ruleV s t g d n u two] w fun e w' => e = .returned (ruleV s t g d n u two) ∧ Below w.heap.size w w' := by
  go_enter Try.func15, Try.ntmps15
  go_wp2
  go_returns
  exact ⟨rfl, by go_grown⟩

namespace LawRuleOk
set_option maxHeartbeats 400000 in
theorem walk (s t g d n u : Int) (two : Bool) (w : World) : Calls Try.prog 3 #[ruleV s t g d n u two] w fun e w' => e = .returned (.bool true) ∧ Below w.heap.size w w' := by
  have hb0 := Below.refl (w.heap.size + 1) (w.alloc (.cells #[.int .i64 s, .int .i64 t, .int .i64 g, .int .i64 d, .int .i64 n, .int .i64 u, .bool two] 23))
  have hs : w.heap.size + 1 ≤ (w.alloc (.cells #[.int .i64 s, .int .i64 t, .int .i64 g, .int .i64 d, .int .i64 n, .int .i64 u, .bool two] 23)).heap.size := by simp
  have HS := Lib.hid hs; clear hs
  go_enter Try.func3, Try.ntmps3
  go_wp2_with (first
    | (go_at_call 15; refine (lift (toRule_any _ _ _ _ _ _ _ _) (by assumption) HS.out).mono ?_; rintro e w' ⟨rfl, hb⟩; obtain ⟨bc, bf, bz⟩ := bcell hb)
    | (go_at_call 14; refine (lift (sRuleOk_any _ _ _ _ _ _ _ _) (by assumption) HS.out).mono ?_; rintro e w' ⟨rfl, hb⟩; obtain ⟨bc, bf, bz⟩ := bcell hb)
    | (go_at_call 16; refine (lift (iRuleOk_any _ _ _ _ _ _ _ _) (by assumption) HS.out).mono ?_; rintro e w' ⟨rfl, hb⟩; obtain ⟨bc, bf, bz⟩ := bcell hb))
  go_ret
  exact ⟨rfl, fin_below (by assumption) (by go_grown) (by omega)⟩

theorem walks : Walks 3 Try.f3 := by
  intro H enc W base args ds ps hval hA _
  rw [Try.params3] at hA hval
  obtain ⟨v0, vs0, d0, ds0, p0, q0, hargs, rfl, rfl, h0, r0⟩ := trodAll_cons hA
  obtain ⟨rfl, rfl, rfl⟩ := trodAll_nil r0
  obtain rfl : args = #[v0] := by cases args; simp_all
  obtain ⟨cs, rfl, hl, n, hf⟩ := open_agg Try.underlying23 (by kernel_rfl) (by kernel_rfl) (hval 0 23 v0 rfl rfl) h0
  obtain ⟨c0, _, e0, y0⟩ := hf 0 _ rfl
  obtain ⟨c1, _, e1, y1⟩ := hf 1 _ rfl
  obtain ⟨c2, _, e2, y2⟩ := hf 2 _ rfl
  obtain ⟨c3, _, e3, y3⟩ := hf 3 _ rfl
  obtain ⟨c4, _, e4, y4⟩ := hf 4 _ rfl
  obtain ⟨c5, _, e5, y5⟩ := hf 5 _ rfl
  obtain ⟨c6, _, e6, y6⟩ := hf 6 _ rfl
  match cs, hl with
  | [a0, a1, a2, a3, a4, a5, a6], _ =>
    simp only [List.getElem?_cons_zero, List.getElem?_cons_succ, Option.some.injEq] at e0 e1 e2 e3 e4 e5 e6
    subst e0 e1 e2 e3 e4 e5 e6
    obtain ⟨s, rfl, _⟩ := field_int Try.underlying3 y0
    obtain ⟨t, rfl, _⟩ := field_int Try.underlying3 y1
    obtain ⟨g, rfl, _⟩ := field_int Try.underlying3 y2
    obtain ⟨d, rfl, _⟩ := field_int Try.underlying3 y3
    obtain ⟨n', rfl, _⟩ := field_int Try.underlying3 y4
    obtain ⟨u, rfl, _⟩ := field_int Try.underlying3 y5
    obtain ⟨b, rfl⟩ := field_bool Try.underlying4 y6
    exact walk s t g d n' u b W

set_option maxRecDepth 100000 in
theorem lifted (os : Os) (started : os.Started) (H : Type) (enc : TypeId × Value → H) :
    ReturnsInHanded {} Try.checked os 3 .any (Rows.fnExactRuleOkSpec.pre6 enc Try.prog Try.f3 Rows.fnExactRuleOkRow.domain false) (Rows.fnExactRuleOkSpec.post enc Try.prog Try.f3 false true false false) :=
  law_lifted started (by kernel_rfl) Try.func3
    (ChangeSpec.witness6 (enc := enc) (C := Try.checked) false ⟨#[], #[.agg #[.int .i64 0, .int .i64 0, .int .i64 0, .int .i64 0, .int .i64 0, .int .i64 0, .bool false]], []⟩ 8 (by kernel_rfl) (by kernel_rfl) (by kernel_rfl) (by kernel_rfl))
    rfl rfl Try.underlying4 (fun ds h => match ds, h with | [_], _ => rfl) (by
      rw [Try.params3]
      intro t ht
      simp only [List.mem_cons, List.not_mem_nil, or_false] at ht
      subst ht
      exact ⟨by kernel_rfl, of_decide_eq_true (by kernel_rfl)⟩) walks

theorem over : Rows.fnExactRuleOkRow.holds Try.pinned (OpenSpec.ofChange Rows.fnExactRuleOkSpec) :=
  OpenClaim.holds_of_wide 3 Try.f3 rfl rfl rfl rfl rfl rfl rfl ⟨rfl, rfl, rfl, rfl, rfl⟩ rfl rfl rfl rfl rfl (by kernel_rfl) Try.func3 (by kernel_rfl)
    (of_decide_eq_true (by kernel_rfl)) (by unfold Func.isWrapper; first | (rw [if_pos (by decide +kernel)]; kernel_rfl) | (rw [if_neg (by decide +kernel)]; exact ⟨rfl, rfl⟩))
    (fun os started H enc _ => lifted os started H enc)

theorem proved : Rows.FnExactRuleOkSaid := over
#print axioms proved
end LawRuleOk
end Go.Proofs.Ytccohhhnfaidhaa
