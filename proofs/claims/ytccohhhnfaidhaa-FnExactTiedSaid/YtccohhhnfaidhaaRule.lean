/-
  spec.RuleOk, impl.RuleOk (a struct of six ints and a bool by value): each answers the conjunction of the six range tests.
-/
import Derived.Test.YtccohhhnfaidhaaIn
namespace Go.Proofs.Ytccohhhnfaidhaa
open Go.RowKit

/-- What RuleOk answers. -/
def ruleB (s t g d n u : Int) : Bool := inB s 1 9 && inB t 0 999 && inB g 1 200 && inB d 0 6 && inB n 1 31 && inB u 62 2000
abbrev ruleV (s t g d n u : Int) (two : Bool) : Value := .agg #[.int .i64 s, .int .i64 t, .int .i64 g, .int .i64 d, .int .i64 n, .int .i64 u, .bool two]

theorem ways5 (a b c d e : Bool) : a = false ∨ (a = true ∧ b = false) ∨ (a = true ∧ b = true ∧ c = false) ∨ (a = true ∧ b = true ∧ c = true ∧ d = false) ∨ (a = true ∧ b = true ∧ c = true ∧ d = true ∧ e = false) ∨ (a = true ∧ b = true ∧ c = true ∧ d = true ∧ e = true) := by
  cases a <;> cases b <;> cases c <;> cases d <;> cases e <;> simp

set_option maxHeartbeats 400000 in
theorem sRuleOk_al (s t g d n u : Int) (two : Bool) (w : World) : Calls Try.prog 14 #[ruleV s t g d n u two] w fun e w' => e = .returned (.bool (ruleB s t g d n u)) ∧ ∃ c, w' = w.alloc (.cells c 25) := by
  unfold ruleB
  rcases ways5 (inB s 1 9) (inB t 0 999) (inB g 1 200) (inB d 0 6) (inB n 1 31) with h1 | ⟨h1, h2⟩ | ⟨h1, h2, h3⟩ | ⟨h1, h2, h3, h4⟩ | ⟨h1, h2, h3, h4, h5⟩ | ⟨h1, h2, h3, h4, h5⟩
  all_goals
    go_enter Try.func14, Try.ntmps14
    go_wp2_with (go_at_call 49; refine (l1In_any _ _ _ _).mono ?_; rintro e w' ⟨rfl, rfl⟩)
    go_ret
    exact ⟨by simp [*], _, rfl⟩

set_option maxHeartbeats 400000 in
theorem iRuleOk_al (s t g d n u : Int) (two : Bool) (w : World) : Calls Try.prog 16 #[ruleV s t g d n u two] w fun e w' => e = .returned (.bool (ruleB s t g d n u)) ∧ ∃ c, w' = w.alloc (.cells c 25) := by
  unfold ruleB
  rcases ways5 (inB s 1 9) (inB t 0 999) (inB g 1 200) (inB d 0 6) (inB n 1 31) with h1 | ⟨h1, h2⟩ | ⟨h1, h2, h3⟩ | ⟨h1, h2, h3, h4⟩ | ⟨h1, h2, h3, h4, h5⟩ | ⟨h1, h2, h3, h4, h5⟩
  all_goals
    go_enter Try.func16, Try.ntmps16
    go_wp2_with (go_at_call 50; refine (within_any _ _ _ _).mono ?_; rintro e w' ⟨rfl, rfl⟩)
    go_ret
    exact ⟨by simp [*], _, rfl⟩

theorem sRuleOk_any (s t g d n u : Int) (two : Bool) (w : World) : Calls Try.prog 14 #[ruleV s t g d n u two] w fun e w' => e = .returned (.bool (ruleB s t g d n u)) ∧ Below w.heap.size w w' :=
  (sRuleOk_al s t g d n u two w).mono fun e w' ⟨h, c, hw⟩ => ⟨h, by rw [hw]; exact (Below.refl _ _).alloc (Nat.le_refl _) _⟩
theorem iRuleOk_any (s t g d n u : Int) (two : Bool) (w : World) : Calls Try.prog 16 #[ruleV s t g d n u two] w fun e w' => e = .returned (.bool (ruleB s t g d n u)) ∧ Below w.heap.size w w' :=
  (iRuleOk_al s t g d n u two w).mono fun e w' ⟨h, c, hw⟩ => ⟨h, by rw [hw]; exact (Below.refl _ _).alloc (Nat.le_refl _) _⟩

end Go.Proofs.Ytccohhhnfaidhaa
