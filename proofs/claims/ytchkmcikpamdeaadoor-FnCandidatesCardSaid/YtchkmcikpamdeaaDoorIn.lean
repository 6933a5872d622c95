/-
  The two range tests, spec.l1In and impl.within: each answers whether lo ≤ x ≤ hi; the world stays as it is.
-/
import Derived.Test.YtchkmcikpamdeaaDoorBase
namespace Go.Proofs.YtchkmcikpamdeaaDoor
open Go.RowKit

theorem l1In_any (x lo hi : Int) (w : World) : Calls Tryd.prog 34 #[.int .i64 x, .int .i64 lo, .int .i64 hi] w fun e w' => e = .returned (.bool (inB x lo hi)) ∧ w = w' := by
  by_cases h1 : lo ≤ x <;> by_cases h2 : x ≤ hi
  all_goals
    go_enter Tryd.func34, Tryd.ntmps34
    go_wp2
    go_ret
    exact ⟨by simp [inB, h1, h2], rfl⟩

theorem within_any (x lo hi : Int) (w : World) : Calls Tryd.prog 37 #[.int .i64 x, .int .i64 lo, .int .i64 hi] w fun e w' => e = .returned (.bool (inB x lo hi)) ∧ w = w' := by
  by_cases h1 : lo ≤ x <;> by_cases h2 : x ≤ hi
  all_goals
    go_enter Tryd.func37, Tryd.ntmps37
    go_wp2
    go_ret
    exact ⟨by simp [inB, h1, h2], rfl⟩

theorem l1In_q {x lo hi : Int} {b : Bool} (h : inB x lo hi = b) (w : World) : Calls Tryd.prog 34 #[.int .i64 x, .int .i64 lo, .int .i64 hi] w fun e w' => e = .returned (.bool b) ∧ w' = w :=
  (l1In_any x lo hi w).mono fun _ _ ⟨h1, h2⟩ => ⟨by rw [h1, h], h2.symm⟩

theorem within_q {x lo hi : Int} {b : Bool} (h : inB x lo hi = b) (w : World) : Calls Tryd.prog 37 #[.int .i64 x, .int .i64 lo, .int .i64 hi] w fun e w' => e = .returned (.bool b) ∧ w' = w :=
  (within_any x lo hi w).mono fun _ _ ⟨h1, h2⟩ => ⟨by rw [h1, h], h2.symm⟩

end Go.Proofs.YtchkmcikpamdeaaDoor
