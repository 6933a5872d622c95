/-
  What is left of a size; szIntS; sums of lengths.
-/
import Derived.Test.YtchkmcikpamdeaaDoorInts
namespace Go.Proofs.YtchkmcikpamdeaaDoor
open Go.RowKit
set_option linter.unusedSimpArgs false
set_option linter.unusedVariables false
theorem sum_set (l : List Nat) (j : Nat) (h : j < l.length) : (l.take (j + 1)).sum = (l.take j).sum + l[j] := by
  rw [List.take_succ_eq_append_getElem h, List.sum_append]; simp
theorem sum_take_le (l : List Nat) (j : Nat) : (l.take j).sum ≤ l.sum := by
  have := List.take_append_drop j l
  have h2 : (l.take j ++ l.drop j).sum = l.sum := by rw [this]
  rw [List.sum_append] at h2; omega

/-- What is left of a size. -/
def szI (left n : Int) : Int := if left < n then -1 else left - n
theorem szI_bd (left : Int) (n : Nat) (h0 : 0 ≤ left) (h1 : left ≤ 1048576) : -1 ≤ szI left n ∧ szI left n ≤ 1048576 := by
  unfold szI; split <;> omega

set_option maxHeartbeats 400000 in
theorem szIntS_any (A : Option Addr) (n c : Nat) (left : Int) (h0 : 0 ≤ left) (h1 : left ≤ 1048576) (hn : n ≤ 9223372036854775807) (w : World) : Calls Tryd.prog 50 #[.slice A n c, .int .i64 left] w fun e w' => e = .returned (.int .i64 (szI left n)) ∧ w = w' := by
  by_cases h : left < n
  · have HS := Lib.hid (show szI left n = -1 by simp [szI, h])
    go_enter Tryd.func50, Tryd.ntmps50
    go_wp2
    go_ret
    exact ⟨by rw [HS.out]; rfl, rfl⟩
  · have HS := Lib.hid (show szI left n = left - n by simp [szI, h])
    have h' : (n : Int) ≤ left := by omega
    clear h
    go_enter Tryd.func50, Tryd.ntmps50
    go_wp2
    go_ret
    exact ⟨by rw [HS.out]; rfl, rfl⟩

theorem szI_yes {left n : Int} (h : n ≤ left) : szI left n = left - n := by unfold szI; rw [if_neg (by omega)]
theorem szI_no {left n : Int} (h : left < n) : szI left n = -1 := by unfold szI; rw [if_pos h]

end Go.Proofs.YtchkmcikpamdeaaDoor
