/-
  impl.weights: slices.ContainsFunc at its closure; Squares of both packages.
-/
import Derived.Test.YtnljlehbjdambaaIn
import Derived.Test.YtnljlehbjdambaaInts
namespace Go.Proofs.Ytnljlehbjdambaa
open Go.RowKit
set_option linter.unusedSimpArgs false

def badW (x : Int) : Bool := !inB x (0) 999
theorem badW_iff (x : Int) : badW x = false ↔ 0 ≤ x ∧ x ≤ 999 := by simp [badW, inB_iff]

/-- What weights answers of a list and a length. -/
def wtsB (xs : List Int) (m : Int) : Bool := decide ((xs.length : Int) = m) && !xs.any badW

/-- The sum of the squares. -/
def sqL (xs : List Int) : Int := (xs.map fun x => x * x).sum
theorem sqL_succ (xs : List Int) (k : Nat) (h : k < xs.length) : sqL (xs.take (k + 1)) = sqL (xs.take k) + xs.getD k 0 * xs.getD k 0 := by
  have e : xs.getD k 0 = xs[k] := by simp [List.getD, h]
  unfold sqL
  rw [List.take_succ_eq_append_getElem h, List.map_append, List.sum_append, e]
  simp only [List.map_cons, List.map_nil, List.sum_cons, List.sum_nil, Int.add_zero]
theorem sqL_bd (xs : List Int) (h : ∀ x ∈ xs, 0 ≤ x ∧ x ≤ 999) : 0 ≤ sqL xs ∧ sqL xs ≤ 998001 * xs.length := by
  induction xs with
  | nil => simp [sqL]
  | cons x xs ih =>
    have h1 := ih fun y hy => h y (by simp [hy])
    have h2 := h x (by simp)
    have h3 : 0 ≤ x * x := Int.mul_nonneg h2.1 h2.1
    have h4 : x * x ≤ 999 * 999 := Int.le_trans (Int.mul_le_mul_of_nonneg_right h2.2 h2.1) (Int.mul_le_mul_of_nonneg_left h2.2 (by omega))
    simp only [sqL, List.map_cons, List.sum_cons, List.length_cons] at h1 ⊢
    omega
/-- What Squares answers. -/
def sqI (xs : List Int) : Int := if xs.length ≤ 3 ∧ xs.any badW = false then sqL xs else -1
theorem any_bad {xs : List Int} (h : xs.any badW = false) : ∀ x ∈ xs, 0 ≤ x ∧ x ≤ 999 := by
  rw [List.any_eq_false] at h
  intro x hx
  exact (badW_iff x).1 (by simpa using h x hx)
theorem take_bd {xs : List Int} (h : ∀ x ∈ xs, 0 ≤ x ∧ x ≤ 999) (k : Nat) : ∀ x ∈ xs.take k, 0 ≤ x ∧ x ≤ 999 := fun x hx => h x (List.mem_of_mem_take hx)
theorem getD_bd {xs : List Int} (h : ∀ x ∈ xs, 0 ≤ x ∧ x ≤ 999) {k : Nat} (hk : k < xs.length) : 0 ≤ xs.getD k 0 ∧ xs.getD k 0 ≤ 999 := by
  have : xs.getD k 0 = xs[k] := by simp [List.getD, hk]
  rw [this]; exact h _ (List.getElem_mem hk)

end Go.Proofs.Ytnljlehbjdambaa
