/-
  Binomial coefficients, without the program: Pascal's rule, bounds, the product formula.
-/
import Derived.Test.YtnljlehbjdambaaBase
namespace Go.Proofs.Ytnljlehbjdambaa
open Go.RowKit

def choose : Nat → Nat → Nat
  | _, 0 => 1
  | 0, _ + 1 => 0
  | n + 1, k + 1 => choose n k + choose n (k + 1)

theorem choose_zero (n : Nat) : choose n 0 = 1 := by cases n <;> rfl
theorem choose_succ (n k : Nat) : choose (n + 1) (k + 1) = choose n k + choose n (k + 1) := rfl
theorem choose_gt : ∀ (n k : Nat), n < k → choose n k = 0
  | _, 0, h => by omega
  | 0, _ + 1, _ => rfl
  | n + 1, k + 1, h => by rw [choose_succ, choose_gt n k (by omega), choose_gt n (k + 1) (by omega)]
theorem choose_self (n : Nat) : choose n n = 1 := by
  induction n with
  | zero => rfl
  | succ n ih => rw [choose_succ, ih, choose_gt n (n + 1) (by omega)]
theorem choose_le : ∀ (n k : Nat), choose n k ≤ 2 ^ n
  | n, 0 => by rw [choose_zero]; exact Nat.one_le_two_pow
  | 0, k + 1 => by simp [choose]
  | n + 1, k + 1 => by
    have h1 := choose_le n k
    have h2 := choose_le n (k + 1)
    rw [choose_succ, Nat.pow_succ]; omega
theorem choose_le20 {n k : Nat} (h : n ≤ 20) : choose n k ≤ 1048576 := by
  have h1 := choose_le n k
  have h2 : 2 ^ n ≤ 2 ^ 20 := Nat.pow_le_pow_right (by omega) h
  omega
theorem choose_pos : ∀ (n k : Nat), k ≤ n → 0 < choose n k
  | n, 0, _ => by rw [choose_zero]; omega
  | 0, k + 1, h => by omega
  | n + 1, k + 1, h => by
    have := choose_pos n k (by omega)
    rw [choose_succ]; omega
/-- The product formula: the step of the loop that multiplies and divides. -/
theorem choose_step : ∀ (n k : Nat), choose n (k + 1) * (k + 1) = choose n k * (n - k)
  | 0, k => by
    cases k <;> simp [choose]
  | n + 1, 0 => by
    have h := choose_step n 0
    rw [choose_succ, choose_zero] at *
    simp only [choose_zero, Nat.zero_add, Nat.mul_one, Nat.one_mul, Nat.sub_zero] at *
    omega
  | n + 1, k + 1 => by
    have h1 := choose_step n (k + 1)
    have h2 := choose_step n k
    rw [choose_succ, choose_succ]
    rw [Nat.add_mul (choose n (k + 1)), show n + 1 - (k + 1) = n - k from by omega]
    by_cases hk : k < n
    · have e1 : choose n (k + 1) * (k + 1 + 1) = choose n (k + 1) * (k + 1) + choose n (k + 1) := by rw [Nat.mul_add, Nat.mul_one]
      have e2 : n - k = (n - (k + 1)) + 1 := by omega
      rw [e1, h1, h2, Nat.add_mul]
      rw [e2, Nat.mul_add, Nat.mul_add, Nat.mul_one, Nat.mul_one]
      omega
    · have z1 : choose n (k + 1) = 0 := choose_gt _ _ (by omega)
      have z2 : choose n (k + 1 + 1) = 0 := choose_gt _ _ (by omega)
      have z3 : n - k = 0 := by omega
      rw [z1, z2, z3]
      simp

/-- The first m entries of row n of Pascal's triangle, as values. -/
def chRow (n m : Nat) : List Value := (List.range m).map fun j => Value.int .i64 (choose n j : Nat)
theorem chRow_len (n m : Nat) : (chRow n m).length = m := by simp [chRow]
theorem chRow_get {n m j : Nat} (h : j < m) : (chRow n m)[j]? = some (.int .i64 (choose n j : Nat)) := by simp [chRow, h]
theorem chRow_succ (n m : Nat) : chRow n (m + 1) = chRow n m ++ [.int .i64 (choose n m : Nat)] := by simp [chRow, List.range_succ]
theorem chRow_next (n q : Nat) : chRow (n + 1) (q + 2) = chRow (n + 1) (q + 1) ++ [.int .i64 ((choose n q : Nat) + (choose n (q + 1) : Nat) : Int)] := by
  rw [chRow_succ (n + 1) (q + 1), choose_succ]
  simp

/-- What Binomial answers. -/
def binI (n k : Int) : Int := if inB n 0 20 && inB k 0 n then (choose n.toNat k.toNat : Nat) else 0
theorem binI_nat {n k : Nat} (hn : n ≤ 20) (hk : k ≤ n) : binI n k = (choose n k : Nat) := by
  unfold binI
  rw [inB_yes (by omega) (by omega), inB_yes (by omega) (by omega)]
  simp
theorem binI_no {n k : Int} (h : (inB n 0 20 && inB k 0 n) = false) : binI n k = 0 := by simp [binI, h]
theorem binI_bd (n k : Int) : 0 ≤ binI n k ∧ binI n k ≤ 1048576 := by
  unfold binI
  split
  · rename_i h
    simp only [Bool.and_eq_true, inB_iff] at h
    have := choose_le20 (n := n.toNat) (k := k.toNat) (by omega)
    omega
  · omega
end Go.Proofs.Ytnljlehbjdambaa
