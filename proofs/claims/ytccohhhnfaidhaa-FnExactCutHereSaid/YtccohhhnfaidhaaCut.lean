/-
  spec.CutHere and impl.CutHere: each answers cutB n u m v k; the world stays as it is.
-/
import Derived.Test.YtccohhhnfaidhaaLn
namespace Go.Proofs.Ytccohhhnfaidhaa
open Go.RowKit

def cutR (n u m v k : Int) : Bool := inB n 5 1000 && inB m 5 1000 && inB u 0 n && inB v 0 m && inB k 1 9
def cutB (n u m v k : Int) : Bool := cutR n u m v k && decide (lnI k * (n + m) * n * m < (u * m - v * n) * (u * m - v * n) * 2000)

theorem cutB_no {n u m v k : Int} (h : cutR n u m v k = false) : cutB n u m v k = false := by simp [cutB, h]
theorem cutB_yes {n u m v k : Int} (h : cutR n u m v k = true) : cutB n u m v k = decide (lnI k * (n + m) * n * m < (u * m - v * n) * (u * m - v * n) * 2000) := by simp [cutB, h]
theorem cut_ways (a b c d e : Bool) : a = false ∨ (a = true ∧ b = false) ∨ (a = true ∧ b = true ∧ c = false) ∨ (a = true ∧ b = true ∧ c = true ∧ d = false) ∨ (a = true ∧ b = true ∧ c = true ∧ d = true ∧ e = false) ∨ (a = true ∧ b = true ∧ c = true ∧ d = true ∧ e = true) := by
  cases a <;> cases b <;> cases c <;> cases d <;> cases e <;> simp

theorem mul_bd {a b A B : Int} (ha : 0 ≤ a) (hA : a ≤ A) (hb : 0 ≤ b) (hB : b ≤ B) : 0 ≤ a * b ∧ a * b ≤ A * B :=
  ⟨Int.mul_nonneg ha hb, Int.le_trans (Int.mul_le_mul_of_nonneg_right hA hb) (Int.mul_le_mul_of_nonneg_left hB (by omega))⟩
theorem sq_bd {d A : Int} (h1 : -A ≤ d) (h2 : d ≤ A) : 0 ≤ d * d ∧ d * d ≤ A * A := by
  rcases Int.le_total 0 d with h | h
  · exact mul_bd h h2 h h2
  · have := mul_bd (a := -d) (b := -d) (A := A) (B := A) (by omega) (by omega) (by omega) (by omega)
    rwa [Int.neg_mul_neg] at this

set_option maxHeartbeats 1000000 in
theorem sCutHere_any (n u m v k : Int) (w : World) : Calls Try.prog 19 #[.int .i64 n, .int .i64 u, .int .i64 m, .int .i64 v, .int .i64 k] w fun e w' => e = .returned (.bool (cutB n u m v k)) ∧ w = w' := by
  rcases cut_ways (inB n 5 1000) (inB m 5 1000) (inB u 0 n) (inB v 0 m) (inB k 1 9) with h1 | ⟨h1, h2⟩ | ⟨h1, h2, h3⟩ | ⟨h1, h2, h3, h4⟩ | ⟨h1, h2, h3, h4, h5⟩ | ⟨h1, h2, h3, h4, h5⟩
  case inr.inr.inr.inr.inr =>
    have HB := Lib.hid (cutB_yes (n := n) (u := u) (m := m) (v := v) (k := k) (by simp [cutR, *]))
    obtain ⟨n1, n2⟩ := inB_iff.1 h1
    obtain ⟨m1, m2⟩ := inB_iff.1 h2
    obtain ⟨u1, u2⟩ := inB_iff.1 h3
    obtain ⟨v1, v2⟩ := inB_iff.1 h4
    obtain ⟨k1, k2⟩ := lnI_bd k
    obtain ⟨a1, a2⟩ := mul_bd u1 (Int.le_trans u2 n2) (by omega : 0 ≤ m) m2
    obtain ⟨b1, b2⟩ := mul_bd v1 (Int.le_trans v2 m2) (by omega : 0 ≤ n) n2
    obtain ⟨c1, c2⟩ := sq_bd (d := u * m - v * n) (A := 1000000) (by omega) (by omega)
    obtain ⟨d1, d2⟩ := mul_bd k1 k2 (by omega : 0 ≤ n + m) (by omega : n + m ≤ 2000)
    obtain ⟨e1, e2⟩ := mul_bd d1 d2 (by omega : 0 ≤ n) n2
    obtain ⟨f1, f2⟩ := mul_bd e1 e2 (by omega : 0 ≤ m) m2
    clear u1 u2 v1 v2 k1 k2
    go_enter Try.func19, Try.ntmps19
    go_wp2_with (first | (go_at_call 49; refine (l1In_any _ _ _ _).mono ?_; rintro e w' ⟨rfl, rfl⟩) | (go_at_call 51; refine (sLnOf_any _ _).mono ?_; rintro e w' ⟨rfl, rfl⟩))
    go_ret
    exact ⟨by rw [HB.out]; rfl, rfl⟩
  all_goals
    have HB := Lib.hid (cutB_no (n := n) (u := u) (m := m) (v := v) (k := k) (by simp [cutR, *]))
    go_enter Try.func19, Try.ntmps19
    go_wp2_with (go_at_call 49; refine (l1In_any _ _ _ _).mono ?_; rintro e w' ⟨rfl, rfl⟩)
    go_ret
    exact ⟨by rw [HB.out]; rfl, rfl⟩

set_option maxHeartbeats 1000000 in
theorem iCutHere_any (n u m v k : Int) (w : World) : Calls Try.prog 20 #[.int .i64 n, .int .i64 u, .int .i64 m, .int .i64 v, .int .i64 k] w fun e w' => e = .returned (.bool (cutB n u m v k)) ∧ w = w' := by
  rcases cut_ways (inB n 5 1000) (inB m 5 1000) (inB u 0 n) (inB v 0 m) (inB k 1 9) with h1 | ⟨h1, h2⟩ | ⟨h1, h2, h3⟩ | ⟨h1, h2, h3, h4⟩ | ⟨h1, h2, h3, h4, h5⟩ | ⟨h1, h2, h3, h4, h5⟩
  case inr.inr.inr.inr.inr =>
    have HB := Lib.hid (cutB_yes (n := n) (u := u) (m := m) (v := v) (k := k) (by simp [cutR, *]))
    obtain ⟨n1, n2⟩ := inB_iff.1 h1
    obtain ⟨m1, m2⟩ := inB_iff.1 h2
    obtain ⟨u1, u2⟩ := inB_iff.1 h3
    obtain ⟨v1, v2⟩ := inB_iff.1 h4
    obtain ⟨k1, k2⟩ := lnI_bd k
    obtain ⟨a1, a2⟩ := mul_bd u1 (Int.le_trans u2 n2) (by omega : 0 ≤ m) m2
    obtain ⟨b1, b2⟩ := mul_bd v1 (Int.le_trans v2 m2) (by omega : 0 ≤ n) n2
    obtain ⟨c1, c2⟩ := sq_bd (d := u * m - v * n) (A := 1000000) (by omega) (by omega)
    obtain ⟨d1, d2⟩ := mul_bd k1 k2 (by omega : 0 ≤ n + m) (by omega : n + m ≤ 2000)
    obtain ⟨e1, e2⟩ := mul_bd d1 d2 (by omega : 0 ≤ n) n2
    obtain ⟨f1, f2⟩ := mul_bd e1 e2 (by omega : 0 ≤ m) m2
    clear u1 u2 v1 v2 k1 k2
    go_enter Try.func20, Try.ntmps20
    go_wp2_with (first | (go_at_call 50; refine (within_any _ _ _ _).mono ?_; rintro e w' ⟨rfl, rfl⟩) | (go_at_call 52; refine (iLnOf_any _ _).mono ?_; rintro e w' ⟨rfl, rfl⟩))
    go_ret
    exact ⟨by rw [HB.out]; rfl, rfl⟩
  all_goals
    have HB := Lib.hid (cutB_no (n := n) (u := u) (m := m) (v := v) (k := k) (by simp [cutR, *]))
    go_enter Try.func20, Try.ntmps20
    go_wp2_with (go_at_call 50; refine (within_any _ _ _ _).mono ?_; rintro e w' ⟨rfl, rfl⟩)
    go_ret
    exact ⟨by rw [HB.out]; rfl, rfl⟩

end Go.Proofs.Ytccohhhnfaidhaa
