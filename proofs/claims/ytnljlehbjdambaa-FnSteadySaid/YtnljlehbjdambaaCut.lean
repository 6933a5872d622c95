/-
  spec.CutHere and impl.CutHere: each answers cutB n u m v k; the world stays as it is.
-/
import Derived.Test.YtnljlehbjdambaaLn
import Derived.Test.YtnljlehbjdambaaMul
namespace Go.Proofs.Ytnljlehbjdambaa
open Go.RowKit

def cutR (n u m v k : Int) : Bool := inB n 5 1000 && inB m 5 1000 && inB u 0 n && inB v 0 m && inB k 1 9
def cutB (n u m v k : Int) : Bool := cutR n u m v k && decide (lnI k * (n + m) * n * m < (u * m - v * n) * (u * m - v * n) * 2000)

theorem cutB_no {n u m v k : Int} (h : cutR n u m v k = false) : cutB n u m v k = false := by simp [cutB, h]
theorem cutB_yes {n u m v k : Int} (h : cutR n u m v k = true) : cutB n u m v k = decide (lnI k * (n + m) * n * m < (u * m - v * n) * (u * m - v * n) * 2000) := by simp [cutB, h]
theorem cut_ways (a b c d e : Bool) : a = false ∨ (a = true ∧ b = false) ∨ (a = true ∧ b = true ∧ c = false) ∨ (a = true ∧ b = true ∧ c = true ∧ d = false) ∨ (a = true ∧ b = true ∧ c = true ∧ d = true ∧ e = false) ∨ (a = true ∧ b = true ∧ c = true ∧ d = true ∧ e = true) := by
  cases a <;> cases b <;> cases c <;> cases d <;> cases e <;> simp

set_option maxHeartbeats 1000000 in
theorem iCutHere_any (n u m v k : Int) (w : World) : Calls Try.prog 13 #[.int .i64 n, .int .i64 u, .int .i64 m, .int .i64 v, .int .i64 k] w fun e w' => e = .returned (.bool (cutB n u m v k)) ∧ w = w' := by
  rcases cut_ways (inB n 5 1000) (inB m 5 1000) (inB u 0 n) (inB v 0 m) (inB k 1 9) with h1 | ⟨h1, h2⟩ | ⟨h1, h2, h3⟩ | ⟨h1, h2, h3, h4⟩ | ⟨h1, h2, h3, h4, h5⟩ | ⟨h1, h2, h3, h4, h5⟩
  case inr.inr.inr.inr.inr =>
    have HB := Lib.hid (cutB_yes (n := n) (u := u) (m := m) (v := v) (k := k) (by simp [cutR, *]))
    obtain ⟨n1, n2⟩ := inB_iff.1 h1
    obtain ⟨m1, m2⟩ := inB_iff.1 h2
    obtain ⟨u1, u2⟩ := inB_iff.1 h3
    obtain ⟨v1, v2⟩ := inB_iff.1 h4
    obtain ⟨k1, k2⟩ := lnI_bd k
    obtain ⟨a1, a2⟩ := mul_bd u1 (Int.le_trans u2 n2) (by omega : 0 ≤ m) m2
    obtain ⟨b1, b2⟩ := mul_bd v1 (Int.le_trans v2 m2) (by omega : 0 ≤ n) n2
    obtain ⟨c1, c2⟩ := sq_bd (d := u * m - v * n) (A := 1000000) (by omega) (by omega)
    obtain ⟨d1, d2⟩ := mul_bd k1 k2 (by omega : 0 ≤ n + m) (by omega : n + m ≤ 2000)
    obtain ⟨e1, e2⟩ := mul_bd d1 d2 (by omega : 0 ≤ n) n2
    obtain ⟨f1, f2⟩ := mul_bd e1 e2 (by omega : 0 ≤ m) m2
    clear u1 u2 v1 v2 k1 k2
    go_enter Try.func13, Try.ntmps13
    go_wp2_with (first | (go_at_call 30; refine (within_any _ _ _ _).mono ?_; rintro e w' ⟨rfl, rfl⟩) | (go_at_call 33; refine (iLnOf_any _ _).mono ?_; rintro e w' ⟨rfl, rfl⟩))
    go_ret
    exact ⟨by rw [HB.out]; rfl, rfl⟩
  all_goals
    have HB := Lib.hid (cutB_no (n := n) (u := u) (m := m) (v := v) (k := k) (by simp [cutR, *]))
    go_enter Try.func13, Try.ntmps13
    go_wp2_with (go_at_call 30; refine (within_any _ _ _ _).mono ?_; rintro e w' ⟨rfl, rfl⟩)
    go_ret
    exact ⟨by rw [HB.out]; rfl, rfl⟩

end Go.Proofs.Ytnljlehbjdambaa
