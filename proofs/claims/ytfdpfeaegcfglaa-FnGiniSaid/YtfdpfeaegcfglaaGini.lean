/-
  Gini of both packages.
-/
import Derived.Test.YtfdpfeaegcfglaaFrac
import Derived.Test.YtfdpfeaegcfglaaSquares
namespace Go.Proofs.Ytfdpfeaegcfglaa
open Go.RowKit
set_option linter.unusedSimpArgs false
set_option linter.unusedVariables false

theorem sqL_nonneg (xs : List Int) : 0 ≤ sqL xs := by
  induction xs with
  | nil => simp [sqL]
  | cons x xs ih =>
    have h3 : 0 ≤ x * x := by
      rcases Int.le_total 0 x with h | h
      · exact Int.mul_nonneg h h
      · have := Int.mul_nonneg (a := -x) (b := -x) (by omega) (by omega); rwa [Int.neg_mul_neg] at this
    simp only [sqL, List.map_cons, List.sum_cons] at ih ⊢
    omega
theorem sqI_neg {xs : List Int} (h : sqI xs < 0) : sqI xs = -1 := by
  unfold sqI at *
  split at h
  · have := sqL_nonneg xs; omega
  · rename_i hc; rw [if_neg hc]
theorem sqI_pos {xs : List Int} (h : ¬ sqI xs < 0) : (∀ x ∈ xs, 0 ≤ x ∧ x ≤ 999) ∧ 0 ≤ sqI xs ∧ sqI xs ≤ 2994003 ∧ 0 ≤ xs.sum ∧ xs.sum ≤ 2997 := by
  unfold sqI at *
  split at h
  · rename_i hc
    rw [if_pos hc]
    have hx := any_bad hc.2
    have h1 := sqL_bd xs hx
    have h2 := sum_bd xs hx
    have := hc.1
    exact ⟨hx, by omega, by omega, by omega, by omega⟩
  · exact absurd h (by omega)
def giniN (xs : List Int) : Int := if sqI xs < 0 then 0 else if xs.sum = 0 then 0 else lowN (xs.sum * xs.sum - sqI xs) (xs.sum * xs.sum)
def giniD (xs : List Int) : Int := if sqI xs < 0 then 0 else if xs.sum = 0 then 1 else lowD (xs.sum * xs.sum - sqI xs) (xs.sum * xs.sum)

set_option maxHeartbeats 1000000 in
theorem iGini_any (A : Option Addr) (n c : Nat) (xs : List Int) (w : World) (h : Rd w A n (xs.map (Value.int .i64))) (hn : n ≤ 1073741824) :
    Calls Try.prog 37 #[.slice A n c] w fun e w' => e = .returned (.agg #[.int .i64 (giniN xs), .int .i64 (giniD xs)]) ∧ Below w.heap.size w w' := by
  have H := Lib.hid h
  have HB := Lib.hid (Below.refl (w.heap.size + 1) (w.alloc (.cells #[.int .i64 0, .int .i64 0] 43)))
  clear h
  by_cases hv : sqI xs < 0
  · have e : sqI xs = -1 := sqI_neg hv
    have HN := Lib.hid (show giniN xs = 0 by simp [giniN, e])
    have HD := Lib.hid (show giniD xs = 0 by simp [giniD, e])
    have E := Lib.hid e
    clear hv e
    go_enter Try.func37, Try.ntmps37
    go_wp2_with fail
    refine (iSquares_any A n c xs _ (H.out.below (below_alloc1 _) (Nat.le_refl _)) hn).mono ?_
    rw [E.out]
    rintro e w1 ⟨rfl, rfl⟩
    go_wp2_with fail
    refine bodyPost_ret (v := .agg #[.int .i64 0, .int .i64 0]) (by simp [results, Try.results37, go_sem]) rfl ⟨by rw [HN.out, HD.out], ?_⟩
    go_grown
  · obtain ⟨e0, e1, e2, e3, e4⟩ := sqI_pos hv
    have HX := Lib.hid e0
    by_cases hs : xs.sum = 0
    · have HN := Lib.hid (show giniN xs = 0 by simp [giniN, hv, hs])
      have HD := Lib.hid (show giniD xs = 1 by simp [giniD, hv, hs])
      have HS := Lib.hid hs
      obtain ⟨sq, hsq⟩ : ∃ sq, sqI xs = sq := ⟨_, rfl⟩
      rw [hsq] at hv e1 e2
      have HSq := Lib.hid hsq
      have t1 : (sq == -1) = false := by simp; omega
      clear hs hsq e0 e3 e4
      go_enter Try.func37, Try.ntmps37
      go_wp2_with fail
      refine (iSquares_any A n c xs _ (H.out.below (below_alloc1 _) (Nat.le_refl _)) hn).mono ?_
      rw [HSq.out]
      rintro e w1 ⟨rfl, rfl⟩
      go_wp2_with fail
      refine (iTotal_any A n c xs _ (H.out.below (below_alloc1 _) (Nat.le_refl _)) hn HX.out).mono ?_
      rw [HS.out]
      rintro e w2 ⟨rfl, rfl⟩
      go_wp2_with fail
      refine bodyPost_ret (v := .agg #[.int .i64 0, .int .i64 1]) (by simp [results, Try.results37, go_sem]) rfl ⟨by rw [HN.out, HD.out], ?_⟩
      go_grown
    · have HN := Lib.hid (show giniN xs = lowN (xs.sum * xs.sum - sqI xs) (xs.sum * xs.sum) by simp [giniN, hv, hs])
      have HD := Lib.hid (show giniD xs = lowD (xs.sum * xs.sum - sqI xs) (xs.sum * xs.sum) by simp [giniD, hv, hs])
      obtain ⟨sq, hsq⟩ : ∃ sq, sqI xs = sq := ⟨_, rfl⟩
      obtain ⟨m, hm⟩ : ∃ m, xs.sum = m := ⟨_, rfl⟩
      rw [hsq] at hv e1 e2 HN HD
      rw [hm] at hs e3 e4 HN HD
      have HSq := Lib.hid hsq
      have HM := Lib.hid hm
      have t1 : (sq == -1) = false := by simp; omega
      have t2 : (m == 0) = false := by simpa using hs
      have p1 : 0 ≤ m * m := Int.mul_nonneg e3 e3
      have p2 : m * m ≤ 2997 * 2997 := Int.le_trans (Int.mul_le_mul_of_nonneg_right e4 e3) (Int.mul_le_mul_of_nonneg_left e4 (by omega))
      clear hs hsq hm e0
      go_enter Try.func37, Try.ntmps37
      go_wp2_with fail
      refine (iSquares_any A n c xs _ (H.out.below (below_alloc1 _) (Nat.le_refl _)) hn).mono ?_
      rw [HSq.out]
      rintro e w1 ⟨rfl, rfl⟩
      go_wp2_with fail
      refine (iTotal_any A n c xs _ (H.out.below (below_alloc1 _) (Nat.le_refl _)) hn HX.out).mono ?_
      rw [HM.out]
      rintro e w2 ⟨rfl, rfl⟩
      go_wp2_with fail
      refine (lift (iFracLow_any _ _ _) HB.out (by simp)).mono ?_
      rintro e w3 ⟨rfl, hb⟩
      obtain ⟨bc, bf, bz⟩ := bcell hb
      have c0 : w3.cell? ⟨w.heap.size, 0, none⟩ = some (.int .i64 0) := by rw [bc _ _ (by omega)]; simp [go_sem]
      have c1 : w3.cell? ⟨w.heap.size, 1, none⟩ = some (.int .i64 0) := by rw [bc _ _ (by omega)]; simp [go_sem]
      have f0 : w3.frozen? ⟨w.heap.size, 0, none⟩ = false := by rw [bf _ _ (by omega)]; simp [go_sem]
      have f1 : w3.frozen? ⟨w.heap.size, 1, none⟩ = false := by rw [bf _ _ (by omega)]; simp [go_sem]
      have HB3 := Lib.hid hb
      clear bc bf hb
      go_wp2_with fail
      refine bodyPost_ret (v := .agg #[.int .i64 (lowN (m * m - sq) (m * m)), .int .i64 (lowD (m * m - sq) (m * m))]) (by simp [results, Try.results37, go_sem, c0, c1]) rfl ⟨by rw [HN.out, HD.out], ?_⟩
      have hB2 := fin_below HB3.out (B := w.heap.size) (w := w) (by go_grown) (by omega)
      go_grown

set_option maxHeartbeats 1000000 in
theorem sGini_any (A : Option Addr) (n c : Nat) (xs : List Int) (w : World) (h : Rd w A n (xs.map (Value.int .i64))) (hn : n ≤ 1073741824) :
    Calls Try.prog 49 #[.slice A n c] w fun e w' => e = .returned (.agg #[.int .i64 (giniN xs), .int .i64 (giniD xs)]) ∧ Below w.heap.size w w' := by
  have H := Lib.hid h
  have HB := Lib.hid (Below.refl (w.heap.size + 1) (w.alloc (.cells #[.int .i64 0, .int .i64 0] 43)))
  clear h
  by_cases hv : sqI xs < 0
  · have e : sqI xs = -1 := sqI_neg hv
    have HN := Lib.hid (show giniN xs = 0 by simp [giniN, e])
    have HD := Lib.hid (show giniD xs = 0 by simp [giniD, e])
    have E := Lib.hid e
    clear hv e
    go_enter Try.func49, Try.ntmps49
    go_wp2_with fail
    refine (lift (sSquares_any A n c xs _ (H.out.below (below_alloc1 _) (Nat.le_refl _)) hn) HB.out (by simp)).mono ?_
    rw [E.out]
    rintro e w1 ⟨rfl, hb⟩
    have HB1 := Lib.hid hb
    obtain ⟨bc, bf, bz⟩ := bcell hb
    have c0 : w1.cell? ⟨w.heap.size, 0, none⟩ = some (.int .i64 0) := by rw [bc _ _ (by omega)]; simp [go_sem]
    have c1 : w1.cell? ⟨w.heap.size, 1, none⟩ = some (.int .i64 0) := by rw [bc _ _ (by omega)]; simp [go_sem]
    have f0 : w1.frozen? ⟨w.heap.size, 0, none⟩ = false := by rw [bf _ _ (by omega)]; simp [go_sem]
    have f1 : w1.frozen? ⟨w.heap.size, 1, none⟩ = false := by rw [bf _ _ (by omega)]; simp [go_sem]
    clear bc bf hb
    go_wp2_with fail
    refine bodyPost_ret (v := .agg #[.int .i64 0, .int .i64 0]) (by simp [results, Try.results49, go_sem, c0, c1]) rfl ⟨by rw [HN.out, HD.out], ?_⟩
    have hB2 := fin_below HB1.out (B := w.heap.size) (w := w) (by go_grown) (by omega)
    go_grown
  · obtain ⟨e0, e1, e2, e3, e4⟩ := sqI_pos hv
    have HX := Lib.hid e0
    by_cases hs : xs.sum = 0
    · have HN := Lib.hid (show giniN xs = 0 by simp [giniN, hv, hs])
      have HD := Lib.hid (show giniD xs = 1 by simp [giniD, hv, hs])
      have HS := Lib.hid hs
      obtain ⟨sq, hsq⟩ : ∃ sq, sqI xs = sq := ⟨_, rfl⟩
      rw [hsq] at hv e1 e2
      have HSq := Lib.hid hsq
      have t1 : (sq == -1) = false := by simp; omega
      clear hs hsq e0 e3 e4
      go_enter Try.func49, Try.ntmps49
      go_wp2_with fail
      refine (lift (sSquares_any A n c xs _ (H.out.below (below_alloc1 _) (Nat.le_refl _)) hn) HB.out (by simp)).mono ?_
      rw [HSq.out]
      rintro e w1 ⟨rfl, hb⟩
      have HB1 := Lib.hid hb
      obtain ⟨bc, bf, bz⟩ := bcell hb
      have c0 : w1.cell? ⟨w.heap.size, 0, none⟩ = some (.int .i64 0) := by rw [bc _ _ (by omega)]; simp [go_sem]
      have c1 : w1.cell? ⟨w.heap.size, 1, none⟩ = some (.int .i64 0) := by rw [bc _ _ (by omega)]; simp [go_sem]
      have f0 : w1.frozen? ⟨w.heap.size, 0, none⟩ = false := by rw [bf _ _ (by omega)]; simp [go_sem]
      have f1 : w1.frozen? ⟨w.heap.size, 1, none⟩ = false := by rw [bf _ _ (by omega)]; simp [go_sem]
      clear bc bf hb
      go_wp2_with fail
      refine (sSum_any A n c xs _ (H.out.below (fin_below HB1.out (by go_grown) (by omega)) (Nat.le_refl _)) hn HX.out).mono ?_
      rw [HS.out]
      rintro e w2 ⟨rfl, rfl⟩
      go_wp2_with fail
      refine bodyPost_ret (v := .agg #[.int .i64 0, .int .i64 1]) (by simp [results, Try.results49, go_sem, c0, c1]) rfl ⟨by rw [HN.out, HD.out], ?_⟩
      have hB2 := fin_below HB1.out (B := w.heap.size) (w := w) (by go_grown) (by omega)
      go_grown
    · have HN := Lib.hid (show giniN xs = lowN (xs.sum * xs.sum - sqI xs) (xs.sum * xs.sum) by simp [giniN, hv, hs])
      have HD := Lib.hid (show giniD xs = lowD (xs.sum * xs.sum - sqI xs) (xs.sum * xs.sum) by simp [giniD, hv, hs])
      obtain ⟨sq, hsq⟩ : ∃ sq, sqI xs = sq := ⟨_, rfl⟩
      obtain ⟨m, hm⟩ : ∃ m, xs.sum = m := ⟨_, rfl⟩
      rw [hsq] at hv e1 e2 HN HD
      rw [hm] at hs e3 e4 HN HD
      have HSq := Lib.hid hsq
      have HM := Lib.hid hm
      have t1 : (sq == -1) = false := by simp; omega
      have t2 : (m == 0) = false := by simpa using hs
      have p1 : 0 ≤ m * m := Int.mul_nonneg e3 e3
      have p2 : m * m ≤ 2997 * 2997 := Int.le_trans (Int.mul_le_mul_of_nonneg_right e4 e3) (Int.mul_le_mul_of_nonneg_left e4 (by omega))
      clear hs hsq hm e0
      go_enter Try.func49, Try.ntmps49
      go_wp2_with fail
      refine (lift (sSquares_any A n c xs _ (H.out.below (below_alloc1 _) (Nat.le_refl _)) hn) HB.out (by simp)).mono ?_
      rw [HSq.out]
      rintro e w1 ⟨rfl, hb⟩
      have HB1 := Lib.hid hb
      obtain ⟨bc, bf, bz⟩ := bcell hb
      have c0 : w1.cell? ⟨w.heap.size, 0, none⟩ = some (.int .i64 0) := by rw [bc _ _ (by omega)]; simp [go_sem]
      have c1 : w1.cell? ⟨w.heap.size, 1, none⟩ = some (.int .i64 0) := by rw [bc _ _ (by omega)]; simp [go_sem]
      have f0 : w1.frozen? ⟨w.heap.size, 0, none⟩ = false := by rw [bf _ _ (by omega)]; simp [go_sem]
      have f1 : w1.frozen? ⟨w.heap.size, 1, none⟩ = false := by rw [bf _ _ (by omega)]; simp [go_sem]
      clear bc bf hb
      go_wp2_with fail
      refine (sSum_any A n c xs _ (H.out.below (fin_below HB1.out (by go_grown) (by omega)) (Nat.le_refl _)) hn HX.out).mono ?_
      rw [HM.out]
      rintro e w2 ⟨rfl, rfl⟩
      go_wp2_with fail
      refine (lift (sFracLow_any _ _ _) HB1.out (by simp)).mono ?_
      rintro e w3 ⟨rfl, hb⟩
      clear c0 c1 f0 f1
      obtain ⟨bc, bf, bz⟩ := bcell hb
      have c0 : w3.cell? ⟨w.heap.size, 0, none⟩ = some (.int .i64 0) := by rw [bc _ _ (by omega)]; simp [go_sem]
      have c1 : w3.cell? ⟨w.heap.size, 1, none⟩ = some (.int .i64 0) := by rw [bc _ _ (by omega)]; simp [go_sem]
      have f0 : w3.frozen? ⟨w.heap.size, 0, none⟩ = false := by rw [bf _ _ (by omega)]; simp [go_sem]
      have f1 : w3.frozen? ⟨w.heap.size, 1, none⟩ = false := by rw [bf _ _ (by omega)]; simp [go_sem]
      have HB3 := Lib.hid hb
      clear bc bf hb
      go_wp2_with fail
      refine bodyPost_ret (v := .agg #[.int .i64 (lowN (m * m - sq) (m * m)), .int .i64 (lowD (m * m - sq) (m * m))]) (by simp [results, Try.results49, go_sem, c0, c1]) rfl ⟨by rw [HN.out, HD.out], ?_⟩
      have hB2 := fin_below HB3.out (B := w.heap.size) (w := w) (by go_grown) (by omega)
      go_grown

end Go.Proofs.Ytfdpfeaegcfglaa
