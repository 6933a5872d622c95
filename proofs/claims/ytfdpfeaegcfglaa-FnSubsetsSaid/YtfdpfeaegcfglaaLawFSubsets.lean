/-
  Proved: laws.FnSubsets returns true for every code. Conditions: none.
-/
import Derived.Test.YtfdpfeaegcfglaaDrawA
import Derived.Test.YtfdpfeaegcfglaaSubset
import Derived.Test.YtfdpfeaegcfglaaRank
import Derived.Test.YtfdpfeaegcfglaaObj
import Derived.Test.YtfdpfeaegcfglaaOpen
namespace Go.Proofs.Ytfdpfeaegcfglaa
open Go.ChangeShapes Go.WideShapes Go.ChangeAt Go.RowKit Go.Deep
namespace LawFSubsets
set_option linter.unusedSimpArgs false
set_option linter.unusedVariables false
theorem subG_mem : ∀ (r m rank x j : Nat), rank < choose r m → j < m → (x : Int) ≤ (subG r m rank x).getD j 0 ∧ (subG r m rank x).getD j 0 < x + r
  | r, 0, rank, x, j, _, hj => by omega
  | 0, m + 1, rank, x, j, h, _ => by simp [choose] at h
  | r + 1, m + 1, rank, x, j, h, hj => by
    rw [choose_succ] at h
    by_cases h1 : rank < choose r m
    · rw [subG_in h1]
      cases j with
      | zero => simp; omega
      | succ j =>
        have := subG_mem r m rank (x + 1) j h1 (by omega)
        simp only [List.getD_cons_succ]; omega
    · rw [subG_out h1]
      have := subG_mem r (m + 1) (rank - choose r m) (x + 1) j (by omega) hj
      omega
theorem subG_asc : ∀ (r m rank x j : Nat), rank < choose r m → j + 1 < m → (subG r m rank x).getD j 0 < (subG r m rank x).getD (j + 1) 0
  | r, 0, rank, x, j, _, hj => by omega
  | 0, m + 1, rank, x, j, h, _ => by simp [choose] at h
  | r + 1, m + 1, rank, x, j, h, hj => by
    rw [choose_succ] at h
    by_cases h1 : rank < choose r m
    · rw [subG_in h1]
      cases j with
      | zero =>
        have := subG_mem r m rank (x + 1) 0 h1 (by omega)
        simp only [List.getD_cons_succ, List.getD_cons_zero]; omega
      | succ j =>
        have := subG_asc r m rank (x + 1) j h1 (by omega)
        simp only [List.getD_cons_succ]; omega
    · rw [subG_out h1]
      exact subG_asc r (m + 1) (rank - choose r m) (x + 1) j (by omega) hj
/-- The list of the greater rank is greater at the first place where they differ. -/
theorem subG_lex : ∀ (r m R R' x : Nat), R < R' → R' < choose r m → ∃ i, i < m ∧ (∀ j, j < i → (subG r m R x).getD j 0 = (subG r m R' x).getD j 0) ∧ (subG r m R x).getD i 0 < (subG r m R' x).getD i 0
  | r, 0, R, R', x, h, h' => by rw [choose_zero] at h'; omega
  | 0, m + 1, R, R', x, h, h' => by simp [choose] at h'
  | r + 1, m + 1, R, R', x, h, h' => by
    rw [choose_succ] at h'
    by_cases h1 : R' < choose r m
    · rw [subG_in h1, subG_in (show R < choose r m by omega)]
      obtain ⟨i, hi, he, hl⟩ := subG_lex r m R R' (x + 1) h h1
      refine ⟨i + 1, by omega, fun j hj => ?_, by simpa only [List.getD_cons_succ] using hl⟩
      cases j with
      | zero => simp
      | succ j => simpa only [List.getD_cons_succ] using he j (by omega)
    · rw [subG_out h1]
      by_cases h2 : R < choose r m
      · rw [subG_in h2]
        refine ⟨0, by omega, fun j hj => by omega, ?_⟩
        have := subG_mem r (m + 1) (R' - choose r m) (x + 1) 0 (by omega) (by omega)
        simp only [List.getD_cons_zero]; omega
      · rw [subG_out h2]
        exact subG_lex r (m + 1) _ _ (x + 1) (by omega) (by omega)

theorem rk_sub_go (N K R : Nat) (hN : N ≤ 20) (ys : List Int) (hy : ys = subG N K R 0) (hl : ys.length = K) : ∀ (d x q rank : Nat) (pre : List Int), N - x = d → SubAt N K R q x rank pre → startX ys q ≤ x → 0 ≤ startX ys q →
    (if q < K then rkP N ys q + sumR N ((K : Int) - q - 1) (startX ys q) ((x : Int) - startX ys q).toNat + rank = R else rkP N ys q + rank = R) → rkP N ys K = R := by
  intro d
  induction d with
  | zero =>
    intro x q rank pre hd hs hx h0 he
    obtain ⟨h1, h2, h3, h4, h5⟩ := hs
    by_cases hq : q < K
    · rw [hd] at h4
      obtain ⟨m, hm⟩ : ∃ m, K - q = m + 1 := ⟨K - q - 1, by omega⟩
      rw [hm] at h4
      simp [choose] at h4
    · obtain rfl : q = K := by omega
      rw [if_neg (by omega)] at he
      rw [Nat.sub_self, choose_zero] at h4
      omega
  | succ d ih =>
    intro x q rank pre hd hs hx h0 he
    obtain ⟨h1, h2, h3, h4, h5⟩ := id hs
    by_cases hq : q < K
    · rw [if_pos hq] at he
      have hxN : x < N := by omega
      by_cases hr : rank < choose (N - x - 1) (K - q - 1)
      · have hg : ys.getD q 0 = x := by
          rw [hy, h5, sub_yes hq hxN hr]
          simp [List.getD, ← h3]
        have hs1 : startX ys (q + 1) = x + 1 := by simp only [startX, hg]
        refine ih (x + 1) (q + 1) rank _ (by omega) (hs.yes hq hxN hr) (by rw [hs1]; omega) (by rw [hs1]; omega) ?_
        have e : rkP N ys (q + 1) = rkP N ys q + sumR N ((K : Int) - q - 1) (startX ys q) ((x : Int) - startX ys q).toNat := by
          simp only [rkP, hl, hg]
        rw [hs1, e]
        split
        · rw [show (((x + 1 : Nat) : Int) - ((x : Int) + 1)).toNat = 0 by omega]
          simp only [sumR]; omega
        · exact he
      · have hf := sub_fit h4
        refine ih (x + 1) q (rank - choose (N - x - 1) (K - q - 1)) pre (by omega) (hs.no hq hxN hr) (by omega) h0 ?_
        rw [if_pos hq, show (((x + 1 : Nat) : Int) - startX ys q).toNat = ((x : Int) - startX ys q).toNat + 1 by omega]
        simp only [sumR]
        rw [show (N : Int) - (startX ys q + (((x : Int) - startX ys q).toNat : Int)) - 1 = (N : Int) - x - 1 by omega, sub_with hN hq hxN hf]
        omega
    · obtain rfl : q = K := by omega
      rw [if_neg (by omega)] at he
      rw [Nat.sub_self, choose_zero] at h4
      omega
theorem subOk_rank {n k rank : Int} (h : subOk n k rank = true) : rankOk n (subI n k rank) = true := by
  obtain ⟨N, K, R, rfl, rfl, rfl, hN, hK, hR, he⟩ := subOk_nat h
  rw [he]
  have hl := subG_len N K R 0 hR
  refine rankOk_mk (inB_yes (by omega) (by omega)) fun j hj => ?_
  rw [hl] at hj
  have h1 := subG_mem N K R 0 j hR hj
  refine ⟨by omega, fun h0 => ?_⟩
  have h2 := subG_asc N K R 0 (j - 1) hR (by omega)
  rwa [show j - 1 + 1 = j by omega] at h2
theorem rank_sub {n k rank : Int} (h : subOk n k rank = true) : rankI n (subI n k rank) = rank := by
  rw [rankI_yes (subOk_rank h)]
  obtain ⟨N, K, R, rfl, rfl, rfl, hN, hK, hR, he⟩ := subOk_nat h
  rw [he]
  have hl := subG_len N K R 0 hR
  rw [hl]
  refine rk_sub_go N K R hN _ rfl hl N 0 0 R [] rfl (SubAt.start hR) (by simp [startX]) (by simp [startX]) ?_
  split
  · simp [rkP, startX, sumR]
  · simp [rkP]
theorem sub_next {n k rank : Int} (h : subOk n k rank = true) (h1 : subOk n k (rank + 1) = true) : ∃ i, i < k.toNat ∧ (∀ j, j < i → (subI n k rank).getD j 0 = (subI n k (rank + 1)).getD j 0) ∧ (subI n k rank).getD i 0 < (subI n k (rank + 1)).getD i 0 := by
  obtain ⟨N, K, R, rfl, rfl, rfl, hN, hK, hR, he⟩ := subOk_nat h
  obtain ⟨N', K', R', e1, e2, e3, _, _, hR', he'⟩ := subOk_nat h1
  obtain rfl : N' = N := by omega
  obtain rfl : K' = K := by omega
  rw [he, he']
  exact subG_lex N' K' R R' 0 (by omega) hR'
theorem pascal {n k : Int} (h1 : 1 ≤ n) (h2 : n ≤ 20) (h3 : 1 ≤ k) (h4 : k ≤ n) : binI n k = binI (n - 1) k + binI (n - 1) (k - 1) := by
  obtain ⟨N, rfl⟩ : ∃ N : Nat, n = ((N + 1 : Nat) : Int) := ⟨(n - 1).toNat, by omega⟩
  obtain ⟨K, rfl⟩ : ∃ K : Nat, k = ((K + 1 : Nat) : Int) := ⟨(k - 1).toNat, by omega⟩
  rw [binI_nat (by omega) (by omega), choose_succ, show ((N + 1 : Nat) : Int) - 1 = (N : Int) by omega, show ((K + 1 : Nat) : Int) - 1 = (K : Int) by omega, binI_nat (n := N) (k := K) (by omega) (by omega)]
  by_cases h : K + 1 ≤ N
  · rw [binI_nat (by omega) h]; omega
  · rw [binI_no (n := N) (by simp [inB]; omega), choose_gt N (K + 1) (by omega)]; omega

theorem iSub_yes (N K R : Nat) (w : World) (h : subOk N K R = true) : Calls Try.prog 24 #[.int .i64 (N : Nat), .int .i64 (K : Nat), .int .i64 (R : Nat)] w fun e w' =>
    ∃ A c, e = .returned (.slice A K c) ∧ w'.ownsRow w.heap.size 3 1 (.slice A K c) K ((subI N K R).map (Value.int .i64)) ∧ Below w.heap.size w w' := by
  have := iSubsetAt_yes N K R w h
  simpa only [Int.toNat_natCast] using this
theorem iSub_up (N K R : Nat) (w : World) (h : subOk N K ((R : Int) + 1) = true) : Calls Try.prog 24 #[.int .i64 (N : Nat), .int .i64 (K : Nat), .int .i64 ((R : Int) + 1)] w fun e w' =>
    ∃ A c, e = .returned (.slice A K c) ∧ w'.ownsRow w.heap.size 3 1 (.slice A K c) K ((subI N K ((R : Int) + 1)).map (Value.int .i64)) ∧ Below w.heap.size w w' := by
  have := iSubsetAt_yes N K ((R : Int) + 1) w h
  simpa only [Int.toNat_natCast] using this
theorem sub_up {N K R : Nat} {q : Int} (h : subOk N K R = true) (hq : binI N K = q) (h1 : (R : Int) + 1 < q) : subOk N K ((R : Int) + 1) = true := by
  unfold subOk at *
  exact inB_yes (by omega) (by omega)
theorem sub_ways (a k r : Int) :
    (∃ (N K R : Nat) (q : Int), a = N ∧ k = K ∧ r = R ∧ N ≤ 20 ∧ K ≤ N ∧ (R : Int) < q ∧ q ≤ 1048576 ∧ Hid (subOk N K R = true) ∧ Hid (binI N K = q) ∧ Hid (rankI N (subI N K R) = R) ∧
      ((1 ≤ N ∧ 1 ≤ K ∧ ∃ q1 q2, q = q1 + q2 ∧ 0 ≤ q1 ∧ q1 ≤ 1048576 ∧ 0 ≤ q2 ∧ q2 ≤ 1048576 ∧ Hid (binI ((N : Int) - 1) K = q1) ∧ Hid (binI ((N : Int) - 1) ((K : Int) - 1) = q2)) ∨ ¬ 1 ≤ N ∨ (1 ≤ N ∧ ¬ 1 ≤ K))) ∨
    (∃ q : Int, (r < 0 ∨ (0 ≤ r ∧ q ≤ r)) ∧ Hid (subOk a k r = false) ∧ Hid (binI a k = q) ∧
      ((1 ≤ a ∧ a ≤ 20 ∧ 1 ≤ k ∧ k ≤ a ∧ ∃ q1 q2, q = q1 + q2 ∧ 0 ≤ q1 ∧ q1 ≤ 1048576 ∧ 0 ≤ q2 ∧ q2 ≤ 1048576 ∧ Hid (binI (a - 1) k = q1) ∧ Hid (binI (a - 1) (k - 1) = q2)) ∨
        (a < 1 ∨ (1 ≤ a ∧ 20 < a) ∨ (1 ≤ a ∧ a ≤ 20 ∧ k < 1) ∨ (1 ≤ a ∧ a ≤ 20 ∧ 1 ≤ k ∧ a < k)))) := by
  have bb := binI_bd a k
  cases h : subOk a k r
  · right
    refine ⟨binI a k, ?_, rfl, rfl, ?_⟩
    · unfold subOk at h
      by_cases h1 : r < 0
      · exact .inl h1
      · refine .inr ⟨by omega, ?_⟩
        by_cases h2 : binI a k ≤ r
        · exact h2
        · rw [inB_yes (by omega) (by omega)] at h; cases h
    · by_cases hc : 1 ≤ a ∧ a ≤ 20 ∧ 1 ≤ k ∧ k ≤ a
      · obtain ⟨c1, c2, c3, c4⟩ := hc
        have b1 := binI_bd (a - 1) k
        have b2 := binI_bd (a - 1) (k - 1)
        exact .inl ⟨c1, c2, c3, c4, _, _, pascal c1 c2 c3 c4, b1.1, b1.2, b2.1, b2.2, rfl, rfl⟩
      · exact .inr (by omega)
  · left
    obtain ⟨N, K, R, rfl, rfl, rfl, hN, hK, hR, _⟩ := subOk_nat h
    have hl := (inB_iff.1 h).2
    refine ⟨N, K, R, binI N K, rfl, rfl, rfl, hN, hK, by omega, bb.2, h, rfl, rank_sub h, ?_⟩
    by_cases h1 : 1 ≤ N
    · by_cases h2 : 1 ≤ K
      · have b1 := binI_bd ((N : Int) - 1) K
        have b2 := binI_bd ((N : Int) - 1) ((K : Int) - 1)
        exact .inl ⟨h1, h2, _, _, pascal (by omega) (by omega) (by omega) (by omega), b1.1, b1.2, b2.1, b2.2, rfl, rfl⟩
      · exact .inr (.inr ⟨h1, h2⟩)
    · exact .inr (.inl h1)

theorem u8wf {z : Int} (h : (Lit.int .u8 z).wf = true) : 0 ≤ z ∧ z ≤ 255 := by
  simp [Lit.wf, IntKind.min, IntKind.max, IntKind.bits, IntKind.signed] at h
  omega

theorem big_no (A : Option Addr) (n c : Nat) (w : World) (h : n ≤ 1048576) : Calls Try.prog 15 #[.slice A n c] w fun e w' => e = .returned (.bool false) ∧ w = w' := by
  go_enter Try.func15, Try.ntmps15
  go_wp2
  go_ret
  exact ⟨by simp; omega, rfl⟩
theorem big_yes (A : Option Addr) (n c : Nat) (w : World) (h : ¬ n ≤ 1048576) : Calls Try.prog 15 #[.slice A n c] w fun e w' => e = .returned (.bool true) ∧ w = w' := by
  go_enter Try.func15, Try.ntmps15
  go_wp2
  go_ret
  exact ⟨by simp; omega, rfl⟩

set_option maxRecDepth 50000 in
set_option maxHeartbeats 8000000 in
theorem walkIn (w : World) (A : Option Addr) (n c : Nat) (xs : List Int) (hn : n ≤ 1048576) (HR : Hid (Rd w A n (xs.map (Value.int .u8)))) (HU : Hid (∀ z ∈ xs, 0 ≤ z ∧ z ≤ 255)) :
    Calls Try.prog 6 #[.slice A n c] w fun e w' => e = .returned (.bool true) ∧ Below w.heap.size w w' := by
  have B0 := Below.refl w.heap.size w
  have s0 : w.heap.size ≤ w.heap.size := Nat.le_refl _
  go_enter Try.func6, Try.ntmps6
  go_wp2_with fail
  refine (big_no A n c _ hn).mono ?_
  rintro e w1 ⟨rfl, rfl⟩
  go_wp2_with fail
  refine (sDrawSubsetAt_any A n c xs _ HR.out HU.out (by omega)).mono ?_
  rintro e w1 ⟨a, k, r, rfl, b⟩
  have t_1 := b.size
  have z_1 : w.heap.size ≤ w1.heap.size := by omega
  have B_1 := B0.trans (b.mono (by omega))
  clear B0 b
  rcases sub_ways a k r with ⟨N, K, R, q, rfl, rfl, rfl, hN, hK, hR, hq, HOk, HQ, HRk, hp⟩ | ⟨q, hr, HOk, HQ, hp⟩
  · rcases hp with ⟨p1, p2, q1, q2, hq12, h1, h1', h2, h2', HQ1, HQ2⟩ | hp | hp
    · skip
      go_wp2_with fail
      refine (iSub_yes N K R _ HOk.out).mono ?_
      rintro e w2 ⟨A1, c1, rfl, o, b⟩
      have t_3 := b.size
      have z_3 : w.heap.size ≤ w2.heap.size := by omega
      have B_3 := B_1.trans (b.mono (by omega))
      clear B_1 b
      have xs_3 := Ow.of o
      clear o
      go_wp2_with fail
      refine (iBinomial_any N K _).mono ?_
      rw [HQ.out]
      rintro e w3 ⟨rfl, rfl⟩
      go_wp2_with fail
      refine (sBinomial_any N K _).mono ?_
      rw [HQ.out]
      rintro e w3 ⟨rfl, b⟩
      have t_5 := b.size
      have z_5 : w.heap.size ≤ w3.heap.size := by omega
      have xs_6 := xs_3.same (same_below b (by omega))
      clear xs_3
      have B_5 := B_3.trans (b.mono (by omega))
      clear B_3 b
      go_wp2_with fail
      refine (iBinomial_any ((N : Int) - 1) K _).mono ?_
      rw [HQ1.out]
      rintro e w4 ⟨rfl, rfl⟩
      go_wp2_with fail
      refine (iBinomial_any ((N : Int) - 1) ((K : Int) - 1) _).mono ?_
      rw [HQ2.out]
      rintro e w4 ⟨rfl, rfl⟩
      go_wp2_with fail
      refine (iRankAt_any N _ K _ (subI N K R) _ xs_6.rd (by omega)).mono ?_
      rw [HRk.out]
      rintro e w4 ⟨rfl, b⟩
      have t_7 := b.size
      have z_7 : w.heap.size ≤ w4.heap.size := by omega
      have xs_8 := xs_6.same (same_below b (by omega))
      clear xs_6
      have B_7 := B_5.trans (b.mono (by omega))
      clear B_5 b
      by_cases hm : q ≤ (R : Int) + 1
      · skip
        go_wp2_with fail
        go_ret
        exact ⟨rfl, B_7⟩
      · have HO1 := Lib.hid (sub_up HOk.out HQ.out (by omega))
        go_wp2_with fail
        refine (iSub_up N K R _ HO1.out).mono ?_
        rintro e w5 ⟨A2, c2, rfl, o, b⟩
        have t_9 := b.size
        have z_9 : w.heap.size ≤ w5.heap.size := by omega
        have xs_10 := xs_8.same (same_below b (by omega))
        clear xs_8
        have B_9 := B_7.trans (b.mono (by omega))
        clear B_7 b
        have ys_9 := Ow.of o
        clear o
        obtain ⟨i0, hi0, heq, hlt⟩ := sub_next HOk.out HO1.out
        simp only [Int.toNat_natCast] at hi0
        have HE := Lib.hid heq; have HLt := Lib.hid hlt
        clear heq hlt
        have hx := xs_10.rd
        have hy := ys_9.rd
        have HLx := Lib.hid (show (subI N K R).length = K by simpa using hx.len)
        have HLy := Lib.hid (show (subI N K ((R : Int) + 1)).length = K by simpa using hy.len)
        obtain ⟨b1, o1, e1, l1, hc1⟩ := hx.ex (by omega)
        obtain ⟨b2, o2, e2, l2, hc2⟩ := hy.ex (by omega)
        subst e1 e2
        have H1 := Lib.hid hc1; have H2 := Lib.hid hc2; have HBB := Lib.hid B_9
        clear hx hy hc1 hc2 B_9 xs_10 ys_9
        go_wp2_with fail
        go_loopw [9] (fun i wr => ∃ k : Nat, k ≤ i0 ∧ i = .int .i64 k ∧ Below w5.heap.size w5 wr) (fun i _ => i0 + 1 - (intOf i).toNat)
        case atStart => exact ⟨0, Nat.zero_le _, rfl, Below.refl _ _⟩
        case round =>
          obtain ⟨k, hk, rfl, hbel⟩ := hrel
          have hx : wr.cell? ⟨b1, o1 + k, none⟩ = some (.int .i64 ((subI N K R).getD k 0)) := (hbel.cell (p := ⟨b1, o1 + k, none⟩) l1).trans (H1.out k _ (getCell (by rw [HLx.out]; omega)))
          have hy : wr.cell? ⟨b2, o2 + k, none⟩ = some (.int .i64 ((subI N K ((R : Int) + 1)).getD k 0)) := (hbel.cell (p := ⟨b2, o2 + k, none⟩) l2).trans (H2.out k _ (getCell (by rw [HLy.out]; omega)))
          have n1 : (k : Int) < (K : Int) := by omega
          have n0 : (0 : Int) ≤ (k : Int) := Int.natCast_nonneg _
          by_cases hki : k = i0
          · subst hki
            have hl := HLt.out
            obtain ⟨x, hxx⟩ : ∃ x, (subI N K R).getD k 0 = x := ⟨_, rfl⟩
            obtain ⟨y, hyy⟩ : ∃ y, (subI N K ((R : Int) + 1)).getD k 0 = y := ⟨_, rfl⟩
            rw [hxx] at hx hl; rw [hyy] at hy hl
            have hne : ¬ x = y := by omega
            have HBel := Lib.hid hbel
            clear hbel hxx hyy hk
            go_wp2_with fail
            go_quiet (fail)
            go_wp2_with fail
            go_quiet (fail)
            go_wp2_with fail
            go_ret
            exact ⟨rfl, HBB.out.trans (Below.mono (B := w5.heap.size) (Below.trans HBel.out (by repeat (first | exact Below.refl _ _ | apply below_drewN | apply Below.drew))) z_9)⟩
          · have he := HE.out k (by omega)
            obtain ⟨x, hxx⟩ : ∃ x, (subI N K R).getD k 0 = x := ⟨_, rfl⟩
            rw [← he, hxx] at hy; rw [hxx] at hx
            have HBel := Lib.hid hbel
            clear hbel hxx he
            go_wp2_with fail
            go_quiet (fail)
            go_wp2_with fail
            go_roundw
            case rel => exact ⟨k + 1, by omega, by go_num, Below.trans HBel.out (by repeat (first | exact Below.refl _ _ | apply below_drewN | apply Below.drew))⟩
            case measure => simp [intOf]; omega
    · skip
      go_wp2_with fail
      refine (iSub_yes N K R _ HOk.out).mono ?_
      rintro e w2 ⟨A1, c1, rfl, o, b⟩
      have t_3 := b.size
      have z_3 : w.heap.size ≤ w2.heap.size := by omega
      have B_3 := B_1.trans (b.mono (by omega))
      clear B_1 b
      have xs_3 := Ow.of o
      clear o
      go_wp2_with fail
      refine (iBinomial_any N K _).mono ?_
      rw [HQ.out]
      rintro e w3 ⟨rfl, rfl⟩
      go_wp2_with fail
      refine (sBinomial_any N K _).mono ?_
      rw [HQ.out]
      rintro e w3 ⟨rfl, b⟩
      have t_5 := b.size
      have z_5 : w.heap.size ≤ w3.heap.size := by omega
      have xs_6 := xs_3.same (same_below b (by omega))
      clear xs_3
      have B_5 := B_3.trans (b.mono (by omega))
      clear B_3 b
      go_wp2_with fail
      refine (iRankAt_any N _ K _ (subI N K R) _ xs_6.rd (by omega)).mono ?_
      rw [HRk.out]
      rintro e w4 ⟨rfl, b⟩
      have t_7 := b.size
      have z_7 : w.heap.size ≤ w4.heap.size := by omega
      have xs_8 := xs_6.same (same_below b (by omega))
      clear xs_6
      have B_7 := B_5.trans (b.mono (by omega))
      clear B_5 b
      by_cases hm : q ≤ (R : Int) + 1
      · skip
        go_wp2_with fail
        go_ret
        exact ⟨rfl, B_7⟩
      · have HO1 := Lib.hid (sub_up HOk.out HQ.out (by omega))
        exfalso
        obtain ⟨i0, hi0, _⟩ := sub_next HOk.out HO1.out
        simp only [Int.toNat_natCast] at hi0
        omega
    · skip
      go_wp2_with fail
      refine (iSub_yes N K R _ HOk.out).mono ?_
      rintro e w2 ⟨A1, c1, rfl, o, b⟩
      have t_3 := b.size
      have z_3 : w.heap.size ≤ w2.heap.size := by omega
      have B_3 := B_1.trans (b.mono (by omega))
      clear B_1 b
      have xs_3 := Ow.of o
      clear o
      go_wp2_with fail
      refine (iBinomial_any N K _).mono ?_
      rw [HQ.out]
      rintro e w3 ⟨rfl, rfl⟩
      go_wp2_with fail
      refine (sBinomial_any N K _).mono ?_
      rw [HQ.out]
      rintro e w3 ⟨rfl, b⟩
      have t_5 := b.size
      have z_5 : w.heap.size ≤ w3.heap.size := by omega
      have xs_6 := xs_3.same (same_below b (by omega))
      clear xs_3
      have B_5 := B_3.trans (b.mono (by omega))
      clear B_3 b
      go_wp2_with fail
      refine (iRankAt_any N _ K _ (subI N K R) _ xs_6.rd (by omega)).mono ?_
      rw [HRk.out]
      rintro e w4 ⟨rfl, b⟩
      have t_7 := b.size
      have z_7 : w.heap.size ≤ w4.heap.size := by omega
      have xs_8 := xs_6.same (same_below b (by omega))
      clear xs_6
      have B_7 := B_5.trans (b.mono (by omega))
      clear B_5 b
      by_cases hm : q ≤ (R : Int) + 1
      · skip
        go_wp2_with fail
        go_ret
        exact ⟨rfl, B_7⟩
      · have HO1 := Lib.hid (sub_up HOk.out HQ.out (by omega))
        exfalso
        obtain ⟨i0, hi0, _⟩ := sub_next HOk.out HO1.out
        simp only [Int.toNat_natCast] at hi0
        omega
  · rcases hp with ⟨p1, p2, p3, p4, q1, q2, hq12, h1, h1', h2, h2', HQ1, HQ2⟩ | hp
    · skip
      rcases hr with hr | hr
      all_goals
        go_wp2_with fail
        refine (iSubsetAt_no a k r _ HOk.out).mono ?_
        rintro e w2 ⟨rfl, rfl⟩
        go_wp2_with fail
        refine (iBinomial_any a k _).mono ?_
        rw [HQ.out]
        rintro e w2 ⟨rfl, rfl⟩
        go_wp2_with fail
        refine (sBinomial_any a k _).mono ?_
        rw [HQ.out]
        rintro e w2 ⟨rfl, b⟩
        have t_3 := b.size
        have z_3 : w.heap.size ≤ w2.heap.size := by omega
        have B_3 := B_1.trans (b.mono (by omega))
        clear B_1 b
        go_wp2_with fail
        refine (iBinomial_any (a - 1) k _).mono ?_
        rw [HQ1.out]
        rintro e w3 ⟨rfl, rfl⟩
        go_wp2_with fail
        refine (iBinomial_any (a - 1) (k - 1) _).mono ?_
        rw [HQ2.out]
        rintro e w3 ⟨rfl, rfl⟩
        go_wp2_with fail
        go_ret
        exact ⟨rfl, B_3⟩
    · skip
      rcases hr with hr | hr <;> rcases hp with hp | hp | hp | hp
      all_goals
        go_wp2_with fail
        refine (iSubsetAt_no a k r _ HOk.out).mono ?_
        rintro e w2 ⟨rfl, rfl⟩
        go_wp2_with fail
        refine (iBinomial_any a k _).mono ?_
        rw [HQ.out]
        rintro e w2 ⟨rfl, rfl⟩
        go_wp2_with fail
        refine (sBinomial_any a k _).mono ?_
        rw [HQ.out]
        rintro e w2 ⟨rfl, b⟩
        have t_3 := b.size
        have z_3 : w.heap.size ≤ w2.heap.size := by omega
        have B_3 := B_1.trans (b.mono (by omega))
        clear B_1 b
        go_wp2_with fail
        go_ret
        exact ⟨rfl, B_3⟩

theorem walk (w : World) (A : Option Addr) (n c : Nat) (xs : List Int) (hl : n ≤ c) (hm : c ≤ maxLen) (hr : Rd w A n (xs.map (Value.int .u8))) (hu : ∀ z ∈ xs, (Lit.int .u8 z).wf = true) :
    Calls Try.prog 6 #[.slice A n c] w fun e w' => e = .returned (.bool true) ∧ Below w.heap.size w w' := by
  unfold maxLen at hm
  have HR := Lib.hid hr
  have HU : Hid (∀ z ∈ xs, 0 ≤ z ∧ z ≤ 255) := fun z hz => u8wf (hu z hz)
  clear hr hu
  by_cases hn : n ≤ 1048576
  · exact walkIn w A n c xs hn HR HU
  · go_enter Try.func6, Try.ntmps6
    go_wp2_with fail
    refine (big_yes A n c w hn).mono ?_
    rintro e _ ⟨rfl, rfl⟩
    go_wp2_with fail
    go_ret
    exact ⟨rfl, Below.refl _ _⟩

theorem walks : Walks 6 Try.f6 := by
  intro H enc W base args ds ps hval hA _
  rw [Try.params6] at hA hval
  obtain ⟨v0, vs0, d0, ds0, p0, q0, hargs, rfl, rfl, h0, r0⟩ := trodAll_cons hA
  obtain ⟨rfl, rfl, rfl⟩ := trodAll_nil r0
  obtain rfl : args = #[v0] := by cases args; simp_all
  obtain ⟨f0, y0, z0⟩ := slice_cell Try.underlying22 (hval 0 22 v0 rfl rfl) h0
  obtain ⟨A0, n0, c0, a0, rfl, hl0, hm0, hr0, w0⟩ := open_ints_rd Try.underlying22 (by kernel_rfl) Try.underlying5 z0
  exact walk (w := W) A0 n0 c0 a0 hl0 hm0 hr0 w0

set_option maxRecDepth 100000 in
theorem lifted (os : Os) (started : os.Started) (H : Type) (enc : TypeId × Value → H) :
    ReturnsInHanded {} Try.checked os 6 .any (Rows.fnSubsetsSpec.pre6 enc Try.prog Try.f6 Rows.fnSubsetsRow.domain false) (Rows.fnSubsetsSpec.post enc Try.prog Try.f6 false true false false) :=
  law_lifted started (by kernel_rfl) Try.func6
    (ChangeSpec.witness6 (enc := enc) (C := Try.checked) false ⟨#[], #[.slice none 0 0], []⟩ 8 (by kernel_rfl) (by kernel_rfl) (by kernel_rfl) (by kernel_rfl))
    rfl rfl Try.underlying4 (fun ds h => match ds, h with | [_], _ => rfl) (by
      rw [Try.params6]
      intro t ht
      simp only [List.mem_cons, List.not_mem_nil, or_false] at ht
      subst ht
      exact ⟨by kernel_rfl, of_decide_eq_true (by kernel_rfl)⟩) walks

theorem over : Rows.fnSubsetsRow.holds Try.pinned (OpenSpec.ofChange Rows.fnSubsetsSpec) :=
  OpenClaim.holds_of_wide 6 Try.f6 rfl rfl rfl rfl rfl rfl rfl ⟨rfl, rfl, rfl, rfl, rfl⟩ rfl rfl rfl rfl rfl (by kernel_rfl) Try.func6 (by kernel_rfl)
    (of_decide_eq_true (by kernel_rfl)) (by unfold Func.isWrapper; first | (rw [if_pos (by decide +kernel)]; kernel_rfl) | (rw [if_neg (by decide +kernel)]; exact ⟨rfl, rfl⟩))
    (fun os started H enc _ => lifted os started H enc)

theorem proved : Rows.FnSubsetsSaid := over
#print axioms proved

end LawFSubsets
end Go.Proofs.Ytfdpfeaegcfglaa
