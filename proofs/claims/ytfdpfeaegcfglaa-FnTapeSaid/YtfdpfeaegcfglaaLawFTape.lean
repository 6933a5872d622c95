/-
  Proved: laws.FnTape returns true for every code. Conditions: none.
-/
import Derived.Test.YtfdpfeaegcfglaaDrawT2
import Derived.Test.YtfdpfeaegcfglaaSubset
import Derived.Test.YtfdpfeaegcfglaaRank
import Derived.Test.YtfdpfeaegcfglaaObj
import Derived.Test.YtfdpfeaegcfglaaOpen
import Derived.Lib.QuietBelow
import Derived.Laws.BytesArg
namespace Go.Proofs.Ytfdpfeaegcfglaa
open Go.ChangeShapes Go.WideShapes Go.ChangeAt Go.RowKit Go.Deep
namespace LawFTape
set_option linter.unusedSimpArgs false
set_option linter.unusedVariables false
open Go.Sort
theorem subG_mem : ∀ (r m rank x j : Nat), rank < choose r m → j < m → (x : Int) ≤ (subG r m rank x).getD j 0 ∧ (subG r m rank x).getD j 0 < x + r
  | r, 0, rank, x, j, _, hj => by omega
  | 0, m + 1, rank, x, j, h, _ => by simp [choose] at h
  | r + 1, m + 1, rank, x, j, h, hj => by
    rw [choose_succ] at h
    by_cases h1 : rank < choose r m
    · rw [subG_in h1]
      cases j with
      | zero => simp; omega
      | succ j =>
        have := subG_mem r m rank (x + 1) j h1 (by omega)
        simp only [List.getD_cons_succ]; omega
    · rw [subG_out h1]
      have := subG_mem r (m + 1) (rank - choose r m) (x + 1) j (by omega) hj
      omega
theorem subG_asc : ∀ (r m rank x j : Nat), rank < choose r m → j + 1 < m → (subG r m rank x).getD j 0 < (subG r m rank x).getD (j + 1) 0
  | r, 0, rank, x, j, _, hj => by omega
  | 0, m + 1, rank, x, j, h, _ => by simp [choose] at h
  | r + 1, m + 1, rank, x, j, h, hj => by
    rw [choose_succ] at h
    by_cases h1 : rank < choose r m
    · rw [subG_in h1]
      cases j with
      | zero =>
        have := subG_mem r m rank (x + 1) 0 h1 (by omega)
        simp only [List.getD_cons_succ, List.getD_cons_zero]; omega
      | succ j =>
        have := subG_asc r m rank (x + 1) j h1 (by omega)
        simp only [List.getD_cons_succ]; omega
    · rw [subG_out h1]
      exact subG_asc r (m + 1) (rank - choose r m) (x + 1) j (by omega) hj
/-- The list of the greater rank is greater at the first place where they differ. -/
theorem subG_lex : ∀ (r m R R' x : Nat), R < R' → R' < choose r m → ∃ i, i < m ∧ (∀ j, j < i → (subG r m R x).getD j 0 = (subG r m R' x).getD j 0) ∧ (subG r m R x).getD i 0 < (subG r m R' x).getD i 0
  | r, 0, R, R', x, h, h' => by rw [choose_zero] at h'; omega
  | 0, m + 1, R, R', x, h, h' => by simp [choose] at h'
  | r + 1, m + 1, R, R', x, h, h' => by
    rw [choose_succ] at h'
    by_cases h1 : R' < choose r m
    · rw [subG_in h1, subG_in (show R < choose r m by omega)]
      obtain ⟨i, hi, he, hl⟩ := subG_lex r m R R' (x + 1) h h1
      refine ⟨i + 1, by omega, fun j hj => ?_, by simpa only [List.getD_cons_succ] using hl⟩
      cases j with
      | zero => simp
      | succ j => simpa only [List.getD_cons_succ] using he j (by omega)
    · rw [subG_out h1]
      by_cases h2 : R < choose r m
      · rw [subG_in h2]
        refine ⟨0, by omega, fun j hj => by omega, ?_⟩
        have := subG_mem r (m + 1) (R' - choose r m) (x + 1) 0 (by omega) (by omega)
        simp only [List.getD_cons_zero]; omega
      · rw [subG_out h2]
        exact subG_lex r (m + 1) _ _ (x + 1) (by omega) (by omega)

theorem rk_sub_go (N K R : Nat) (hN : N ≤ 20) (ys : List Int) (hy : ys = subG N K R 0) (hl : ys.length = K) : ∀ (d x q rank : Nat) (pre : List Int), N - x = d → SubAt N K R q x rank pre → startX ys q ≤ x → 0 ≤ startX ys q →
    (if q < K then rkP N ys q + sumR N ((K : Int) - q - 1) (startX ys q) ((x : Int) - startX ys q).toNat + rank = R else rkP N ys q + rank = R) → rkP N ys K = R := by
  intro d
  induction d with
  | zero =>
    intro x q rank pre hd hs hx h0 he
    obtain ⟨h1, h2, h3, h4, h5⟩ := hs
    by_cases hq : q < K
    · rw [hd] at h4
      obtain ⟨m, hm⟩ : ∃ m, K - q = m + 1 := ⟨K - q - 1, by omega⟩
      rw [hm] at h4
      simp [choose] at h4
    · obtain rfl : q = K := by omega
      rw [if_neg (by omega)] at he
      rw [Nat.sub_self, choose_zero] at h4
      omega
  | succ d ih =>
    intro x q rank pre hd hs hx h0 he
    obtain ⟨h1, h2, h3, h4, h5⟩ := id hs
    by_cases hq : q < K
    · rw [if_pos hq] at he
      have hxN : x < N := by omega
      by_cases hr : rank < choose (N - x - 1) (K - q - 1)
      · have hg : ys.getD q 0 = x := by
          rw [hy, h5, sub_yes hq hxN hr]
          simp [List.getD, ← h3]
        have hs1 : startX ys (q + 1) = x + 1 := by simp only [startX, hg]
        refine ih (x + 1) (q + 1) rank _ (by omega) (hs.yes hq hxN hr) (by rw [hs1]; omega) (by rw [hs1]; omega) ?_
        have e : rkP N ys (q + 1) = rkP N ys q + sumR N ((K : Int) - q - 1) (startX ys q) ((x : Int) - startX ys q).toNat := by
          simp only [rkP, hl, hg]
        rw [hs1, e]
        split
        · rw [show (((x + 1 : Nat) : Int) - ((x : Int) + 1)).toNat = 0 by omega]
          simp only [sumR]; omega
        · exact he
      · have hf := sub_fit h4
        refine ih (x + 1) q (rank - choose (N - x - 1) (K - q - 1)) pre (by omega) (hs.no hq hxN hr) (by omega) h0 ?_
        rw [if_pos hq, show (((x + 1 : Nat) : Int) - startX ys q).toNat = ((x : Int) - startX ys q).toNat + 1 by omega]
        simp only [sumR]
        rw [show (N : Int) - (startX ys q + (((x : Int) - startX ys q).toNat : Int)) - 1 = (N : Int) - x - 1 by omega, sub_with hN hq hxN hf]
        omega
    · obtain rfl : q = K := by omega
      rw [if_neg (by omega)] at he
      rw [Nat.sub_self, choose_zero] at h4
      omega
theorem subOk_rank {n k rank : Int} (h : subOk n k rank = true) : rankOk n (subI n k rank) = true := by
  obtain ⟨N, K, R, rfl, rfl, rfl, hN, hK, hR, he⟩ := subOk_nat h
  rw [he]
  have hl := subG_len N K R 0 hR
  refine rankOk_mk (inB_yes (by omega) (by omega)) fun j hj => ?_
  rw [hl] at hj
  have h1 := subG_mem N K R 0 j hR hj
  refine ⟨by omega, fun h0 => ?_⟩
  have h2 := subG_asc N K R 0 (j - 1) hR (by omega)
  rwa [show j - 1 + 1 = j by omega] at h2
theorem rank_sub {n k rank : Int} (h : subOk n k rank = true) : rankI n (subI n k rank) = rank := by
  rw [rankI_yes (subOk_rank h)]
  obtain ⟨N, K, R, rfl, rfl, rfl, hN, hK, hR, he⟩ := subOk_nat h
  rw [he]
  have hl := subG_len N K R 0 hR
  rw [hl]
  refine rk_sub_go N K R hN _ rfl hl N 0 0 R [] rfl (SubAt.start hR) (by simp [startX]) (by simp [startX]) ?_
  split
  · simp [rkP, startX, sumR]
  · simp [rkP]
theorem sub_next {n k rank : Int} (h : subOk n k rank = true) (h1 : subOk n k (rank + 1) = true) : ∃ i, i < k.toNat ∧ (∀ j, j < i → (subI n k rank).getD j 0 = (subI n k (rank + 1)).getD j 0) ∧ (subI n k rank).getD i 0 < (subI n k (rank + 1)).getD i 0 := by
  obtain ⟨N, K, R, rfl, rfl, rfl, hN, hK, hR, he⟩ := subOk_nat h
  obtain ⟨N', K', R', e1, e2, e3, _, _, hR', he'⟩ := subOk_nat h1
  obtain rfl : N' = N := by omega
  obtain rfl : K' = K := by omega
  rw [he, he']
  exact subG_lex N' K' R R' 0 (by omega) hR'
theorem pascal {n k : Int} (h1 : 1 ≤ n) (h2 : n ≤ 20) (h3 : 1 ≤ k) (h4 : k ≤ n) : binI n k = binI (n - 1) k + binI (n - 1) (k - 1) := by
  obtain ⟨N, rfl⟩ : ∃ N : Nat, n = ((N + 1 : Nat) : Int) := ⟨(n - 1).toNat, by omega⟩
  obtain ⟨K, rfl⟩ : ∃ K : Nat, k = ((K + 1 : Nat) : Int) := ⟨(k - 1).toNat, by omega⟩
  rw [binI_nat (by omega) (by omega), choose_succ, show ((N + 1 : Nat) : Int) - 1 = (N : Int) by omega, show ((K + 1 : Nat) : Int) - 1 = (K : Int) by omega, binI_nat (n := N) (k := K) (by omega) (by omega)]
  by_cases h : K + 1 ≤ N
  · rw [binI_nat (by omega) h]; omega
  · rw [binI_no (n := N) (by simp [inB]; omega), choose_gt N (K + 1) (by omega)]; omega

theorem conv_bytes {A : Option Addr} {n c : Nat} {ys : List Int} {w : World} (h : Rd w A n (ys.map (Value.int .u8))) : (convert 22 9 (.slice A n c)).run Try.prog w = .ok (.string (strOfNums ys)) w := by
  have hl : ys.length = n := by have := h.len; simpa using this
  rcases Nat.eq_zero_or_pos n with h0 | hp
  · subst h0
    obtain rfl := List.length_eq_zero_iff.1 hl
    cases A with
    | none => exact run_convert_bytes_nil w _ _ Try.underlying22 Try.underlying5 0 c _ Try.underlying9
    | some a =>
      have hq : (loadCells a 0).run Try.prog w = .ok (([] : List Int).map (Value.int .u8)).toArray w := by
        have := run_loadCells_list (P := Try.prog) w a [] (fun j v hj => by simp at hj)
        simpa using this
      rw [run_convert_bytes_string w _ _ _ _ 0 c Try.underlying22 Try.underlying5 Try.underlying9, run_bytesToString w a 0 c [] hq]
      rfl
  · obtain ⟨b, off, rfl, hlt, hc⟩ := h.ex hp
    exact run_convert_bytes_arg w _ _ Try.underlying22 Try.underlying5 b off n c ys hl (fun i hi => hc i _ (by simp [List.getD, show i < ys.length by omega])) _ Try.underlying9
theorem tape_ways (ys : List Int) (M : Nat) (i nn k : Int) (hu : ∀ z ∈ ys, 0 ≤ z ∧ z ≤ 255) :
    (∃ L : Int, L < 2 ∧ Hid (leftI M i = L) ∧ Hid (takeAt M i = i) ∧ Hid (takeV ys M i = 0) ∧ Hid (takeB M i = false)) ∨
    (∃ (K : Nat) (x q : Int), i = K ∧ K + 2 ≤ M ∧ 0 ≤ x ∧ x ≤ 65535 ∧ Hid (leftI M K = (M : Int) - K) ∧ Hid (leftI M ((K : Int) + 2) = (M : Int) - K - 2) ∧ Hid (takeAt M K = (K : Int) + 2) ∧ Hid (takeV ys M K = x) ∧ Hid (takeB M K = true) ∧ Hid (binI nn k = q) ∧
      ((∃ (N J : Nat) (r : Int), nn = N ∧ k = J ∧ J ≤ 20 ∧ 1 ≤ q ∧ q ≤ 65536 ∧ x.tmod q = r ∧ IntKind.i64.wrap r = r ∧ Hid (tbB M K (binI N J) = true) ∧ Hid (tbAt M K (binI N J) = (K : Int) + 2) ∧ Hid (tbV ys M K (binI N J) = r) ∧ Hid (rankI N (subI N J r) = r)) ∨
       ((q < 1 ∨ (1 ≤ q ∧ 65536 < q)) ∧ Hid (tbB M K (binI nn k) = false)))) := by
  by_cases h : 2 ≤ leftI M i
  · right
    obtain ⟨h6, h0, h2⟩ := leftI_two h
    obtain ⟨K, rfl⟩ := Int.eq_ofNat_of_zero_le h0
    have hv := takeV_bd (i := (K : Int)) (n := M) hu
    have hl1 : leftI M (K : Int) = (M : Int) - K := by unfold leftI tapeB; rw [if_pos (by simp [h6, inB_yes (show (0 : Int) ≤ K by omega) (show (K : Int) ≤ M by omega)])]
    have hl2 : leftI M ((K : Int) + 2) = (M : Int) - K - 2 := by unfold leftI tapeB; rw [if_pos (by simp [h6, inB_yes (show (0 : Int) ≤ (K : Int) + 2 by omega) (show (K : Int) + 2 ≤ M by omega)])]; omega
    have hta : takeAt M (K : Int) = (K : Int) + 2 := by unfold takeAt; rw [if_pos h]
    have htb : takeB M (K : Int) = true := by unfold takeB; exact decide_eq_true h
    refine ⟨K, takeV ys M K, binI nn k, rfl, by omega, hv.1, hv.2, hl1, hl2, hta, rfl, htb, rfl, ?_⟩
    have bb := binI_bd nn k
    by_cases hq : 1 ≤ binI nn k ∧ binI nn k ≤ 65536
    · left
      have hT : tbB M K (binI nn k) = true := by unfold tbB; rw [htb, inB_yes hq.1 hq.2]; rfl
      have hs := subOk_of_tb hu hT
      have hk := rank_sub hs
      have hr : tbV ys M K (binI nn k) = takeV ys M K % binI nn k := if_pos hT
      have ha : tbAt M K (binI nn k) = (K : Int) + 2 := by unfold tbAt; rw [if_pos hT, hta]
      obtain ⟨N, J, R, e1, e2, e3, hN, hJ, _, _⟩ := subOk_nat hs
      have e : (takeV ys M K).tmod (binI nn k) = tbV ys M K (binI nn k) := by rw [hr]; exact Int.tmod_eq_emod_of_nonneg hv.1
      have m0 := Int.emod_nonneg (takeV ys M K) (show binI nn k ≠ 0 by omega)
      have m1 := Int.emod_lt_of_pos (takeV ys M K) (show 0 < binI nn k by omega)
      subst e1 e2
      exact ⟨N, J, _, rfl, rfl, by omega, hq.1, hq.2, e, IntWalk.i64_in _ (by rw [hr]; omega), hT, ha, rfl, hk⟩
    · right
      refine ⟨by omega, ?_⟩
      unfold Hid tbB
      cases hi : inB (binI nn k) 1 65536
      · simp
      · exact absurd (inB_le hi) hq
  · left
    exact ⟨leftI M i, by omega, rfl, by unfold Hid takeAt; rw [if_neg h], by unfold Hid takeV; rw [if_neg h], by unfold Hid takeB; exact decide_eq_false h⟩
theorem iTS_yes (base n c : Nat) (A : Option Addr) (xs : List Int) (K N J : Nat) (r : Int) (w : World) (h : w.ownsRow base 5 1 (.slice A n c) n (xs.map (Value.int .u8))) (hn : n ≤ 1073741824) (hu : ∀ z ∈ xs, 0 ≤ z ∧ z ≤ 255) (hT : tbB n K (binI N J) = true) (ha : tbAt n K (binI N J) = (K : Int) + 2) (hv : tbV xs n K (binI N J) = r) :
    Calls Try.prog 54 #[.agg #[.slice A n c, .int .i64 (K : Nat)], .int .i64 (N : Nat), .int .i64 (J : Nat)] w fun e w' => ∃ A' c' A2 c2 mid, e = .returned (.tuple #[.agg #[.slice A' n c', .int .i64 ((K : Int) + 2)], .slice A2 J c2, .bool true]) ∧ Ow 5 w.heap.size mid w' A' n c' (xs.map (Value.int .u8)) ∧ Ow 3 mid w'.heap.size w' A2 J c2 ((subI N J r).map (Value.int .i64)) ∧ (w.heap.size ≤ mid ∧ mid ≤ w'.heap.size) ∧ Below w.heap.size w w' := by
  have := iTakeSubset_yes base n c A xs K N J w h hn hu hT
  rw [ha, hv] at this
  simpa only [Int.toNat_natCast] using this

theorem u8wf {z : Int} (h : (Lit.int .u8 z).wf = true) : 0 ≤ z ∧ z ≤ 255 := by
  simp [Lit.wf, IntKind.min, IntKind.max, IntKind.bits, IntKind.signed] at h
  omega

theorem big_no (A : Option Addr) (n c : Nat) (w : World) (h : n ≤ 1048576) : Calls Try.prog 15 #[.slice A n c] w fun e w' => e = .returned (.bool false) ∧ w = w' := by
  go_enter Try.func15, Try.ntmps15
  go_wp2
  go_ret
  exact ⟨by simp; omega, rfl⟩
theorem big_yes (A : Option Addr) (n c : Nat) (w : World) (h : ¬ n ≤ 1048576) : Calls Try.prog 15 #[.slice A n c] w fun e w' => e = .returned (.bool true) ∧ w = w' := by
  go_enter Try.func15, Try.ntmps15
  go_wp2
  go_ret
  exact ⟨by simp; omega, rfl⟩

set_option maxRecDepth 50000 in
set_option maxHeartbeats 4000000 in
theorem walkIn (w : World) (A : Option Addr) (n c : Nat) (xs : List Int) (hn : n ≤ 1048576) (HR : Hid (Rd w A n (xs.map (Value.int .u8)))) (HU : Hid (∀ z ∈ xs, 0 ≤ z ∧ z ≤ 255)) :
    Calls Try.prog 13 #[.slice A n c] w fun e w' => e = .returned (.bool true) ∧ Below w.heap.size w w' := by
  have B0 := Below.refl w.heap.size w
  have s0 : w.heap.size ≤ w.heap.size := Nat.le_refl _
  go_enter Try.func13, Try.ntmps13
  go_wp2_with fail
  refine (big_no A n c _ hn).mono ?_
  rintro e w1 ⟨rfl, rfl⟩
  go_wp2_with fail
  refine (sDrawTakeSubset_any A n c xs _ HR.out HU.out (by omega)).mono ?_
  rintro e w1 ⟨A1, c1, M, ys, i, nn, k, rfl, hM, o, hy, b⟩
  have t_1 := b.size
  have z_1 : w.heap.size ≤ w1.heap.size := by omega
  have B_1 := B0.trans (b.mono (by omega))
  clear B0 b
  have tk_1 := Ow.of o
  clear o
  have HY := Lib.hid hy
  rcases tape_ways ys M i nn k hy with ⟨L, hL2, HL, HA, HV, HTB⟩ | ⟨K, x, q, rfl, hKM, hx0, hx1, HL, HL2, HA, HV, HTB, HQ, hw⟩
  · clear hy
    have d0 : decide (2 ≤ L) = false := decide_eq_false (by omega)
    have tk_3 := tk_1.same (same_alloc (.cells #[.slice A1 M c1, .int .i64 i] 49) (by omega))
    clear tk_1
    have t_4 : Bx (w1.alloc (.cells #[.slice A1 M c1, .int .i64 i] 49)) (w1.heap.size) 49 #[.slice A1 M c1, .int .i64 i] := Bx.new _ _ _
    have B_4 := B_1.alloc z_1 (.cells #[.slice A1 M c1, .int .i64 i] 49)
    clear B_1
    have ct_5 := t_4.cells
    have ft_5 := t_4.free
    go_wp2_with fail
    refine (iTake_any _ M _ _ ys i _ tk_3.own (by omega) HY.out).mono ?_
    rw [HA.out, HV.out, HTB.out]
    rintro e w2 ⟨A2, c2, rfl, o, b⟩
    clear ct_5 ft_5
    simp only [World.size_alloc] at b o
    have t_6 := b.size
    simp only [World.size_alloc] at t_6
    have z_6 : w.heap.size ≤ w2.heap.size := by omega
    have tk_7 := tk_3.same (same_below b (by omega))
    clear tk_3
    have t_7 := t_4.same (same_below b (by omega))
    clear t_4
    have B_6 := B_4.trans (b.mono (by omega))
    clear B_4 b
    have ak_6 := Ow.of o
    clear o
    have ct_8 := t_7.cells
    have ft_8 := t_7.free
    clear ct_8 ft_8
    have tk_9 := tk_7.same (same_alloc (.cells #[.slice A2 M c2, .int .i64 i] 49) (by omega))
    clear tk_7
    have t_9 := t_7.same (same_alloc (.cells #[.slice A2 M c2, .int .i64 i] 49) (by omega))
    clear t_7
    have ak_9 := ak_6.same (same_alloc (.cells #[.slice A2 M c2, .int .i64 i] 49) (by omega))
    clear ak_6
    have a_10 : Bx (w2.alloc (.cells #[.slice A2 M c2, .int .i64 i] 49)) (w2.heap.size) 49 #[.slice A2 M c2, .int .i64 i] := Bx.new _ _ _
    have B_10 := B_6.alloc z_6 (.cells #[.slice A2 M c2, .int .i64 i] 49)
    clear B_6
    have ct_11 := t_9.cells
    have ft_11 := t_9.free
    have ca_12 := a_10.cells
    have fa_12 := a_10.free
    go_wp2_with fail
    refine (sTapeLeft_any A1 M c1 i _).mono ?_
    rw [HL.out]
    rintro e w3 ⟨rfl, b⟩
    clear ct_11 ft_11
    clear ca_12 fa_12
    simp only [World.size_alloc] at b
    have t_13 := b.size
    simp only [World.size_alloc] at t_13
    have z_13 : w.heap.size ≤ w3.heap.size := by omega
    have tk_14 := tk_9.same (same_below b (by omega))
    clear tk_9
    have t_14 := t_9.same (same_below b (by omega))
    clear t_9
    have ak_14 := ak_9.same (same_below b (by omega))
    clear ak_9
    have a_14 := a_10.same (same_below b (by omega))
    clear a_10
    have B_13 := B_10.trans (b.mono (by omega))
    clear B_10 b
    have ct_15 := t_14.cells
    have ft_15 := t_14.free
    have ca_16 := a_14.cells
    have fa_16 := a_14.free
    obtain ⟨S, hS⟩ : ∃ S, strOfNums ys = S := ⟨_, rfl⟩
    have cv1 := conv_bytes (c := c2) ak_14.rd
    have cv2 := conv_bytes (c := c1) tk_14.rd
    rw [hS] at cv1 cv2
    have hSS : (S.toList == S.toList) = true := by simp
    clear hS
    go_wp2_with fail
    go_ret
    exact ⟨by simp, B_13⟩
  · clear hy
    have d0 : decide (2 ≤ (M : Int) - (K : Int)) = true := decide_eq_true (by omega)
    have hw2 : IntKind.i64.wrap ((M : Int) - (K : Int) - 2) = (M : Int) - (K : Int) - 2 := IntWalk.i64_in _ (by omega)
    have d1 : decide (x < 0) = false := decide_eq_false (by omega)
    have d2 : decide (65535 < x) = false := decide_eq_false (by omega)
    have HW := Lib.hid hw
    clear hw
    have tk_3 := tk_1.same (same_alloc (.cells #[.slice A1 M c1, .int .i64 (K : Nat)] 49) (by omega))
    clear tk_1
    have t_4 : Bx (w1.alloc (.cells #[.slice A1 M c1, .int .i64 (K : Nat)] 49)) (w1.heap.size) 49 #[.slice A1 M c1, .int .i64 (K : Nat)] := Bx.new _ _ _
    have B_4 := B_1.alloc z_1 (.cells #[.slice A1 M c1, .int .i64 (K : Nat)] 49)
    clear B_1
    have ct_5 := t_4.cells
    have ft_5 := t_4.free
    go_wp2_with fail
    refine (iTake_any _ M _ _ ys (K : Nat) _ tk_3.own (by omega) HY.out).mono ?_
    rw [HA.out, HV.out, HTB.out]
    rintro e w2 ⟨A2, c2, rfl, o, b⟩
    clear ct_5 ft_5
    simp only [World.size_alloc] at b o
    have t_6 := b.size
    simp only [World.size_alloc] at t_6
    have z_6 : w.heap.size ≤ w2.heap.size := by omega
    have tk_7 := tk_3.same (same_below b (by omega))
    clear tk_3
    have t_7 := t_4.same (same_below b (by omega))
    clear t_4
    have B_6 := B_4.trans (b.mono (by omega))
    clear B_4 b
    have ak_6 := Ow.of o
    clear o
    have ct_8 := t_7.cells
    have ft_8 := t_7.free
    clear ct_8 ft_8
    have tk_9 := tk_7.same (same_alloc (.cells #[.slice A2 M c2, .int .i64 ((K : Int) + 2)] 49) (by omega))
    clear tk_7
    have t_9 := t_7.same (same_alloc (.cells #[.slice A2 M c2, .int .i64 ((K : Int) + 2)] 49) (by omega))
    clear t_7
    have ak_9 := ak_6.same (same_alloc (.cells #[.slice A2 M c2, .int .i64 ((K : Int) + 2)] 49) (by omega))
    clear ak_6
    have a_10 : Bx (w2.alloc (.cells #[.slice A2 M c2, .int .i64 ((K : Int) + 2)] 49)) (w2.heap.size) 49 #[.slice A2 M c2, .int .i64 ((K : Int) + 2)] := Bx.new _ _ _
    have B_10 := B_6.alloc z_6 (.cells #[.slice A2 M c2, .int .i64 ((K : Int) + 2)] 49)
    clear B_6
    have ct_11 := t_9.cells
    have ft_11 := t_9.free
    have ca_12 := a_10.cells
    have fa_12 := a_10.free
    go_wp2_with fail
    refine (sTapeLeft_any A1 M c1 (K : Nat) _).mono ?_
    rw [HL.out]
    rintro e w3 ⟨rfl, b⟩
    clear ct_11 ft_11
    clear ca_12 fa_12
    simp only [World.size_alloc] at b
    have t_13 := b.size
    simp only [World.size_alloc] at t_13
    have z_13 : w.heap.size ≤ w3.heap.size := by omega
    have tk_14 := tk_9.same (same_below b (by omega))
    clear tk_9
    have t_14 := t_9.same (same_below b (by omega))
    clear t_9
    have ak_14 := ak_9.same (same_below b (by omega))
    clear ak_9
    have a_14 := a_10.same (same_below b (by omega))
    clear a_10
    have B_13 := B_10.trans (b.mono (by omega))
    clear B_10 b
    have ct_15 := t_14.cells
    have ft_15 := t_14.free
    have ca_16 := a_14.cells
    have fa_16 := a_14.free
    go_wp2_with fail
    have cla0_17 := cell_regrown (w := w3) (a := ⟨w2.heap.size, 0, none⟩) (v := .slice A2 M c2) (a_14.cells 0)
    have cla1_17 := cell_regrown (w := w3) (a := ⟨w2.heap.size, 1, none⟩) (v := .int .i64 ((K : Int) + 2)) (a_14.cells 1)
    have clt0_17 := cell_regrown (w := w3) (a := ⟨w1.heap.size, 0, none⟩) (v := .slice A1 M c1) (t_14.cells 0)
    have clt1_17 := cell_regrown (w := w3) (a := ⟨w1.heap.size, 1, none⟩) (v := .int .i64 (K : Nat)) (t_14.cells 1)
    clear ct_15 ft_15
    clear ca_16 fa_16
    have cA : ∀ d' os, Calls Try.prog 53 #[.agg #[.slice A2 M c2, .int .i64 ((K : Int) + 2)]] (grow (redrawn w3 d') os) fun e w'' => e = .returned (.int .i64 ((M : Int) - (K : Int) - 2)) ∧ ∃ p : Regrown, w'' = grow (redrawn w3 p.d) p.os := fun d' os => Calls.regrown_of (by rw [← HL2.out]; exact iTapeLeft_any _ _ _ _ _)
    have cB : ∀ d' os, Calls Try.prog 53 #[.agg #[.slice A1 M c1, .int .i64 (K : Nat)]] (grow (redrawn w3 d') os) fun e w'' => e = .returned (.int .i64 ((M : Int) - (K : Int))) ∧ ∃ p : Regrown, w'' = grow (redrawn w3 p.d) p.os := fun d' os => Calls.regrown_of (by rw [← HL.out]; exact iTapeLeft_any _ _ _ _ _)
    have HA_17 := Lib.hid B_13
    refine wp_region_quiet_below (by kernel_rfl) (by kernel_rfl) ?_
    repeat (first | go_big_quiet_step (first | with_reducible exact cA _ _ | with_reducible exact cB _ _) | quiet_step (first | with_reducible exact cA _ _ | with_reducible exact cB _ _))
    refine wpQuiet_nil ?_
    intro _ hw'
    obtain ⟨⟨dq, osq⟩, hw''⟩ := hw'
    subst hw''
    have bq := below_regrown w3 dq osq
    clear cA cB cla0_17 cla1_17 clt0_17 clt1_17
    generalize grow (redrawn w3 dq) osq = w4 at bq ⊢
    have t_17 := bq.size
    have z_17 : w.heap.size ≤ w4.heap.size := by omega
    have tk_18 := tk_14.same (same_below bq (by omega))
    clear tk_14
    have t_18 := t_14.same (same_below bq (by omega))
    clear t_14
    have ak_18 := ak_14.same (same_below bq (by omega))
    clear ak_14
    have a_18 := a_14.same (same_below bq (by omega))
    clear a_14
    have B_17 := B_13.trans (bq.mono (by omega))
    clear B_13 bq
    have ct_19 := t_18.cells
    have ft_19 := t_18.free
    have ca_20 := a_18.cells
    have fa_20 := a_18.free
    clear d0 d1 d2 hw2
    rcases HW.out with ⟨N, J, r, rfl, rfl, hJ, hq1, hq2, hrem, hwr, HT, HTA, HTV, HRk⟩ | ⟨hq, HT⟩
    · clear HW
      go_wp2_with fail
      refine (iTS_yes _ M _ _ ys K N J r _ tk_18.own (by omega) HY.out HT.out HTA.out HTV.out).mono ?_
      rintro e w5 ⟨A3, c3, A4, c4, md, rfl, o, oi, ⟨mL, mH⟩, b⟩
      clear ct_19 ft_19
      clear ca_20 fa_20
      have t_21 := b.size
      have z_21 : w.heap.size ≤ w5.heap.size := by omega
      have tk_22 := tk_18.same (same_below b (by omega))
      clear tk_18
      have t_22 := t_18.same (same_below b (by omega))
      clear t_18
      have ak_22 := ak_18.same (same_below b (by omega))
      clear ak_18
      have a_22 := a_18.same (same_below b (by omega))
      clear a_18
      have B_21 := B_17.trans (b.mono (by omega))
      clear B_17 b
      have bt_21 := o
      clear o
      have bl_21 := oi
      clear oi
      have ct_23 := t_22.cells
      have ft_23 := t_22.free
      have ca_24 := a_22.cells
      have fa_24 := a_22.free
      clear ct_23 ft_23
      clear ca_24 fa_24
      have tk_25 := tk_22.same (same_alloc (.cells #[.slice A3 M c3, .int .i64 ((K : Int) + 2)] 49) (by omega))
      clear tk_22
      have t_25 := t_22.same (same_alloc (.cells #[.slice A3 M c3, .int .i64 ((K : Int) + 2)] 49) (by omega))
      clear t_22
      have ak_25 := ak_22.same (same_alloc (.cells #[.slice A3 M c3, .int .i64 ((K : Int) + 2)] 49) (by omega))
      clear ak_22
      have a_25 := a_22.same (same_alloc (.cells #[.slice A3 M c3, .int .i64 ((K : Int) + 2)] 49) (by omega))
      clear a_22
      have bt_25 := bt_21.same (same_alloc (.cells #[.slice A3 M c3, .int .i64 ((K : Int) + 2)] 49) (by omega))
      clear bt_21
      have bl_25 := bl_21.same (same_alloc (.cells #[.slice A3 M c3, .int .i64 ((K : Int) + 2)] 49) (by omega))
      clear bl_21
      have b_26 : Bx (w5.alloc (.cells #[.slice A3 M c3, .int .i64 ((K : Int) + 2)] 49)) (w5.heap.size) 49 #[.slice A3 M c3, .int .i64 ((K : Int) + 2)] := Bx.new _ _ _
      have B_26 := B_21.alloc z_21 (.cells #[.slice A3 M c3, .int .i64 ((K : Int) + 2)] 49)
      clear B_21
      have ct_27 := t_25.cells
      have ft_27 := t_25.free
      have ca_28 := a_25.cells
      have fa_28 := a_25.free
      have cb_29 := b_26.cells
      have fb_29 := b_26.free
      go_wp2_with fail
      refine (sBinomial_any (N : Nat) (J : Nat) _).mono ?_
      rw [HQ.out]
      rintro e w6 ⟨rfl, b⟩
      clear ct_27 ft_27
      clear ca_28 fa_28
      clear cb_29 fb_29
      simp only [World.size_alloc] at b
      have t_30 := b.size
      simp only [World.size_alloc] at t_30
      have z_30 : w.heap.size ≤ w6.heap.size := by omega
      have tk_31 := tk_25.same (same_below b (by omega))
      clear tk_25
      have t_31 := t_25.same (same_below b (by omega))
      clear t_25
      have ak_31 := ak_25.same (same_below b (by omega))
      clear ak_25
      have a_31 := a_25.same (same_below b (by omega))
      clear a_25
      have bt_31 := bt_25.same (same_below b (by omega))
      clear bt_25
      have bl_31 := bl_25.same (same_below b (by omega))
      clear bl_25
      have b_31 := b_26.same (same_below b (by omega))
      clear b_26
      have B_30 := B_26.trans (b.mono (by omega))
      clear B_26 b
      have ct_32 := t_31.cells
      have ft_32 := t_31.free
      have ca_33 := a_31.cells
      have fa_33 := a_31.free
      have cb_34 := b_31.cells
      have fb_34 := b_31.free
      have e1 : decide (1 ≤ q) = true := decide_eq_true hq1
      have e2 : decide (q ≤ 65536) = true := decide_eq_true hq2
      have e3 : ¬ q = 0 := by omega
      have e4 : (q == 0) = false := beq_false_of_ne e3
      have HBL := Lib.hid bl_31.rd
      go_wp2_with fail
      have clb1_35 := cell_regrown (w := w6) (a := ⟨w5.heap.size, 1, none⟩) (v := .int .i64 ((K : Int) + 2)) (b_31.cells 1)
      have cla1_35 := cell_regrown (w := w6) (a := ⟨w2.heap.size, 1, none⟩) (v := .int .i64 ((K : Int) + 2)) (a_31.cells 1)
      clear ct_32 ft_32
      clear ca_33 fa_33
      clear cb_34 fb_34
      have cR : ∀ d' os, Calls Try.prog 21 #[.int .i64 (N : Nat), .slice A4 J c4] (grow (redrawn w6 d') os) fun e w'' => e = .returned (.int .i64 r) ∧ ∃ p : Regrown, w'' = grow (redrawn w6 p.d) p.os := fun d' os => Calls.regrown_of (by have hh := iRankAt_any (N : Nat) A4 J c4 (subI N J r) (grow (redrawn w6 d') os) (HBL.out.below (below_regrown w6 d' os) (Nat.le_refl _)) (by omega); rw [HRk.out] at hh; exact hh)
      have HA_35 := Lib.hid B_30
      refine wp_region_quiet_below (by kernel_rfl) (by kernel_rfl) ?_
      repeat (first | go_big_quiet_step (first | with_reducible exact cR _ _) | quiet_step (first | with_reducible exact cR _ _))
      refine wpQuiet_nil ?_
      intro _ hw'
      obtain ⟨⟨dq, osq⟩, hw''⟩ := hw'
      subst hw''
      have bq := below_regrown w6 dq osq
      clear cR clb1_35 cla1_35
      generalize grow (redrawn w6 dq) osq = w7 at bq ⊢
      have t_35 := bq.size
      have z_35 : w.heap.size ≤ w7.heap.size := by omega
      have tk_36 := tk_31.same (same_below bq (by omega))
      clear tk_31
      have t_36 := t_31.same (same_below bq (by omega))
      clear t_31
      have ak_36 := ak_31.same (same_below bq (by omega))
      clear ak_31
      have a_36 := a_31.same (same_below bq (by omega))
      clear a_31
      have bt_36 := bt_31.same (same_below bq (by omega))
      clear bt_31
      have bl_36 := bl_31.same (same_below bq (by omega))
      clear bl_31
      have b_36 := b_31.same (same_below bq (by omega))
      clear b_31
      have B_35 := B_30.trans (bq.mono (by omega))
      clear B_30 bq
      have ct_37 := t_36.cells
      have ft_37 := t_36.free
      have ca_38 := a_36.cells
      have fa_38 := a_36.free
      have cb_39 := b_36.cells
      have fb_39 := b_36.free
      go_wp2_with fail
      go_ret
      exact ⟨by simp, B_35⟩
    · clear HW
      go_wp2_with fail
      refine (iTakeSubset_no _ M _ _ ys (K : Nat) nn k _ tk_18.own (by omega) HY.out HT.out).mono ?_
      rintro e w5 ⟨A3, c3, rfl, o, b⟩
      clear ct_19 ft_19
      clear ca_20 fa_20
      have t_21 := b.size
      have z_21 : w.heap.size ≤ w5.heap.size := by omega
      have tk_22 := tk_18.same (same_below b (by omega))
      clear tk_18
      have t_22 := t_18.same (same_below b (by omega))
      clear t_18
      have ak_22 := ak_18.same (same_below b (by omega))
      clear ak_18
      have a_22 := a_18.same (same_below b (by omega))
      clear a_18
      have B_21 := B_17.trans (b.mono (by omega))
      clear B_17 b
      have bt_21 := Ow.of o
      clear o
      have ct_23 := t_22.cells
      have ft_23 := t_22.free
      have ca_24 := a_22.cells
      have fa_24 := a_22.free
      clear ct_23 ft_23
      clear ca_24 fa_24
      have tk_25 := tk_22.same (same_alloc (.cells #[.slice A3 M c3, .int .i64 (K : Nat)] 49) (by omega))
      clear tk_22
      have t_25 := t_22.same (same_alloc (.cells #[.slice A3 M c3, .int .i64 (K : Nat)] 49) (by omega))
      clear t_22
      have ak_25 := ak_22.same (same_alloc (.cells #[.slice A3 M c3, .int .i64 (K : Nat)] 49) (by omega))
      clear ak_22
      have a_25 := a_22.same (same_alloc (.cells #[.slice A3 M c3, .int .i64 (K : Nat)] 49) (by omega))
      clear a_22
      have bt_25 := bt_21.same (same_alloc (.cells #[.slice A3 M c3, .int .i64 (K : Nat)] 49) (by omega))
      clear bt_21
      have b_26 : Bx (w5.alloc (.cells #[.slice A3 M c3, .int .i64 (K : Nat)] 49)) (w5.heap.size) 49 #[.slice A3 M c3, .int .i64 (K : Nat)] := Bx.new _ _ _
      have B_26 := B_21.alloc z_21 (.cells #[.slice A3 M c3, .int .i64 (K : Nat)] 49)
      clear B_21
      have ct_27 := t_25.cells
      have ft_27 := t_25.free
      have ca_28 := a_25.cells
      have fa_28 := a_25.free
      have cb_29 := b_26.cells
      have fb_29 := b_26.free
      go_wp2_with fail
      refine (sBinomial_any nn k _).mono ?_
      rw [HQ.out]
      rintro e w6 ⟨rfl, b⟩
      clear ct_27 ft_27
      clear ca_28 fa_28
      clear cb_29 fb_29
      simp only [World.size_alloc] at b
      have t_30 := b.size
      simp only [World.size_alloc] at t_30
      have z_30 : w.heap.size ≤ w6.heap.size := by omega
      have tk_31 := tk_25.same (same_below b (by omega))
      clear tk_25
      have t_31 := t_25.same (same_below b (by omega))
      clear t_25
      have ak_31 := ak_25.same (same_below b (by omega))
      clear ak_25
      have a_31 := a_25.same (same_below b (by omega))
      clear a_25
      have bt_31 := bt_25.same (same_below b (by omega))
      clear bt_25
      have b_31 := b_26.same (same_below b (by omega))
      clear b_26
      have B_30 := B_26.trans (b.mono (by omega))
      clear B_26 b
      have ct_32 := t_31.cells
      have ft_32 := t_31.free
      have ca_33 := a_31.cells
      have fa_33 := a_31.free
      have cb_34 := b_31.cells
      have fb_34 := b_31.free
      rcases hq with hq | ⟨hq, hq'⟩
      · have e1 : decide (1 ≤ q) = false := decide_eq_false (by omega)
        go_wp2_with fail
        go_ret
        exact ⟨by simp, B_30⟩
      · have e1 : decide (1 ≤ q) = true := decide_eq_true hq
        have e2 : decide (q ≤ 65536) = false := decide_eq_false (by omega)
        go_wp2_with fail
        go_ret
        exact ⟨by simp, B_30⟩

theorem walk (w : World) (A : Option Addr) (n c : Nat) (xs : List Int) (hl : n ≤ c) (hm : c ≤ maxLen) (hr : Rd w A n (xs.map (Value.int .u8))) (hu : ∀ z ∈ xs, (Lit.int .u8 z).wf = true) :
    Calls Try.prog 13 #[.slice A n c] w fun e w' => e = .returned (.bool true) ∧ Below w.heap.size w w' := by
  unfold maxLen at hm
  have HR := Lib.hid hr
  have HU : Hid (∀ z ∈ xs, 0 ≤ z ∧ z ≤ 255) := fun z hz => u8wf (hu z hz)
  clear hr hu
  by_cases hn : n ≤ 1048576
  · exact walkIn w A n c xs hn HR HU
  · go_enter Try.func13, Try.ntmps13
    go_wp2_with fail
    refine (big_yes A n c w hn).mono ?_
    rintro e _ ⟨rfl, rfl⟩
    go_wp2_with fail
    go_ret
    exact ⟨rfl, Below.refl _ _⟩

set_option maxRecDepth 100000 in
theorem walks : Walks 13 Try.f13 := by
  intro H enc W base args ds ps hval hA _
  rw [Try.params13] at hA hval
  obtain ⟨v0, vs0, d0, ds0, p0, q0, hargs, rfl, rfl, h0, r0⟩ := trodAll_cons hA
  obtain ⟨rfl, rfl, rfl⟩ := trodAll_nil r0
  obtain rfl : args = #[v0] := by cases args; simp_all
  obtain ⟨f0, y0, z0⟩ := slice_cell Try.underlying22 (hval 0 22 v0 rfl rfl) h0
  obtain ⟨A0, n0, c0, a0, rfl, hl0, hm0, hr0, w0⟩ := open_ints_rd Try.underlying22 (by kernel_rfl) Try.underlying5 z0
  exact walk (w := W) A0 n0 c0 a0 hl0 hm0 hr0 w0

set_option maxRecDepth 100000 in
theorem lifted (os : Os) (started : os.Started) (H : Type) (enc : TypeId × Value → H) :
    ReturnsInHanded {} Try.checked os 13 .any (Rows.fnTapeSpec.pre6 enc Try.prog Try.f13 Rows.fnTapeRow.domain false) (Rows.fnTapeSpec.post enc Try.prog Try.f13 false true false false) :=
  law_lifted started (by kernel_rfl) Try.func13
    (ChangeSpec.witness6 (enc := enc) (C := Try.checked) false ⟨#[], #[.slice none 0 0], []⟩ 8 (by kernel_rfl) (by kernel_rfl) (by kernel_rfl) (by kernel_rfl))
    rfl rfl Try.underlying4 (fun ds h => match ds, h with | [_], _ => rfl) (by
      rw [Try.params13]
      intro t ht
      simp only [List.mem_cons, List.not_mem_nil, or_false] at ht
      subst ht
      exact ⟨by kernel_rfl, of_decide_eq_true (by kernel_rfl)⟩) walks

theorem over : Rows.fnTapeRow.holds Try.pinned (OpenSpec.ofChange Rows.fnTapeSpec) :=
  OpenClaim.holds_of_wide 13 Try.f13 rfl rfl rfl rfl rfl rfl rfl ⟨rfl, rfl, rfl, rfl, rfl⟩ rfl rfl rfl rfl rfl (by kernel_rfl) Try.func13 (by kernel_rfl)
    (of_decide_eq_true (by kernel_rfl)) (by unfold Func.isWrapper; first | (rw [if_pos (by decide +kernel)]; kernel_rfl) | (rw [if_neg (by decide +kernel)]; exact ⟨rfl, rfl⟩))
    (fun os started H enc _ => lifted os started H enc)

theorem proved : Rows.FnTapeSaid := over
#print axioms proved

end LawFTape
end Go.Proofs.Ytfdpfeaegcfglaa
