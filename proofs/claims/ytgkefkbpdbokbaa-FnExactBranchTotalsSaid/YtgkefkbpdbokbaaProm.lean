/-
  StatsTotal, TopOf, slices.Max, Promise, StatsPure.
-/
import Derived.Test.YtgkefkbpdbokbaaStatOk
import Derived.Test.YtgkefkbpdbokbaaStatOkI
import Derived.Lib.QuietBelow
namespace Go.Proofs.Ytgkefkbpdbokbaa
open Go.RowKit Go.Sort
set_option linter.unusedSimpArgs false
set_option linter.unusedVariables false

/-- The place of the first greatest of the first k + 1 numbers. -/
def topTo (ts : List Int) : Nat → Nat
  | 0 => 0
  | k + 1 => if ts.getD (topTo ts k) 0 < ts.getD (k + 1) 0 then k + 1 else topTo ts k
def topI (ts : List Int) : Nat := topTo ts (ts.length - 1)
def maxI (ts : List Int) : Int := ts.getD (topI ts) 0
theorem topTo_le (ts : List Int) : ∀ k, topTo ts k ≤ k
  | 0 => Nat.le_refl _
  | k + 1 => by unfold topTo; split; exact Nat.le_refl _; exact Nat.le_succ_of_le (topTo_le ts k)
def promI (ats : List AD) (cs : List ByteArray) (ts : List Int) (xss : List (List Int)) : Int := if statsB ats cs ts xss then ts.sum - maxI ts else 0
def pureB (ats : List AD) (cs : List ByteArray) (ts : List Int) (xss : List (List Int)) : Bool := statsB ats cs ts xss && decide (promI ats cs ts xss = 0)
theorem statsB_tot {ats : List AD} {cs : List ByteArray} {ts : List Int} {xss : List (List Int)} (h : statsB ats cs ts xss = true) : (ts.length = 2 ∨ ts.length = 3) ∧ badW ts = false ∧ 0 ≤ ts.sum ∧ ts.sum ≤ 999 := by
  unfold statsB at h
  simp only [Bool.and_eq_true] at h
  obtain ⟨⟨h1, h2⟩, _⟩ := h
  have hm := schB_m h1
  unfold totB at h2
  simp only [Bool.and_eq_true, decide_eq_true_eq, Bool.not_eq_true'] at h2
  have := sum_bd ts (fun z hz => badW_get h2.1.2 hz)
  exact ⟨by omega, h2.1.2, this.1, h2.2⟩
theorem maxI_bd {ts : List Int} (hl : ts.length = 2 ∨ ts.length = 3) (h : badW ts = false) : ts[topI ts]? = some (maxI ts) ∧ topI ts < ts.length ∧ 0 ≤ maxI ts ∧ maxI ts ≤ 999 := by
  have h1 : topI ts < ts.length := by have := topTo_le ts (ts.length - 1); unfold topI; omega
  have h2 : ts[topI ts]? = some (maxI ts) := by unfold maxI; simp [List.getD, h1]
  have := badW_get h (List.mem_of_getElem? h2)
  exact ⟨h2, h1, this.1, this.2⟩

set_option maxHeartbeats 1000000 in
theorem iMax_any (A : Option Addr) (n c : Nat) (ts : List Int) (w : World) (h : Rd w A n (ts.map (Value.int .i64))) (hn : n ≤ 1048576) (hp : 0 < n) :
    Calls Try.prog 80 #[.slice A n c] w fun e w' => e = .returned (.int .i64 (maxI ts)) ∧ w = w' := by
  have H := Lib.hid h
  have HL := Lib.hid (show ts.length = n by simpa using h.len)
  obtain ⟨b, off, rfl, hbl, hc⟩ := h.ex hp
  obtain ⟨x0, hx0⟩ : ∃ x, ts[0]? = some x := ⟨_, List.getElem?_eq_getElem (by rw [HL.out]; exact hp)⟩
  have hcell := hc 0 (.int .i64 x0) (by simp [hx0])
  simp only [Nat.add_zero] at hcell
  have H0 : Hid (ts.getD (topTo ts 0) 0 = x0) := by unfold Hid topTo; simp [List.getD, hx0]
  have HC := Lib.hid hc
  have hp' : (0 : Int) < (n : Int) := by omega
  have hp1 : ¬ (n : Int) < 1 := by omega
  clear h hc hx0
  go_enter Try.func80, Try.ntmps80
  go_wp2_with fail
  go_loop [3, 4] (fun m i => ∃ k : Nat, k + 1 ≤ n ∧ i = .int .i64 ((k : Int) + 1) ∧ m = .int .i64 (ts.getD (topTo ts k) 0)) (fun _ i => n - (intOf i).toNat)
  case atStart => exact ⟨0, by omega, rfl, by rw [H0.out]⟩
  case round =>
    obtain ⟨k, hk, rfl, rfl⟩ := hrel
    by_cases hlt : k + 1 < n
    · obtain ⟨x, hx⟩ : ∃ x, ts[k + 1]? = some x := ⟨_, List.getElem?_eq_getElem (by rw [HL.out]; exact hlt)⟩
      have hcell := HC.out (k + 1) (.int .i64 x) (by simp [hx])
      have hgx : ts.getD (k + 1) 0 = x := by simp [List.getD, hx]
      have n0 : (0 : Int) ≤ (k : Int) + 1 := by omega
      have n1 : (k : Int) + 1 < (n : Int) := by omega
      have n2 : ((k : Int) + 1).toNat = k + 1 := by omega
      obtain ⟨y, hy⟩ : ∃ y, ts.getD (topTo ts k) 0 = y := ⟨_, rfl⟩
      have HN : Hid (ts.getD (topTo ts (k + 1)) 0 = if y < x then x else y) := by
        unfold Hid; rw [show topTo ts (k + 1) = if ts.getD (topTo ts k) 0 < ts.getD (k + 1) 0 then k + 1 else topTo ts k from rfl, hy, hgx]
        split
        · exact hgx
        · exact hy
      rw [hy]
      clear hx hgx hy
      by_cases hyx : y < x
      · have hm : max y x = x := by omega
        rw [if_pos hyx] at HN
        go_wp2_with fail
        clear n2
        go_round
        case rel => exact ⟨k + 1, by omega, by go_num, by rw [HN.out]⟩
        case measure => simp [intOf]; omega
      · have hm : max y x = y := by omega
        rw [if_neg hyx] at HN
        go_wp2_with fail
        clear n2
        go_round
        case rel => exact ⟨k + 1, by omega, by go_num, by rw [HN.out]⟩
        case measure => simp [intOf]; omega
    · have hkn : k = n - 1 := by omega
      have HV : Hid (maxI ts = ts.getD (topTo ts k) 0) := by unfold Hid maxI topI; rw [HL.out, hkn]
      have n1 : (n : Int) ≤ (k : Int) + 1 := by omega
      rw [← HV.out]
      go_wp2_with fail
      go_ret
      exact ⟨rfl, rfl⟩

set_option maxHeartbeats 2000000 in
theorem sTopOf_any (A : Option Addr) (n c : Nat) (ts : List Int) (w : World) (h : Rd w A n (ts.map (Value.int .i64))) (hn : n ≤ 1048576) (hp : 0 < n) :
    Calls Try.prog 76 #[.slice A n c] w fun e w' => e = .returned (.int .i64 (topI ts : Nat)) ∧ Below w.heap.size w w' := by
  have H := Lib.hid h
  have HL := Lib.hid (show ts.length = n by simpa using h.len)
  clear h
  go_enter Try.func76, Try.ntmps76
  go_wp2_with fail
  go_loopw [3, 4] (fun at_ i wr => ∃ k : Nat, k ≤ n ∧ i = .int .i64 k ∧ ((k = 0 ∧ at_ = .int .i64 (-1)) ∨ (0 < k ∧ at_ = .int .i64 ((topTo ts (k - 1) : Nat) : Int))) ∧ Below w.heap.size w wr) (fun _ i _ => n - (intOf i).toNat)
  case atStart => exact ⟨0, Nat.zero_le _, rfl, .inl ⟨rfl, rfl⟩, Below.refl _ _⟩
  case round =>
    obtain ⟨k, hk, rfl, hat, hbel⟩ := hrel
    have HBel := Lib.hid hbel
    clear hbel
    rcases hat with ⟨rfl, rfl⟩ | ⟨hk0, rfl⟩
    · have hp' : (0 : Int) < (n : Int) := by omega
      obtain ⟨b, off, rfl, hbl, hc⟩ := H.out.ex hp
      clear hc
      go_wp2_with fail
      go_quiet (fail)
      go_wp2_with fail
      go_roundw
      case rel => exact ⟨1, by omega, by go_num, .inr ⟨by omega, rfl⟩, Below.trans HBel.out (by repeat (first | exact Below.refl _ _ | apply below_drewN | apply Below.drew))⟩
      case measure => simp [intOf]; omega
    · by_cases hlt : k < n
      · obtain ⟨b, off, rfl, hbl, hc⟩ := H.out.ex (by omega)
        obtain ⟨j, hj⟩ : ∃ j, topTo ts (k - 1) = j := ⟨_, rfl⟩
        have hjk : j ≤ k - 1 := by rw [← hj]; exact topTo_le _ _
        obtain ⟨x, hx⟩ : ∃ x, ts[k]? = some x := ⟨_, List.getElem?_eq_getElem (by rw [HL.out]; exact hlt)⟩
        obtain ⟨y, hy⟩ : ∃ y, ts[j]? = some y := ⟨_, List.getElem?_eq_getElem (by rw [HL.out]; omega)⟩
        have hcx : wr.cell? ⟨b, off + k, none⟩ = some (.int .i64 x) := (HBel.out.cell (p := ⟨b, off + k, none⟩) hbl).trans (hc k _ (by simp [hx]))
        have hcy : wr.cell? ⟨b, off + j, none⟩ = some (.int .i64 y) := (HBel.out.cell (p := ⟨b, off + j, none⟩) hbl).trans (hc j _ (by simp [hy]))
        have HN : Hid (topTo ts k = if y < x then k else j) := by
          unfold Hid
          obtain ⟨k', rfl⟩ : ∃ k', k = k' + 1 := ⟨k - 1, by omega⟩
          rw [show topTo ts (k' + 1) = if ts.getD (topTo ts k') 0 < ts.getD (k' + 1) 0 then k' + 1 else topTo ts k' from rfl]
          rw [show k' + 1 - 1 = k' from rfl] at hj
          rw [hj, show ts.getD j 0 = y by simp [List.getD, hy], show ts.getD (k' + 1) 0 = x by simp [List.getD, hx]]
        rw [hj]
        have n0 : (0 : Int) ≤ (k : Int) := Int.natCast_nonneg _
        have n1 : (k : Int) < (n : Int) := by omega
        have n2 : (0 : Int) ≤ (j : Int) := Int.natCast_nonneg _
        have n3 : (j : Int) < (n : Int) := by omega
        have n4 : ¬ (j : Int) < 0 := by omega
        clear hc hx hy hj
        by_cases hyx : y < x
        · rw [if_pos hyx] at HN
          go_wp2_with fail
          go_quiet (fail)
          go_wp2_with fail
          go_roundw
          case rel => exact ⟨k + 1, by omega, by go_num, .inr ⟨by omega, by rw [show k + 1 - 1 = k from rfl, HN.out]⟩, Below.trans HBel.out (by repeat (first | exact Below.refl _ _ | apply below_drewN | apply Below.drew))⟩
          case measure => simp [intOf]; omega
        · rw [if_neg hyx] at HN
          have hxy : x ≤ y := by omega
          go_wp2_with fail
          go_quiet (fail)
          go_wp2_with fail
          go_roundw
          case rel => exact ⟨k + 1, by omega, by go_num, .inr ⟨by omega, by rw [show k + 1 - 1 = k from rfl, HN.out]⟩, Below.trans HBel.out (by repeat (first | exact Below.refl _ _ | apply below_drewN | apply Below.drew))⟩
          case measure => simp [intOf]; omega
      · obtain rfl : k = n := by omega
        have HV : Hid (topI ts = topTo ts (k - 1)) := by unfold Hid topI; rw [HL.out]
        rw [← HV.out]
        go_wp2_with fail
        go_ret
        exact ⟨rfl, HBel.out⟩

set_option maxHeartbeats 2000000 in
theorem sStatsTotal_any (A C : Option Addr) (n c m d : Nat) (hs : List AH) (ats : List AD) (cs : List ByteArray) (T X : Option Addr) (q e0 p f0 : Nat) (gs : List Hd) (ts : List Int) (xss : List (List Int)) (w : World) (r : Sch w A C n m d hs ats cs) (s : Sta w T X q p gs ts xss) (h0 : statsB ats cs ts xss = true) :
    Calls Try.prog 75 #[.agg #[.slice A n c, .slice C m d], .agg #[.slice T q e0, .slice X p f0]] w fun e w' => e = .returned (.int .i64 ts.sum) ∧ Below w.heap.size w w' := by
  have R := Lib.hid r
  have S := Lib.hid s
  have HL := Lib.hid r.lenA; have HC := Lib.hid r.lenC
  have HT := Lib.hid s.lenT; have HX := Lib.hid s.lenX
  have hn := r.hn; have hq := s.hq; have hp := s.hp
  clear r s
  have H0 := Lib.hid h0
  obtain ⟨hl, hw, _, _⟩ := statsB_tot h0
  have HWt := Lib.hid hw
  rw [HT.out] at hl
  clear h0 hw
  have B0 := Below.refl w.heap.size w
  have s0 : w.heap.size ≤ w.heap.size := Nat.le_refl _
  go_enter Try.func75, Try.ntmps75
  have p_2 : Bx (w.alloc (.cells #[.slice A n c, .slice C m d] 31)) (w.heap.size) 31 #[.slice A n c, .slice C m d] := Bx.new _ _ _
  have B_2 := B0.alloc s0 (.cells #[.slice A n c, .slice C m d] 31)
  clear B0
  have cp_3 := p_2.cells
  have fp_3 := p_2.free
  clear cp_3 fp_3
  have p_4 := p_2.same (same_alloc (.cells #[.slice T q e0, .slice X p f0] 58) (by simp only [World.size_alloc]; omega))
  clear p_2
  have t_5 : Bx ((w.alloc (.cells #[.slice A n c, .slice C m d] 31)).alloc (.cells #[.slice T q e0, .slice X p f0] 58)) (w.heap.size + 1) 58 #[.slice T q e0, .slice X p f0] := by
    have h := Bx.new (w.alloc (.cells #[.slice A n c, .slice C m d] 31)) 58 #[.slice T q e0, .slice X p f0]
    simpa only [World.size_alloc] using h
  have B_5 := B_2.alloc (by simp only [World.size_alloc]; omega) (.cells #[.slice T q e0, .slice X p f0] 58)
  clear B_2
  have cp_6 := p_4.cells
  have fp_6 := p_4.free
  have ct_7 := t_5.cells
  have ft_7 := t_5.free
  go_wp2_with fail
  refine (sStatsOk_any _ _ _ _ _ _ _ ats cs _ _ _ _ _ _ _ ts xss _ (R.out.below B_5 (Nat.le_refl _)) (S.out.below B_5 (Nat.le_refl _))).mono ?_
  rw [H0.out]
  rintro e w1 ⟨rfl, b⟩
  clear cp_6 fp_6
  clear ct_7 ft_7
  simp only [World.size_alloc] at b
  have t_8 := b.size
  simp only [World.size_alloc] at t_8
  have z_8 : w.heap.size ≤ w1.heap.size := by omega
  have p_9 := p_4.same (same_below b (by omega))
  clear p_4
  have t_9 := t_5.same (same_below b (by omega))
  clear t_5
  have B_8 := B_5.trans (b.mono (by omega))
  clear B_5 b
  have cp_10 := p_9.cells
  have fp_10 := p_9.free
  have ct_11 := t_9.cells
  have ft_11 := t_9.free
  have HTb := Lib.hid t_9; have lt_ := t_9.lt
  obtain ⟨bt, ot, rfl, lbt, hct⟩ := (S.out.below B_8 (Nat.le_refl _)).tot.ex (by omega)
  have HCT := Lib.hid hct
  clear hct
  go_wp2_with fail
  have HAc := Lib.hid B_8
  have t0 : w1.cell? ⟨w.heap.size + 1, 0, none⟩ = some (.slice (some ⟨bt, ot, none⟩) q e0) := HTb.out.cells 0
  go_loop [5, 6] (fun sm i => ∃ k : Nat, k ≤ q ∧ i = .int .i64 k ∧ sm = .int .i64 ((ts.take k).sum)) (fun _ i => q - (intOf i).toNat)
  case atStart => exact ⟨0, Nat.zero_le _, rfl, by simp⟩
  case round =>
    obtain ⟨k, hk, rfl, rfl⟩ := hrel
    by_cases hlt : k < q
    · obtain ⟨x, hx⟩ : ∃ x, ts[k]? = some x := ⟨_, List.getElem?_eq_getElem (by rw [HT.out]; exact hlt)⟩
      have hcell := HCT.out k (.int .i64 x) (by simp [hx])
      have hb := sum_bd (ts.take k) (fun z hz => badW_get HWt.out (List.mem_of_mem_take hz))
      have hl2 : (ts.take k).length ≤ k := by simp; omega
      have hxb := badW_get HWt.out (List.mem_of_getElem? hx)
      have HSum := Lib.hid (take_sum hx)
      obtain ⟨sm, hsm⟩ : ∃ sm, (ts.take k).sum = sm := ⟨_, rfl⟩
      rw [hsm] at hb HSum ⊢
      have hb2 : 0 ≤ sm ∧ sm ≤ 2997 := by omega
      have n0 : (0 : Int) ≤ (k : Int) := Int.natCast_nonneg _
      have n1 : (k : Int) < (q : Int) := by omega
      clear hx hsm hb hl2
      go_wp2_with fail
      go_round
      case rel => exact ⟨k + 1, by omega, by go_num, by rw [HSum.out]⟩
      case measure => simp [intOf]; omega
    · obtain rfl : k = q := by omega
      have HV : Hid ((ts.take k).sum = ts.sum) := by unfold Hid; rw [List.take_of_length_le (Nat.le_of_eq HT.out)]
      rw [HV.out]
      go_wp2_with fail
      go_ret
      exact ⟨rfl, HAc.out⟩

set_option maxRecDepth 100000 in
set_option maxHeartbeats 4000000 in
theorem iPromise_any (A C : Option Addr) (n c m d : Nat) (hs : List AH) (ats : List AD) (cs : List ByteArray) (T X : Option Addr) (q e0 p f0 : Nat) (gs : List Hd) (ts : List Int) (xss : List (List Int)) (w : World) (r : Sch w A C n m d hs ats cs) (s : Sta w T X q p gs ts xss) :
    Calls Try.prog 37 #[.agg #[.slice A n c, .slice C m d], .agg #[.slice T q e0, .slice X p f0]] w fun e w' => e = .returned (.int .i64 (promI ats cs ts xss)) ∧ Below w.heap.size w w' := by
  have R := Lib.hid r
  have S := Lib.hid s
  have HL := Lib.hid r.lenA; have HC := Lib.hid r.lenC
  have HT := Lib.hid s.lenT; have HX := Lib.hid s.lenX
  have hn := r.hn; have hq := s.hq; have hp := s.hp
  clear r s
  cases h0 : statsB ats cs ts xss
  · have H0 := Lib.hid h0
    have HV : Hid (promI ats cs ts xss = 0) := by unfold Hid promI; rw [h0]; rfl
    clear h0
    have B0 := Below.refl w.heap.size w
    have s0 : w.heap.size ≤ w.heap.size := Nat.le_refl _
    go_enter Try.func37, Try.ntmps37
    have p_2 : Bx (w.alloc (.cells #[.slice A n c, .slice C m d] 31)) (w.heap.size) 31 #[.slice A n c, .slice C m d] := Bx.new _ _ _
    have B_2 := B0.alloc s0 (.cells #[.slice A n c, .slice C m d] 31)
    clear B0
    have cp_3 := p_2.cells
    have fp_3 := p_2.free
    clear cp_3 fp_3
    have p_4 := p_2.same (same_alloc (.cells #[.slice T q e0, .slice X p f0] 58) (by simp only [World.size_alloc]; omega))
    clear p_2
    have t_5 : Bx ((w.alloc (.cells #[.slice A n c, .slice C m d] 31)).alloc (.cells #[.slice T q e0, .slice X p f0] 58)) (w.heap.size + 1) 58 #[.slice T q e0, .slice X p f0] := by
      have h := Bx.new (w.alloc (.cells #[.slice A n c, .slice C m d] 31)) 58 #[.slice T q e0, .slice X p f0]
      simpa only [World.size_alloc] using h
    have B_5 := B_2.alloc (by simp only [World.size_alloc]; omega) (.cells #[.slice T q e0, .slice X p f0] 58)
    clear B_2
    have cp_6 := p_4.cells
    have fp_6 := p_4.free
    have ct_7 := t_5.cells
    have ft_7 := t_5.free
    go_wp2_with fail
    refine (iStatsOk_any _ _ _ _ _ _ _ ats cs _ _ _ _ _ _ _ ts xss _ (R.out.below B_5 (Nat.le_refl _)) (S.out.below B_5 (Nat.le_refl _))).mono ?_
    rw [H0.out]
    rintro e w1 ⟨rfl, b⟩
    clear cp_6 fp_6
    clear ct_7 ft_7
    simp only [World.size_alloc] at b
    have t_8 := b.size
    simp only [World.size_alloc] at t_8
    have z_8 : w.heap.size ≤ w1.heap.size := by omega
    have p_9 := p_4.same (same_below b (by omega))
    clear p_4
    have t_9 := t_5.same (same_below b (by omega))
    clear t_5
    have B_8 := B_5.trans (b.mono (by omega))
    clear B_5 b
    have cp_10 := p_9.cells
    have fp_10 := p_9.free
    have ct_11 := t_9.cells
    have ft_11 := t_9.free
    go_wp2_with fail
    go_ret
    exact ⟨by rw [HV.out]; rfl, B_8⟩
  · have H0 := Lib.hid h0
    obtain ⟨hl, hw, hs0, hs9⟩ := statsB_tot h0
    obtain ⟨hmx, htop, hm0, hm9⟩ := maxI_bd hl hw
    have HWt := Lib.hid hw; have HMx := Lib.hid hmx
    have HV : Hid (promI ats cs ts xss = ts.sum - maxI ts) := by unfold Hid promI; rw [h0]; rfl
    rw [HT.out] at hl htop
    obtain ⟨sm, hsm⟩ : ∃ sm, ts.sum = sm := ⟨_, rfl⟩
    obtain ⟨mx, hmm⟩ : ∃ mx, maxI ts = mx := ⟨_, rfl⟩
    obtain ⟨tp, htp⟩ : ∃ tp, topI ts = tp := ⟨_, rfl⟩
    have HSm := Lib.hid hsm; have HMm := Lib.hid hmm; have HTp := Lib.hid htp
    rw [hsm] at hs0 hs9 HV; rw [hmm] at hm0 hm9 HV HMx; rw [htp] at htop HMx
    have nw : IntKind.i64.wrap (sm - mx) = sm - mx := IntWalk.i64_in _ (by omega)
    clear h0 hw hmx hsm hmm htp
    have B0 := Below.refl w.heap.size w
    have s0 : w.heap.size ≤ w.heap.size := Nat.le_refl _
    go_enter Try.func37, Try.ntmps37
    have p_2 : Bx (w.alloc (.cells #[.slice A n c, .slice C m d] 31)) (w.heap.size) 31 #[.slice A n c, .slice C m d] := Bx.new _ _ _
    have B_2 := B0.alloc s0 (.cells #[.slice A n c, .slice C m d] 31)
    clear B0
    have cp_3 := p_2.cells
    have fp_3 := p_2.free
    clear cp_3 fp_3
    have p_4 := p_2.same (same_alloc (.cells #[.slice T q e0, .slice X p f0] 58) (by simp only [World.size_alloc]; omega))
    clear p_2
    have t_5 : Bx ((w.alloc (.cells #[.slice A n c, .slice C m d] 31)).alloc (.cells #[.slice T q e0, .slice X p f0] 58)) (w.heap.size + 1) 58 #[.slice T q e0, .slice X p f0] := by
      have h := Bx.new (w.alloc (.cells #[.slice A n c, .slice C m d] 31)) 58 #[.slice T q e0, .slice X p f0]
      simpa only [World.size_alloc] using h
    have B_5 := B_2.alloc (by simp only [World.size_alloc]; omega) (.cells #[.slice T q e0, .slice X p f0] 58)
    clear B_2
    have cp_6 := p_4.cells
    have fp_6 := p_4.free
    have ct_7 := t_5.cells
    have ft_7 := t_5.free
    go_wp2_with fail
    refine (iStatsOk_any _ _ _ _ _ _ _ ats cs _ _ _ _ _ _ _ ts xss _ (R.out.below B_5 (Nat.le_refl _)) (S.out.below B_5 (Nat.le_refl _))).mono ?_
    rw [H0.out]
    rintro e w1 ⟨rfl, b⟩
    clear cp_6 fp_6
    clear ct_7 ft_7
    simp only [World.size_alloc] at b
    have t_8 := b.size
    simp only [World.size_alloc] at t_8
    have z_8 : w.heap.size ≤ w1.heap.size := by omega
    have p_9 := p_4.same (same_below b (by omega))
    clear p_4
    have t_9 := t_5.same (same_below b (by omega))
    clear t_5
    have B_8 := B_5.trans (b.mono (by omega))
    clear B_5 b
    have cp_10 := p_9.cells
    have fp_10 := p_9.free
    have ct_11 := t_9.cells
    have ft_11 := t_9.free
    have R1 := Lib.hid (R.out.below B_8 (Nat.le_refl _)); have S1 := Lib.hid (S.out.below B_8 (Nat.le_refl _))
    go_wp2_with fail
    go_quiet ((first | (go_at_call 79; exact Calls.quiet_of_same ((iTotal_any _ q _ ts _ (S1.out.tot.below (by repeat (first | exact Below.refl _ _ | apply below_drewN | apply Below.drew)) (Nat.le_refl _)) hq (fun x hx => badW_get HWt.out hx)).mono fun _ _ ⟨a1, a2⟩ => ⟨by rw [a1, HSm.out], a2.symm⟩)) | (go_at_call 80; exact Calls.quiet_of_same ((iMax_any _ q _ ts _ (S1.out.tot.below (by repeat (first | exact Below.refl _ _ | apply below_drewN | apply Below.drew)) (Nat.le_refl _)) hq (by omega)).mono fun _ _ ⟨a1, a2⟩ => ⟨by rw [a1, HMm.out], a2.symm⟩))))
    go_wp2_with fail
    go_ret
    exact ⟨by rw [HV.out]; rfl, Below.trans B_8 (Below.mono (B := w1.heap.size) (by repeat (first | exact Below.refl _ _ | apply below_drewN | apply Below.drew)) B_8.size)⟩

set_option maxRecDepth 100000 in
set_option maxHeartbeats 4000000 in
theorem sPromise_any (A C : Option Addr) (n c m d : Nat) (hs : List AH) (ats : List AD) (cs : List ByteArray) (T X : Option Addr) (q e0 p f0 : Nat) (gs : List Hd) (ts : List Int) (xss : List (List Int)) (w : World) (r : Sch w A C n m d hs ats cs) (s : Sta w T X q p gs ts xss) :
    Calls Try.prog 35 #[.agg #[.slice A n c, .slice C m d], .agg #[.slice T q e0, .slice X p f0]] w fun e w' => e = .returned (.int .i64 (promI ats cs ts xss)) ∧ Below w.heap.size w w' := by
  have R := Lib.hid r
  have S := Lib.hid s
  have HL := Lib.hid r.lenA; have HC := Lib.hid r.lenC
  have HT := Lib.hid s.lenT; have HX := Lib.hid s.lenX
  have hn := r.hn; have hq := s.hq; have hp := s.hp
  clear r s
  cases h0 : statsB ats cs ts xss
  · have H0 := Lib.hid h0
    have HV : Hid (promI ats cs ts xss = 0) := by unfold Hid promI; rw [h0]; rfl
    clear h0
    have B0 := Below.refl w.heap.size w
    have s0 : w.heap.size ≤ w.heap.size := Nat.le_refl _
    go_enter Try.func35, Try.ntmps35
    have p_2 : Bx (w.alloc (.cells #[.slice A n c, .slice C m d] 31)) (w.heap.size) 31 #[.slice A n c, .slice C m d] := Bx.new _ _ _
    have B_2 := B0.alloc s0 (.cells #[.slice A n c, .slice C m d] 31)
    clear B0
    have cp_3 := p_2.cells
    have fp_3 := p_2.free
    clear cp_3 fp_3
    have p_4 := p_2.same (same_alloc (.cells #[.slice T q e0, .slice X p f0] 58) (by simp only [World.size_alloc]; omega))
    clear p_2
    have t_5 : Bx ((w.alloc (.cells #[.slice A n c, .slice C m d] 31)).alloc (.cells #[.slice T q e0, .slice X p f0] 58)) (w.heap.size + 1) 58 #[.slice T q e0, .slice X p f0] := by
      have h := Bx.new (w.alloc (.cells #[.slice A n c, .slice C m d] 31)) 58 #[.slice T q e0, .slice X p f0]
      simpa only [World.size_alloc] using h
    have B_5 := B_2.alloc (by simp only [World.size_alloc]; omega) (.cells #[.slice T q e0, .slice X p f0] 58)
    clear B_2
    have cp_6 := p_4.cells
    have fp_6 := p_4.free
    have ct_7 := t_5.cells
    have ft_7 := t_5.free
    go_wp2_with fail
    refine (sStatsOk_any _ _ _ _ _ _ _ ats cs _ _ _ _ _ _ _ ts xss _ (R.out.below B_5 (Nat.le_refl _)) (S.out.below B_5 (Nat.le_refl _))).mono ?_
    rw [H0.out]
    rintro e w1 ⟨rfl, b⟩
    clear cp_6 fp_6
    clear ct_7 ft_7
    simp only [World.size_alloc] at b
    have t_8 := b.size
    simp only [World.size_alloc] at t_8
    have z_8 : w.heap.size ≤ w1.heap.size := by omega
    have p_9 := p_4.same (same_below b (by omega))
    clear p_4
    have t_9 := t_5.same (same_below b (by omega))
    clear t_5
    have B_8 := B_5.trans (b.mono (by omega))
    clear B_5 b
    have cp_10 := p_9.cells
    have fp_10 := p_9.free
    have ct_11 := t_9.cells
    have ft_11 := t_9.free
    go_wp2_with fail
    go_ret
    exact ⟨by rw [HV.out]; rfl, B_8⟩
  · have H0 := Lib.hid h0
    obtain ⟨hl, hw, hs0, hs9⟩ := statsB_tot h0
    obtain ⟨hmx, htop, hm0, hm9⟩ := maxI_bd hl hw
    have HWt := Lib.hid hw; have HMx := Lib.hid hmx
    have HV : Hid (promI ats cs ts xss = ts.sum - maxI ts) := by unfold Hid promI; rw [h0]; rfl
    rw [HT.out] at hl htop
    obtain ⟨sm, hsm⟩ : ∃ sm, ts.sum = sm := ⟨_, rfl⟩
    obtain ⟨mx, hmm⟩ : ∃ mx, maxI ts = mx := ⟨_, rfl⟩
    obtain ⟨tp, htp⟩ : ∃ tp, topI ts = tp := ⟨_, rfl⟩
    have HSm := Lib.hid hsm; have HMm := Lib.hid hmm; have HTp := Lib.hid htp
    rw [hsm] at hs0 hs9 HV; rw [hmm] at hm0 hm9 HV HMx; rw [htp] at htop HMx
    have nw : IntKind.i64.wrap (sm - mx) = sm - mx := IntWalk.i64_in _ (by omega)
    clear h0 hw hmx hsm hmm htp
    have B0 := Below.refl w.heap.size w
    have s0 : w.heap.size ≤ w.heap.size := Nat.le_refl _
    go_enter Try.func35, Try.ntmps35
    have p_2 : Bx (w.alloc (.cells #[.slice A n c, .slice C m d] 31)) (w.heap.size) 31 #[.slice A n c, .slice C m d] := Bx.new _ _ _
    have B_2 := B0.alloc s0 (.cells #[.slice A n c, .slice C m d] 31)
    clear B0
    have cp_3 := p_2.cells
    have fp_3 := p_2.free
    clear cp_3 fp_3
    have p_4 := p_2.same (same_alloc (.cells #[.slice T q e0, .slice X p f0] 58) (by simp only [World.size_alloc]; omega))
    clear p_2
    have t_5 : Bx ((w.alloc (.cells #[.slice A n c, .slice C m d] 31)).alloc (.cells #[.slice T q e0, .slice X p f0] 58)) (w.heap.size + 1) 58 #[.slice T q e0, .slice X p f0] := by
      have h := Bx.new (w.alloc (.cells #[.slice A n c, .slice C m d] 31)) 58 #[.slice T q e0, .slice X p f0]
      simpa only [World.size_alloc] using h
    have B_5 := B_2.alloc (by simp only [World.size_alloc]; omega) (.cells #[.slice T q e0, .slice X p f0] 58)
    clear B_2
    have cp_6 := p_4.cells
    have fp_6 := p_4.free
    have ct_7 := t_5.cells
    have ft_7 := t_5.free
    go_wp2_with fail
    refine (sStatsOk_any _ _ _ _ _ _ _ ats cs _ _ _ _ _ _ _ ts xss _ (R.out.below B_5 (Nat.le_refl _)) (S.out.below B_5 (Nat.le_refl _))).mono ?_
    rw [H0.out]
    rintro e w1 ⟨rfl, b⟩
    clear cp_6 fp_6
    clear ct_7 ft_7
    simp only [World.size_alloc] at b
    have t_8 := b.size
    simp only [World.size_alloc] at t_8
    have z_8 : w.heap.size ≤ w1.heap.size := by omega
    have p_9 := p_4.same (same_below b (by omega))
    clear p_4
    have t_9 := t_5.same (same_below b (by omega))
    clear t_5
    have B_8 := B_5.trans (b.mono (by omega))
    clear B_5 b
    have cp_10 := p_9.cells
    have fp_10 := p_9.free
    have ct_11 := t_9.cells
    have ft_11 := t_9.free
    have R1 := Lib.hid (R.out.below B_8 (Nat.le_refl _)); have S1 := Lib.hid (S.out.below B_8 (Nat.le_refl _))
    go_wp2_with fail
    obtain ⟨bt, ot, rfl, lbt, hct⟩ := S1.out.tot.ex (by omega)
    have K0 : Hid (w1.cell? ⟨bt, ot + tp, none⟩ = some (.int .i64 mx)) := hct tp _ (by simp [HMx.out])
    clear hct
    have cl0 := cell_regrown (w := w1) (a := ⟨w.heap.size, 0, none⟩) (v := .slice A n c) (p_9.cells 0)
    have cl1 := cell_regrown (w := w1) (a := ⟨w.heap.size, 1, none⟩) (v := .slice C m d) (p_9.cells 1)
    have cl2 := cell_regrown (w := w1) (a := ⟨w.heap.size + 1, 0, none⟩) (v := .slice (some ⟨bt, ot, none⟩) q e0) (t_9.cells 0)
    have cl3 := cell_regrown (w := w1) (a := ⟨w.heap.size + 1, 1, none⟩) (v := .slice X p f0) (t_9.cells 1)
    have cl4 := cell_regrown (w := w1) (a := ⟨bt, ot + tp, none⟩) (v := .int .i64 mx) K0.out
    have m0 : (0 : Int) ≤ (tp : Int) := Int.natCast_nonneg _
    have m1 : (tp : Int) < (q : Int) := by omega
    have cT : ∀ d' os, Calls Try.prog 75 #[.agg #[.slice A n c, .slice C m d], .agg #[.slice (some ⟨bt, ot, none⟩) q e0, .slice X p f0]] (grow (redrawn w1 d') os) fun e w'' => e = .returned (.int .i64 sm) ∧ ∃ p : Regrown, w'' = grow (redrawn w1 p.d) p.os := fun d' os => Calls.regrown_of (by rw [← HSm.out]; exact sStatsTotal_any _ _ _ _ _ _ _ ats cs _ _ _ _ _ _ _ ts xss _ (R1.out.below (below_regrown w1 d' os) (Nat.le_refl _)) (S1.out.below (below_regrown w1 d' os) (Nat.le_refl _)) H0.out)
    have cP : ∀ d' os, Calls Try.prog 76 #[.slice (some ⟨bt, ot, none⟩) q e0] (grow (redrawn w1 d') os) fun e w'' => e = .returned (.int .i64 (tp : Nat)) ∧ ∃ p : Regrown, w'' = grow (redrawn w1 p.d) p.os := fun d' os => Calls.regrown_of (by rw [← HTp.out]; exact sTopOf_any _ _ _ ts _ (S1.out.below (below_regrown w1 d' os) (Nat.le_refl _)).tot hq (by omega))
    clear p_9 t_9
    refine wp_region_quiet_below (by kernel_rfl) (by kernel_rfl) ?_
    repeat (first | go_big_quiet_step (first | exact cT _ _ | exact cP _ _) | quiet_step (first | exact cT _ _ | exact cP _ _))
    refine wpQuiet_nil ?_
    intro _ hw'
    obtain ⟨⟨dq, osq⟩, hw''⟩ := hw'
    subst hw''
    go_wp2
    go_ret
    exact ⟨by rw [HV.out]; rfl, B_8.trans ((below_regrown _ dq osq).mono B_8.size)⟩

set_option maxHeartbeats 4000000 in
theorem iStatsPure_any (A C : Option Addr) (n c m d : Nat) (hs : List AH) (ats : List AD) (cs : List ByteArray) (T X : Option Addr) (q e0 p f0 : Nat) (gs : List Hd) (ts : List Int) (xss : List (List Int)) (w : World) (r : Sch w A C n m d hs ats cs) (s : Sta w T X q p gs ts xss) :
    Calls Try.prog 40 #[.agg #[.slice A n c, .slice C m d], .agg #[.slice T q e0, .slice X p f0]] w fun e w' => e = .returned (.bool (pureB ats cs ts xss)) ∧ Below w.heap.size w w' := by
  have R := Lib.hid r
  have S := Lib.hid s
  have HL := Lib.hid r.lenA; have HC := Lib.hid r.lenC
  have HT := Lib.hid s.lenT; have HX := Lib.hid s.lenX
  have hn := r.hn; have hq := s.hq; have hp := s.hp
  clear r s
  cases h0 : statsB ats cs ts xss
  · have H0 := Lib.hid h0
    have HV : Hid (pureB ats cs ts xss = false) := by unfold Hid pureB; rw [h0]; rfl
    clear h0
    have B0 := Below.refl w.heap.size w
    have s0 : w.heap.size ≤ w.heap.size := Nat.le_refl _
    go_enter Try.func40, Try.ntmps40
    have p_2 : Bx (w.alloc (.cells #[.slice A n c, .slice C m d] 31)) (w.heap.size) 31 #[.slice A n c, .slice C m d] := Bx.new _ _ _
    have B_2 := B0.alloc s0 (.cells #[.slice A n c, .slice C m d] 31)
    clear B0
    have cp_3 := p_2.cells
    have fp_3 := p_2.free
    clear cp_3 fp_3
    have p_4 := p_2.same (same_alloc (.cells #[.slice T q e0, .slice X p f0] 58) (by simp only [World.size_alloc]; omega))
    clear p_2
    have t_5 : Bx ((w.alloc (.cells #[.slice A n c, .slice C m d] 31)).alloc (.cells #[.slice T q e0, .slice X p f0] 58)) (w.heap.size + 1) 58 #[.slice T q e0, .slice X p f0] := by
      have h := Bx.new (w.alloc (.cells #[.slice A n c, .slice C m d] 31)) 58 #[.slice T q e0, .slice X p f0]
      simpa only [World.size_alloc] using h
    have B_5 := B_2.alloc (by simp only [World.size_alloc]; omega) (.cells #[.slice T q e0, .slice X p f0] 58)
    clear B_2
    have cp_6 := p_4.cells
    have fp_6 := p_4.free
    have ct_7 := t_5.cells
    have ft_7 := t_5.free
    go_wp2_with fail
    refine (iStatsOk_any _ _ _ _ _ _ _ ats cs _ _ _ _ _ _ _ ts xss _ (R.out.below B_5 (Nat.le_refl _)) (S.out.below B_5 (Nat.le_refl _))).mono ?_
    rw [H0.out]
    rintro e w1 ⟨rfl, b⟩
    clear cp_6 fp_6
    clear ct_7 ft_7
    simp only [World.size_alloc] at b
    have t_8 := b.size
    simp only [World.size_alloc] at t_8
    have z_8 : w.heap.size ≤ w1.heap.size := by omega
    have p_9 := p_4.same (same_below b (by omega))
    clear p_4
    have t_9 := t_5.same (same_below b (by omega))
    clear t_5
    have B_8 := B_5.trans (b.mono (by omega))
    clear B_5 b
    have cp_10 := p_9.cells
    have fp_10 := p_9.free
    have ct_11 := t_9.cells
    have ft_11 := t_9.free
    go_wp2_with fail
    go_ret
    exact ⟨by rw [HV.out]; rfl, B_8⟩
  · have H0 := Lib.hid h0
    obtain ⟨y, hy⟩ : ∃ y, promI ats cs ts xss = y := ⟨_, rfl⟩
    have HY := Lib.hid hy
    have HV : Hid (pureB ats cs ts xss = decide (y = 0)) := by unfold Hid pureB; rw [h0, hy, Bool.true_and]
    clear h0 hy
    by_cases hy0 : y = 0
    · subst hy0
      rw [show decide ((0 : Int) = 0) = true from rfl] at HV
      have B0 := Below.refl w.heap.size w
      have s0 : w.heap.size ≤ w.heap.size := Nat.le_refl _
      go_enter Try.func40, Try.ntmps40
      have p_2 : Bx (w.alloc (.cells #[.slice A n c, .slice C m d] 31)) (w.heap.size) 31 #[.slice A n c, .slice C m d] := Bx.new _ _ _
      have B_2 := B0.alloc s0 (.cells #[.slice A n c, .slice C m d] 31)
      clear B0
      have cp_3 := p_2.cells
      have fp_3 := p_2.free
      clear cp_3 fp_3
      have p_4 := p_2.same (same_alloc (.cells #[.slice T q e0, .slice X p f0] 58) (by simp only [World.size_alloc]; omega))
      clear p_2
      have t_5 : Bx ((w.alloc (.cells #[.slice A n c, .slice C m d] 31)).alloc (.cells #[.slice T q e0, .slice X p f0] 58)) (w.heap.size + 1) 58 #[.slice T q e0, .slice X p f0] := by
        have h := Bx.new (w.alloc (.cells #[.slice A n c, .slice C m d] 31)) 58 #[.slice T q e0, .slice X p f0]
        simpa only [World.size_alloc] using h
      have B_5 := B_2.alloc (by simp only [World.size_alloc]; omega) (.cells #[.slice T q e0, .slice X p f0] 58)
      clear B_2
      have cp_6 := p_4.cells
      have fp_6 := p_4.free
      have ct_7 := t_5.cells
      have ft_7 := t_5.free
      go_wp2_with fail
      refine (iStatsOk_any _ _ _ _ _ _ _ ats cs _ _ _ _ _ _ _ ts xss _ (R.out.below B_5 (Nat.le_refl _)) (S.out.below B_5 (Nat.le_refl _))).mono ?_
      rw [H0.out]
      rintro e w1 ⟨rfl, b⟩
      clear cp_6 fp_6
      clear ct_7 ft_7
      simp only [World.size_alloc] at b
      have t_8 := b.size
      simp only [World.size_alloc] at t_8
      have z_8 : w.heap.size ≤ w1.heap.size := by omega
      have p_9 := p_4.same (same_below b (by omega))
      clear p_4
      have t_9 := t_5.same (same_below b (by omega))
      clear t_5
      have B_8 := B_5.trans (b.mono (by omega))
      clear B_5 b
      have cp_10 := p_9.cells
      have fp_10 := p_9.free
      have ct_11 := t_9.cells
      have ft_11 := t_9.free
      go_wp2_with fail
      refine (iPromise_any _ _ _ _ _ _ _ ats cs _ _ _ _ _ _ _ ts xss _ (R.out.below B_8 (Nat.le_refl _)) (S.out.below B_8 (Nat.le_refl _))).mono ?_
      rw [HY.out]
      rintro e w2 ⟨rfl, b⟩
      clear cp_10 fp_10
      clear ct_11 ft_11
      have t_12 := b.size
      have z_12 : w.heap.size ≤ w2.heap.size := by omega
      have p_13 := p_9.same (same_below b (by omega))
      clear p_9
      have t_13 := t_9.same (same_below b (by omega))
      clear t_9
      have B_12 := B_8.trans (b.mono (by omega))
      clear B_8 b
      have cp_14 := p_13.cells
      have fp_14 := p_13.free
      have ct_15 := t_13.cells
      have ft_15 := t_13.free
      go_wp2_with fail
      go_ret
      exact ⟨by rw [HV.out]; rfl, B_12⟩
    · have hyb : (y == 0) = false := beq_false_of_ne hy0
      have hyd : decide (y = 0) = false := decide_eq_false hy0
      rw [hyd] at HV
      have B0 := Below.refl w.heap.size w
      have s0 : w.heap.size ≤ w.heap.size := Nat.le_refl _
      go_enter Try.func40, Try.ntmps40
      have p_2 : Bx (w.alloc (.cells #[.slice A n c, .slice C m d] 31)) (w.heap.size) 31 #[.slice A n c, .slice C m d] := Bx.new _ _ _
      have B_2 := B0.alloc s0 (.cells #[.slice A n c, .slice C m d] 31)
      clear B0
      have cp_3 := p_2.cells
      have fp_3 := p_2.free
      clear cp_3 fp_3
      have p_4 := p_2.same (same_alloc (.cells #[.slice T q e0, .slice X p f0] 58) (by simp only [World.size_alloc]; omega))
      clear p_2
      have t_5 : Bx ((w.alloc (.cells #[.slice A n c, .slice C m d] 31)).alloc (.cells #[.slice T q e0, .slice X p f0] 58)) (w.heap.size + 1) 58 #[.slice T q e0, .slice X p f0] := by
        have h := Bx.new (w.alloc (.cells #[.slice A n c, .slice C m d] 31)) 58 #[.slice T q e0, .slice X p f0]
        simpa only [World.size_alloc] using h
      have B_5 := B_2.alloc (by simp only [World.size_alloc]; omega) (.cells #[.slice T q e0, .slice X p f0] 58)
      clear B_2
      have cp_6 := p_4.cells
      have fp_6 := p_4.free
      have ct_7 := t_5.cells
      have ft_7 := t_5.free
      go_wp2_with fail
      refine (iStatsOk_any _ _ _ _ _ _ _ ats cs _ _ _ _ _ _ _ ts xss _ (R.out.below B_5 (Nat.le_refl _)) (S.out.below B_5 (Nat.le_refl _))).mono ?_
      rw [H0.out]
      rintro e w1 ⟨rfl, b⟩
      clear cp_6 fp_6
      clear ct_7 ft_7
      simp only [World.size_alloc] at b
      have t_8 := b.size
      simp only [World.size_alloc] at t_8
      have z_8 : w.heap.size ≤ w1.heap.size := by omega
      have p_9 := p_4.same (same_below b (by omega))
      clear p_4
      have t_9 := t_5.same (same_below b (by omega))
      clear t_5
      have B_8 := B_5.trans (b.mono (by omega))
      clear B_5 b
      have cp_10 := p_9.cells
      have fp_10 := p_9.free
      have ct_11 := t_9.cells
      have ft_11 := t_9.free
      go_wp2_with fail
      refine (iPromise_any _ _ _ _ _ _ _ ats cs _ _ _ _ _ _ _ ts xss _ (R.out.below B_8 (Nat.le_refl _)) (S.out.below B_8 (Nat.le_refl _))).mono ?_
      rw [HY.out]
      rintro e w2 ⟨rfl, b⟩
      clear cp_10 fp_10
      clear ct_11 ft_11
      have t_12 := b.size
      have z_12 : w.heap.size ≤ w2.heap.size := by omega
      have p_13 := p_9.same (same_below b (by omega))
      clear p_9
      have t_13 := t_9.same (same_below b (by omega))
      clear t_9
      have B_12 := B_8.trans (b.mono (by omega))
      clear B_8 b
      have cp_14 := p_13.cells
      have fp_14 := p_13.free
      have ct_15 := t_13.cells
      have ft_15 := t_13.free
      go_wp2_with fail
      go_ret
      exact ⟨by rw [HV.out]; rfl, B_12⟩

set_option maxHeartbeats 4000000 in
theorem sStatsPure_any (A C : Option Addr) (n c m d : Nat) (hs : List AH) (ats : List AD) (cs : List ByteArray) (T X : Option Addr) (q e0 p f0 : Nat) (gs : List Hd) (ts : List Int) (xss : List (List Int)) (w : World) (r : Sch w A C n m d hs ats cs) (s : Sta w T X q p gs ts xss) :
    Calls Try.prog 39 #[.agg #[.slice A n c, .slice C m d], .agg #[.slice T q e0, .slice X p f0]] w fun e w' => e = .returned (.bool (pureB ats cs ts xss)) ∧ Below w.heap.size w w' := by
  have R := Lib.hid r
  have S := Lib.hid s
  have HL := Lib.hid r.lenA; have HC := Lib.hid r.lenC
  have HT := Lib.hid s.lenT; have HX := Lib.hid s.lenX
  have hn := r.hn; have hq := s.hq; have hp := s.hp
  clear r s
  cases h0 : statsB ats cs ts xss
  · have H0 := Lib.hid h0
    have HV : Hid (pureB ats cs ts xss = false) := by unfold Hid pureB; rw [h0]; rfl
    clear h0
    have B0 := Below.refl w.heap.size w
    have s0 : w.heap.size ≤ w.heap.size := Nat.le_refl _
    go_enter Try.func39, Try.ntmps39
    have p_2 : Bx (w.alloc (.cells #[.slice A n c, .slice C m d] 31)) (w.heap.size) 31 #[.slice A n c, .slice C m d] := Bx.new _ _ _
    have B_2 := B0.alloc s0 (.cells #[.slice A n c, .slice C m d] 31)
    clear B0
    have cp_3 := p_2.cells
    have fp_3 := p_2.free
    clear cp_3 fp_3
    have p_4 := p_2.same (same_alloc (.cells #[.slice T q e0, .slice X p f0] 58) (by simp only [World.size_alloc]; omega))
    clear p_2
    have t_5 : Bx ((w.alloc (.cells #[.slice A n c, .slice C m d] 31)).alloc (.cells #[.slice T q e0, .slice X p f0] 58)) (w.heap.size + 1) 58 #[.slice T q e0, .slice X p f0] := by
      have h := Bx.new (w.alloc (.cells #[.slice A n c, .slice C m d] 31)) 58 #[.slice T q e0, .slice X p f0]
      simpa only [World.size_alloc] using h
    have B_5 := B_2.alloc (by simp only [World.size_alloc]; omega) (.cells #[.slice T q e0, .slice X p f0] 58)
    clear B_2
    have cp_6 := p_4.cells
    have fp_6 := p_4.free
    have ct_7 := t_5.cells
    have ft_7 := t_5.free
    go_wp2_with fail
    refine (sStatsOk_any _ _ _ _ _ _ _ ats cs _ _ _ _ _ _ _ ts xss _ (R.out.below B_5 (Nat.le_refl _)) (S.out.below B_5 (Nat.le_refl _))).mono ?_
    rw [H0.out]
    rintro e w1 ⟨rfl, b⟩
    clear cp_6 fp_6
    clear ct_7 ft_7
    simp only [World.size_alloc] at b
    have t_8 := b.size
    simp only [World.size_alloc] at t_8
    have z_8 : w.heap.size ≤ w1.heap.size := by omega
    have p_9 := p_4.same (same_below b (by omega))
    clear p_4
    have t_9 := t_5.same (same_below b (by omega))
    clear t_5
    have B_8 := B_5.trans (b.mono (by omega))
    clear B_5 b
    have cp_10 := p_9.cells
    have fp_10 := p_9.free
    have ct_11 := t_9.cells
    have ft_11 := t_9.free
    go_wp2_with fail
    go_ret
    exact ⟨by rw [HV.out]; rfl, B_8⟩
  · have H0 := Lib.hid h0
    obtain ⟨y, hy⟩ : ∃ y, promI ats cs ts xss = y := ⟨_, rfl⟩
    have HY := Lib.hid hy
    have HV : Hid (pureB ats cs ts xss = decide (y = 0)) := by unfold Hid pureB; rw [h0, hy, Bool.true_and]
    clear h0 hy
    by_cases hy0 : y = 0
    · subst hy0
      rw [show decide ((0 : Int) = 0) = true from rfl] at HV
      have B0 := Below.refl w.heap.size w
      have s0 : w.heap.size ≤ w.heap.size := Nat.le_refl _
      go_enter Try.func39, Try.ntmps39
      have p_2 : Bx (w.alloc (.cells #[.slice A n c, .slice C m d] 31)) (w.heap.size) 31 #[.slice A n c, .slice C m d] := Bx.new _ _ _
      have B_2 := B0.alloc s0 (.cells #[.slice A n c, .slice C m d] 31)
      clear B0
      have cp_3 := p_2.cells
      have fp_3 := p_2.free
      clear cp_3 fp_3
      have p_4 := p_2.same (same_alloc (.cells #[.slice T q e0, .slice X p f0] 58) (by simp only [World.size_alloc]; omega))
      clear p_2
      have t_5 : Bx ((w.alloc (.cells #[.slice A n c, .slice C m d] 31)).alloc (.cells #[.slice T q e0, .slice X p f0] 58)) (w.heap.size + 1) 58 #[.slice T q e0, .slice X p f0] := by
        have h := Bx.new (w.alloc (.cells #[.slice A n c, .slice C m d] 31)) 58 #[.slice T q e0, .slice X p f0]
        simpa only [World.size_alloc] using h
      have B_5 := B_2.alloc (by simp only [World.size_alloc]; omega) (.cells #[.slice T q e0, .slice X p f0] 58)
      clear B_2
      have cp_6 := p_4.cells
      have fp_6 := p_4.free
      have ct_7 := t_5.cells
      have ft_7 := t_5.free
      go_wp2_with fail
      refine (sStatsOk_any _ _ _ _ _ _ _ ats cs _ _ _ _ _ _ _ ts xss _ (R.out.below B_5 (Nat.le_refl _)) (S.out.below B_5 (Nat.le_refl _))).mono ?_
      rw [H0.out]
      rintro e w1 ⟨rfl, b⟩
      clear cp_6 fp_6
      clear ct_7 ft_7
      simp only [World.size_alloc] at b
      have t_8 := b.size
      simp only [World.size_alloc] at t_8
      have z_8 : w.heap.size ≤ w1.heap.size := by omega
      have p_9 := p_4.same (same_below b (by omega))
      clear p_4
      have t_9 := t_5.same (same_below b (by omega))
      clear t_5
      have B_8 := B_5.trans (b.mono (by omega))
      clear B_5 b
      have cp_10 := p_9.cells
      have fp_10 := p_9.free
      have ct_11 := t_9.cells
      have ft_11 := t_9.free
      go_wp2_with fail
      refine (sPromise_any _ _ _ _ _ _ _ ats cs _ _ _ _ _ _ _ ts xss _ (R.out.below B_8 (Nat.le_refl _)) (S.out.below B_8 (Nat.le_refl _))).mono ?_
      rw [HY.out]
      rintro e w2 ⟨rfl, b⟩
      clear cp_10 fp_10
      clear ct_11 ft_11
      have t_12 := b.size
      have z_12 : w.heap.size ≤ w2.heap.size := by omega
      have p_13 := p_9.same (same_below b (by omega))
      clear p_9
      have t_13 := t_9.same (same_below b (by omega))
      clear t_9
      have B_12 := B_8.trans (b.mono (by omega))
      clear B_8 b
      have cp_14 := p_13.cells
      have fp_14 := p_13.free
      have ct_15 := t_13.cells
      have ft_15 := t_13.free
      go_wp2_with fail
      go_ret
      exact ⟨by rw [HV.out]; rfl, B_12⟩
    · have hyb : (y == 0) = false := beq_false_of_ne hy0
      have hyd : decide (y = 0) = false := decide_eq_false hy0
      rw [hyd] at HV
      have B0 := Below.refl w.heap.size w
      have s0 : w.heap.size ≤ w.heap.size := Nat.le_refl _
      go_enter Try.func39, Try.ntmps39
      have p_2 : Bx (w.alloc (.cells #[.slice A n c, .slice C m d] 31)) (w.heap.size) 31 #[.slice A n c, .slice C m d] := Bx.new _ _ _
      have B_2 := B0.alloc s0 (.cells #[.slice A n c, .slice C m d] 31)
      clear B0
      have cp_3 := p_2.cells
      have fp_3 := p_2.free
      clear cp_3 fp_3
      have p_4 := p_2.same (same_alloc (.cells #[.slice T q e0, .slice X p f0] 58) (by simp only [World.size_alloc]; omega))
      clear p_2
      have t_5 : Bx ((w.alloc (.cells #[.slice A n c, .slice C m d] 31)).alloc (.cells #[.slice T q e0, .slice X p f0] 58)) (w.heap.size + 1) 58 #[.slice T q e0, .slice X p f0] := by
        have h := Bx.new (w.alloc (.cells #[.slice A n c, .slice C m d] 31)) 58 #[.slice T q e0, .slice X p f0]
        simpa only [World.size_alloc] using h
      have B_5 := B_2.alloc (by simp only [World.size_alloc]; omega) (.cells #[.slice T q e0, .slice X p f0] 58)
      clear B_2
      have cp_6 := p_4.cells
      have fp_6 := p_4.free
      have ct_7 := t_5.cells
      have ft_7 := t_5.free
      go_wp2_with fail
      refine (sStatsOk_any _ _ _ _ _ _ _ ats cs _ _ _ _ _ _ _ ts xss _ (R.out.below B_5 (Nat.le_refl _)) (S.out.below B_5 (Nat.le_refl _))).mono ?_
      rw [H0.out]
      rintro e w1 ⟨rfl, b⟩
      clear cp_6 fp_6
      clear ct_7 ft_7
      simp only [World.size_alloc] at b
      have t_8 := b.size
      simp only [World.size_alloc] at t_8
      have z_8 : w.heap.size ≤ w1.heap.size := by omega
      have p_9 := p_4.same (same_below b (by omega))
      clear p_4
      have t_9 := t_5.same (same_below b (by omega))
      clear t_5
      have B_8 := B_5.trans (b.mono (by omega))
      clear B_5 b
      have cp_10 := p_9.cells
      have fp_10 := p_9.free
      have ct_11 := t_9.cells
      have ft_11 := t_9.free
      go_wp2_with fail
      refine (sPromise_any _ _ _ _ _ _ _ ats cs _ _ _ _ _ _ _ ts xss _ (R.out.below B_8 (Nat.le_refl _)) (S.out.below B_8 (Nat.le_refl _))).mono ?_
      rw [HY.out]
      rintro e w2 ⟨rfl, b⟩
      clear cp_10 fp_10
      clear ct_11 ft_11
      have t_12 := b.size
      have z_12 : w.heap.size ≤ w2.heap.size := by omega
      have p_13 := p_9.same (same_below b (by omega))
      clear p_9
      have t_13 := t_9.same (same_below b (by omega))
      clear t_9
      have B_12 := B_8.trans (b.mono (by omega))
      clear B_8 b
      have cp_14 := p_13.cells
      have fp_14 := p_13.free
      have ct_15 := t_13.cells
      have ft_15 := t_13.free
      go_wp2_with fail
      go_ret
      exact ⟨by rw [HV.out]; rfl, B_12⟩

end Go.Proofs.Ytgkefkbpdbokbaa
