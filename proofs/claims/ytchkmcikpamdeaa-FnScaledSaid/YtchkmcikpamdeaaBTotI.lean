/-
  BranchTotals of impl.
-/
import Derived.Test.YtchkmcikpamdeaaBTot
namespace Go.Proofs.Ytchkmcikpamdeaa
open Go.RowKit
set_option linter.unusedSimpArgs false
set_option linter.unusedVariables false

def btB (ats : List AD) (cs : List ByteArray) (ts : List Int) (xss : List (List Int)) (fa ft i : Int) : Bool := statsB ats cs ts xss && decide (¬ xss.length = 0) && inB i 0 (brI ats cs fa ft - 1)
def btL (ats : List AD) (cs : List ByteArray) (xss : List (List Int)) (fa ft i : Int) : List Value := runL cs.length (xss.getD fa.toNat []).length (selRow cs.length (brSel ats cs fa ft i) (xss.getD fa.toNat []))
theorem brI_bd (ats : List AD) (cs : List ByteArray) (fa ft : Int) : 0 ≤ brI ats cs fa ft ∧ brI ats cs fa ft ≤ 4 := by
  unfold brI
  cases h : forkB ats cs fa ft
  · simp
  · obtain ⟨h1, k, a, rfl, ha, _, _⟩ := forkB_yes h
    obtain ⟨nb, hnb, h2, h4⟩ := attrB_bins (schB_get h1 ha)
    rw [if_pos rfl, atA_get ha, hnb]
    split <;> omega
theorem br_fork {ats : List AD} {cs : List ByteArray} {fa ft i : Int} (h : inB i 0 (brI ats cs fa ft - 1) = true) : forkB ats cs fa ft = true := by
  cases h0 : forkB ats cs fa ft
  · rw [inB_iff] at h
    unfold brI at h
    rw [h0] at h
    simp at h
    omega
  · rfl
theorem statsB_row {ats : List AD} {cs : List ByteArray} {ts : List Int} {xss : List (List Int)} (h : statsB ats cs ts xss = true) (h0 : ¬ xss.length = 0) : schB ats cs = true ∧ xss.length = ats.length ∧ ∀ (k : Nat) (row : List Int) (a : AD), xss[k]? = some row → ats[k]? = some a → ∃ nb : Nat, binsI a = nb ∧ 2 ≤ nb ∧ nb ≤ 4 ∧ row.length = nb * cs.length ∧ badW row = false := by
  unfold statsB at h
  simp only [Bool.and_eq_true] at h
  obtain ⟨⟨h1, h2⟩, h3⟩ := h
  unfold rowsB at h3
  rw [decide_eq_false h0, Bool.false_or, Bool.and_eq_true, decide_eq_true_eq, allB_iff] at h3
  refine ⟨h1, h3.1, fun k row a hr ha => ?_⟩
  have hk := (List.getElem?_eq_some_iff.1 hr).1
  have h4 := h3.2 k hk
  rw [show xss.getD k [] = row by simp [List.getD, hr], show ats.getD k noAD = a by simp [List.getD, ha]] at h4
  obtain ⟨nb, hnb, n2, n4⟩ := attrB_bins (schB_get h1 ha)
  unfold rowOkB at h4
  simp only [Bool.and_eq_true, decide_eq_true_eq, Bool.not_eq_true'] at h4
  refine ⟨nb, hnb, n2, n4, ?_, h4.1.2⟩
  have h5 := h4.1.1
  rw [hnb] at h5
  exact_mod_cast h5
theorem bt_row {ats : List AD} {cs : List ByteArray} {ts : List Int} {xss : List (List Int)} {fa ft i : Int} (h : btB ats cs ts xss fa ft i = true) : statsB ats cs ts xss = true ∧ ¬ xss.length = 0 ∧ inB i 0 (brI ats cs fa ft - 1) = true ∧ forkB ats cs fa ft = true ∧ (cs.length = 2 ∨ cs.length = 3) ∧
    ∃ (k : Nat) (row : List Int) (a : AD) (nb : Nat), fa = k ∧ ats[k]? = some a ∧ xss[k]? = some row ∧ binsI a = nb ∧ 2 ≤ nb ∧ nb ≤ 4 ∧ row.length = nb * cs.length ∧ badW row = false ∧ btL ats cs xss fa ft i = runL cs.length row.length (selRow cs.length (brSel ats cs k ft i) row) := by
  unfold btB at h
  simp only [Bool.and_eq_true, decide_eq_true_eq] at h
  obtain ⟨⟨h1, h2⟩, h3⟩ := h
  have hf := br_fork h3
  obtain ⟨g1, k, a, rfl, ha, hk, _⟩ := forkB_yes hf
  obtain ⟨s1, s2, s3⟩ := statsB_row h1 h2
  have hr : xss[k]? = some xss[k] := List.getElem?_eq_getElem (by omega)
  obtain ⟨nb, b1, b2, b3, b4, b5⟩ := s3 k _ a hr ha
  refine ⟨h1, h2, h3, hf, schB_m g1, k, _, a, nb, rfl, ha, hr, b1, b2, b3, b4, b5, ?_⟩
  unfold btL
  rw [show xss.getD ((k : Int)).toNat [] = xss[k] by simp [List.getD, hr]]

set_option maxHeartbeats 4000000 in
theorem iBranchTotals_no (A C : Option Addr) (n c m d : Nat) (hs : List AH) (ats : List AD) (cs : List ByteArray) (T X : Option Addr) (q e0 p f0 : Nat) (gs : List Hd) (ts : List Int) (xss : List (List Int)) (w : World) (r : Sch w A C n m d hs ats cs) (s : Sta w T X q p gs ts xss) (fa ft i : Int) (h : btB ats cs ts xss fa ft i = false) :
    Calls Try.prog 40 #[.agg #[.slice A n c, .slice C m d], .agg #[.slice T q e0, .slice X p f0], .agg #[.int .i64 fa, .int .i64 ft], .int .i64 i] w fun e w' => e = .returned (.slice none 0 0) ∧ Below w.heap.size w w' := by
  have R := Lib.hid r
  have S := Lib.hid s
  have HL := Lib.hid r.lenA; have HC := Lib.hid r.lenC
  have HT := Lib.hid s.lenT; have HX := Lib.hid s.lenX
  have hn := r.hn; have hq := s.hq; have hp := s.hp
  clear r s
  have HB := Lib.hid h
  clear h
  cases h0 : statsB ats cs ts xss
  · have H0 := Lib.hid h0
    clear h0
    have B0 := Below.refl w.heap.size w
    have s0 : w.heap.size ≤ w.heap.size := Nat.le_refl _
    go_enter Try.func40, Try.ntmps40
    have p_2 : Bx (w.alloc (.cells #[.slice A n c, .slice C m d] 40)) (w.heap.size) 40 #[.slice A n c, .slice C m d] := Bx.new _ _ _
    have B_2 := B0.alloc s0 (.cells #[.slice A n c, .slice C m d] 40)
    clear B0
    have cp_3 := p_2.cells
    have fp_3 := p_2.free
    clear cp_3 fp_3
    have p_4 := p_2.same (same_alloc (.cells #[.slice T q e0, .slice X p f0] 35) (by simp only [World.size_alloc]; omega))
    clear p_2
    have t_5 : Bx ((w.alloc (.cells #[.slice A n c, .slice C m d] 40)).alloc (.cells #[.slice T q e0, .slice X p f0] 35)) (w.heap.size + 1) 35 #[.slice T q e0, .slice X p f0] := by
      have h := Bx.new (w.alloc (.cells #[.slice A n c, .slice C m d] 40)) 35 #[.slice T q e0, .slice X p f0]
      simpa only [World.size_alloc] using h
    have B_5 := B_2.alloc (by simp only [World.size_alloc]; omega) (.cells #[.slice T q e0, .slice X p f0] 35)
    clear B_2
    have cp_6 := p_4.cells
    have fp_6 := p_4.free
    have ct_7 := t_5.cells
    have ft_7 := t_5.free
    clear cp_6 fp_6
    clear ct_7 ft_7
    have p_8 := p_4.same (same_alloc (.cells #[.int .i64 fa, .int .i64 ft] 55) (by simp only [World.size_alloc]; omega))
    clear p_4
    have t_8 := t_5.same (same_alloc (.cells #[.int .i64 fa, .int .i64 ft] 55) (by simp only [World.size_alloc]; omega))
    clear t_5
    have f_9 : Bx (((w.alloc (.cells #[.slice A n c, .slice C m d] 40)).alloc (.cells #[.slice T q e0, .slice X p f0] 35)).alloc (.cells #[.int .i64 fa, .int .i64 ft] 55)) (w.heap.size + 1 + 1) 55 #[.int .i64 fa, .int .i64 ft] := by
      have h := Bx.new ((w.alloc (.cells #[.slice A n c, .slice C m d] 40)).alloc (.cells #[.slice T q e0, .slice X p f0] 35)) 55 #[.int .i64 fa, .int .i64 ft]
      simpa only [World.size_alloc] using h
    have B_9 := B_5.alloc (by simp only [World.size_alloc]; omega) (.cells #[.int .i64 fa, .int .i64 ft] 55)
    clear B_5
    have cp_10 := p_8.cells
    have fp_10 := p_8.free
    have ct_11 := t_8.cells
    have ft_11 := t_8.free
    have cf_12 := f_9.cells
    have ff_12 := f_9.free
    go_wp2_with fail
    refine (iStatsOk_any _ _ _ _ _ _ _ ats cs _ _ _ _ _ _ _ ts xss _ (R.out.below B_9 (Nat.le_refl _)) (S.out.below B_9 (Nat.le_refl _))).mono ?_
    rw [H0.out]
    rintro e w1 ⟨rfl, b⟩
    clear cp_10 fp_10
    clear ct_11 ft_11
    clear cf_12 ff_12
    simp only [World.size_alloc] at b
    have t_13 := b.size
    simp only [World.size_alloc] at t_13
    have z_13 : w.heap.size ≤ w1.heap.size := by omega
    have p_14 := p_8.same (same_below b (by omega))
    clear p_8
    have t_14 := t_8.same (same_below b (by omega))
    clear t_8
    have f_14 := f_9.same (same_below b (by omega))
    clear f_9
    have B_13 := B_9.trans (b.mono (by omega))
    clear B_9 b
    have cp_15 := p_14.cells
    have fp_15 := p_14.free
    have ct_16 := t_14.cells
    have ft_16 := t_14.free
    have cf_17 := f_14.cells
    have ff_17 := f_14.free
    go_wp2_with fail
    go_ret
    exact ⟨rfl, B_13⟩
  · have H0 := Lib.hid h0
    clear h0
    by_cases hp0 : p = 0
    · subst hp0
      have B0 := Below.refl w.heap.size w
      have s0 : w.heap.size ≤ w.heap.size := Nat.le_refl _
      go_enter Try.func40, Try.ntmps40
      have p_2 : Bx (w.alloc (.cells #[.slice A n c, .slice C m d] 40)) (w.heap.size) 40 #[.slice A n c, .slice C m d] := Bx.new _ _ _
      have B_2 := B0.alloc s0 (.cells #[.slice A n c, .slice C m d] 40)
      clear B0
      have cp_3 := p_2.cells
      have fp_3 := p_2.free
      clear cp_3 fp_3
      have p_4 := p_2.same (same_alloc (.cells #[.slice T q e0, .slice X 0 f0] 35) (by simp only [World.size_alloc]; omega))
      clear p_2
      have t_5 : Bx ((w.alloc (.cells #[.slice A n c, .slice C m d] 40)).alloc (.cells #[.slice T q e0, .slice X 0 f0] 35)) (w.heap.size + 1) 35 #[.slice T q e0, .slice X 0 f0] := by
        have h := Bx.new (w.alloc (.cells #[.slice A n c, .slice C m d] 40)) 35 #[.slice T q e0, .slice X 0 f0]
        simpa only [World.size_alloc] using h
      have B_5 := B_2.alloc (by simp only [World.size_alloc]; omega) (.cells #[.slice T q e0, .slice X 0 f0] 35)
      clear B_2
      have cp_6 := p_4.cells
      have fp_6 := p_4.free
      have ct_7 := t_5.cells
      have ft_7 := t_5.free
      clear cp_6 fp_6
      clear ct_7 ft_7
      have p_8 := p_4.same (same_alloc (.cells #[.int .i64 fa, .int .i64 ft] 55) (by simp only [World.size_alloc]; omega))
      clear p_4
      have t_8 := t_5.same (same_alloc (.cells #[.int .i64 fa, .int .i64 ft] 55) (by simp only [World.size_alloc]; omega))
      clear t_5
      have f_9 : Bx (((w.alloc (.cells #[.slice A n c, .slice C m d] 40)).alloc (.cells #[.slice T q e0, .slice X 0 f0] 35)).alloc (.cells #[.int .i64 fa, .int .i64 ft] 55)) (w.heap.size + 1 + 1) 55 #[.int .i64 fa, .int .i64 ft] := by
        have h := Bx.new ((w.alloc (.cells #[.slice A n c, .slice C m d] 40)).alloc (.cells #[.slice T q e0, .slice X 0 f0] 35)) 55 #[.int .i64 fa, .int .i64 ft]
        simpa only [World.size_alloc] using h
      have B_9 := B_5.alloc (by simp only [World.size_alloc]; omega) (.cells #[.int .i64 fa, .int .i64 ft] 55)
      clear B_5
      have cp_10 := p_8.cells
      have fp_10 := p_8.free
      have ct_11 := t_8.cells
      have ft_11 := t_8.free
      have cf_12 := f_9.cells
      have ff_12 := f_9.free
      go_wp2_with fail
      refine (iStatsOk_any _ _ _ _ _ _ _ ats cs _ _ _ _ _ _ _ ts xss _ (R.out.below B_9 (Nat.le_refl _)) (S.out.below B_9 (Nat.le_refl _))).mono ?_
      rw [H0.out]
      rintro e w1 ⟨rfl, b⟩
      clear cp_10 fp_10
      clear ct_11 ft_11
      clear cf_12 ff_12
      simp only [World.size_alloc] at b
      have t_13 := b.size
      simp only [World.size_alloc] at t_13
      have z_13 : w.heap.size ≤ w1.heap.size := by omega
      have p_14 := p_8.same (same_below b (by omega))
      clear p_8
      have t_14 := t_8.same (same_below b (by omega))
      clear t_8
      have f_14 := f_9.same (same_below b (by omega))
      clear f_9
      have B_13 := B_9.trans (b.mono (by omega))
      clear B_9 b
      have cp_15 := p_14.cells
      have fp_15 := p_14.free
      have ct_16 := t_14.cells
      have ft_16 := t_14.free
      have cf_17 := f_14.cells
      have ff_17 := f_14.free
      go_wp2_with fail
      go_ret
      exact ⟨rfl, B_13⟩
    · skip
      have hp0' : ¬ (p : Int) = 0 := by omega
      have hpb : ((p : Int) == 0) = false := beq_false_of_ne hp0'
      have hpd : decide ((p : Int) = 0) = false := decide_eq_false hp0'
      obtain ⟨z, hz⟩ : ∃ z, brI ats cs fa ft = z := ⟨_, rfl⟩
      have hzb := brI_bd ats cs fa ft
      rw [hz] at hzb
      have HZ := Lib.hid hz
      have hzw : IntKind.i64.wrap (z - 1) = z - 1 := IntWalk.i64_in _ (by omega)
      clear hz
      have HI : Hid (inB i 0 (z - 1) = false) := by
        have hh := HB.out
        unfold btB at hh
        rw [H0.out, decide_eq_true (by rw [HX.out]; exact hp0), HZ.out] at hh
        unfold Hid; simpa using hh
      have B0 := Below.refl w.heap.size w
      have s0 : w.heap.size ≤ w.heap.size := Nat.le_refl _
      go_enter Try.func40, Try.ntmps40
      have p_2 : Bx (w.alloc (.cells #[.slice A n c, .slice C m d] 40)) (w.heap.size) 40 #[.slice A n c, .slice C m d] := Bx.new _ _ _
      have B_2 := B0.alloc s0 (.cells #[.slice A n c, .slice C m d] 40)
      clear B0
      have cp_3 := p_2.cells
      have fp_3 := p_2.free
      clear cp_3 fp_3
      have p_4 := p_2.same (same_alloc (.cells #[.slice T q e0, .slice X p f0] 35) (by simp only [World.size_alloc]; omega))
      clear p_2
      have t_5 : Bx ((w.alloc (.cells #[.slice A n c, .slice C m d] 40)).alloc (.cells #[.slice T q e0, .slice X p f0] 35)) (w.heap.size + 1) 35 #[.slice T q e0, .slice X p f0] := by
        have h := Bx.new (w.alloc (.cells #[.slice A n c, .slice C m d] 40)) 35 #[.slice T q e0, .slice X p f0]
        simpa only [World.size_alloc] using h
      have B_5 := B_2.alloc (by simp only [World.size_alloc]; omega) (.cells #[.slice T q e0, .slice X p f0] 35)
      clear B_2
      have cp_6 := p_4.cells
      have fp_6 := p_4.free
      have ct_7 := t_5.cells
      have ft_7 := t_5.free
      clear cp_6 fp_6
      clear ct_7 ft_7
      have p_8 := p_4.same (same_alloc (.cells #[.int .i64 fa, .int .i64 ft] 55) (by simp only [World.size_alloc]; omega))
      clear p_4
      have t_8 := t_5.same (same_alloc (.cells #[.int .i64 fa, .int .i64 ft] 55) (by simp only [World.size_alloc]; omega))
      clear t_5
      have f_9 : Bx (((w.alloc (.cells #[.slice A n c, .slice C m d] 40)).alloc (.cells #[.slice T q e0, .slice X p f0] 35)).alloc (.cells #[.int .i64 fa, .int .i64 ft] 55)) (w.heap.size + 1 + 1) 55 #[.int .i64 fa, .int .i64 ft] := by
        have h := Bx.new ((w.alloc (.cells #[.slice A n c, .slice C m d] 40)).alloc (.cells #[.slice T q e0, .slice X p f0] 35)) 55 #[.int .i64 fa, .int .i64 ft]
        simpa only [World.size_alloc] using h
      have B_9 := B_5.alloc (by simp only [World.size_alloc]; omega) (.cells #[.int .i64 fa, .int .i64 ft] 55)
      clear B_5
      have cp_10 := p_8.cells
      have fp_10 := p_8.free
      have ct_11 := t_8.cells
      have ft_11 := t_8.free
      have cf_12 := f_9.cells
      have ff_12 := f_9.free
      go_wp2_with fail
      refine (iStatsOk_any _ _ _ _ _ _ _ ats cs _ _ _ _ _ _ _ ts xss _ (R.out.below B_9 (Nat.le_refl _)) (S.out.below B_9 (Nat.le_refl _))).mono ?_
      rw [H0.out]
      rintro e w1 ⟨rfl, b⟩
      clear cp_10 fp_10
      clear ct_11 ft_11
      clear cf_12 ff_12
      simp only [World.size_alloc] at b
      have t_13 := b.size
      simp only [World.size_alloc] at t_13
      have z_13 : w.heap.size ≤ w1.heap.size := by omega
      have p_14 := p_8.same (same_below b (by omega))
      clear p_8
      have t_14 := t_8.same (same_below b (by omega))
      clear t_8
      have f_14 := f_9.same (same_below b (by omega))
      clear f_9
      have B_13 := B_9.trans (b.mono (by omega))
      clear B_9 b
      have cp_15 := p_14.cells
      have fp_15 := p_14.free
      have ct_16 := t_14.cells
      have ft_16 := t_14.free
      have cf_17 := f_14.cells
      have ff_17 := f_14.free
      go_wp2_with fail
      refine (iBranches_any _ _ _ _ _ _ _ ats cs fa ft _ (R.out.below B_13 (Nat.le_refl _))).mono ?_
      rw [HZ.out]
      rintro e w2 ⟨rfl, b⟩
      clear cp_15 fp_15
      clear ct_16 ft_16
      clear cf_17 ff_17
      have t_18 := b.size
      have z_18 : w.heap.size ≤ w2.heap.size := by omega
      have p_19 := p_14.same (same_below b (by omega))
      clear p_14
      have t_19 := t_14.same (same_below b (by omega))
      clear t_14
      have f_19 := f_14.same (same_below b (by omega))
      clear f_14
      have B_18 := B_13.trans (b.mono (by omega))
      clear B_13 b
      have cp_20 := p_19.cells
      have fp_20 := p_19.free
      have ct_21 := t_19.cells
      have ft_21 := t_19.free
      have cf_22 := f_19.cells
      have ff_22 := f_19.free
      go_wp2_with fail
      refine (within_any _ _ _ _).mono ?_
      rw [HI.out]
      rintro e w3 ⟨rfl, rfl⟩
      go_wp2_with fail
      go_ret
      exact ⟨rfl, B_18⟩

set_option maxHeartbeats 4000000 in
theorem iBranchTotals_yes (A C : Option Addr) (n c m d : Nat) (hs : List AH) (ats : List AD) (cs : List ByteArray) (T X : Option Addr) (q e0 p f0 : Nat) (gs : List Hd) (ts : List Int) (xss : List (List Int)) (w : World) (r : Sch w A C n m d hs ats cs) (s : Sta w T X q p gs ts xss) (fa ft i : Int) (h : btB ats cs ts xss fa ft i = true) :
    Calls Try.prog 40 #[.agg #[.slice A n c, .slice C m d], .agg #[.slice T q e0, .slice X p f0], .agg #[.int .i64 fa, .int .i64 ft], .int .i64 i] w fun e w' => ∃ g, e = .returned (.slice (some ⟨g, 0, none⟩) m m) ∧ w'.ownsRow w.heap.size 3 1 (.slice (some ⟨g, 0, none⟩) m m) m (btL ats cs xss fa ft i) ∧ Below w.heap.size w w' := by
  have R := Lib.hid r
  have S := Lib.hid s
  have HL := Lib.hid r.lenA; have HC := Lib.hid r.lenC
  have HT := Lib.hid s.lenT; have HX := Lib.hid s.lenX
  have hn := r.hn; have hq := s.hq; have hp := s.hp
  clear r s
  obtain ⟨h0, hp1, h3, _, hm, k, row, a, nb, rfl, _, hrow, _, _, hn4, hrl, hbr, hbt⟩ := bt_row h
  rw [HX.out] at hp1
  rw [HC.out] at hm hrl hbt
  have H0 := Lib.hid h0; have HRow := Lib.hid hrow; have HRl := Lib.hid hrl; have HBr := Lib.hid hbr; have HBt := Lib.hid hbt
  have hp0 : ¬ p = 0 := hp1
  clear h h0 hrow hrl hbr hbt hp1
  have hp0' : ¬ (p : Int) = 0 := by omega
  have hpb : ((p : Int) == 0) = false := beq_false_of_ne hp0'
  have hpd : decide ((p : Int) = 0) = false := decide_eq_false hp0'
  obtain ⟨z, hz⟩ : ∃ z, brI ats cs (k : Nat) ft = z := ⟨_, rfl⟩
  have hzb := brI_bd ats cs (k : Nat) ft
  rw [hz] at hzb
  have HZ := Lib.hid hz
  have hzw : IntKind.i64.wrap (z - 1) = z - 1 := IntWalk.i64_in _ (by omega)
  clear hz
  have HI : Hid (inB i 0 (z - 1) = true) := by unfold Hid; rw [← HZ.out]; exact h3
  clear h3
  have B0 := Below.refl w.heap.size w
  have s0 : w.heap.size ≤ w.heap.size := Nat.le_refl _
  go_enter Try.func40, Try.ntmps40
  have p_2 : Bx (w.alloc (.cells #[.slice A n c, .slice C m d] 40)) (w.heap.size) 40 #[.slice A n c, .slice C m d] := Bx.new _ _ _
  have B_2 := B0.alloc s0 (.cells #[.slice A n c, .slice C m d] 40)
  clear B0
  have cp_3 := p_2.cells
  have fp_3 := p_2.free
  clear cp_3 fp_3
  have p_4 := p_2.same (same_alloc (.cells #[.slice T q e0, .slice X p f0] 35) (by simp only [World.size_alloc]; omega))
  clear p_2
  have t_5 : Bx ((w.alloc (.cells #[.slice A n c, .slice C m d] 40)).alloc (.cells #[.slice T q e0, .slice X p f0] 35)) (w.heap.size + 1) 35 #[.slice T q e0, .slice X p f0] := by
    have h := Bx.new (w.alloc (.cells #[.slice A n c, .slice C m d] 40)) 35 #[.slice T q e0, .slice X p f0]
    simpa only [World.size_alloc] using h
  have B_5 := B_2.alloc (by simp only [World.size_alloc]; omega) (.cells #[.slice T q e0, .slice X p f0] 35)
  clear B_2
  have cp_6 := p_4.cells
  have fp_6 := p_4.free
  have ct_7 := t_5.cells
  have ft_7 := t_5.free
  clear cp_6 fp_6
  clear ct_7 ft_7
  have p_8 := p_4.same (same_alloc (.cells #[.int .i64 (k : Nat), .int .i64 ft] 55) (by simp only [World.size_alloc]; omega))
  clear p_4
  have t_8 := t_5.same (same_alloc (.cells #[.int .i64 (k : Nat), .int .i64 ft] 55) (by simp only [World.size_alloc]; omega))
  clear t_5
  have f_9 : Bx (((w.alloc (.cells #[.slice A n c, .slice C m d] 40)).alloc (.cells #[.slice T q e0, .slice X p f0] 35)).alloc (.cells #[.int .i64 (k : Nat), .int .i64 ft] 55)) (w.heap.size + 1 + 1) 55 #[.int .i64 (k : Nat), .int .i64 ft] := by
    have h := Bx.new ((w.alloc (.cells #[.slice A n c, .slice C m d] 40)).alloc (.cells #[.slice T q e0, .slice X p f0] 35)) 55 #[.int .i64 (k : Nat), .int .i64 ft]
    simpa only [World.size_alloc] using h
  have B_9 := B_5.alloc (by simp only [World.size_alloc]; omega) (.cells #[.int .i64 (k : Nat), .int .i64 ft] 55)
  clear B_5
  have cp_10 := p_8.cells
  have fp_10 := p_8.free
  have ct_11 := t_8.cells
  have ft_11 := t_8.free
  have cf_12 := f_9.cells
  have ff_12 := f_9.free
  go_wp2_with fail
  refine (iStatsOk_any _ _ _ _ _ _ _ ats cs _ _ _ _ _ _ _ ts xss _ (R.out.below B_9 (Nat.le_refl _)) (S.out.below B_9 (Nat.le_refl _))).mono ?_
  rw [H0.out]
  rintro e w1 ⟨rfl, b⟩
  clear cp_10 fp_10
  clear ct_11 ft_11
  clear cf_12 ff_12
  simp only [World.size_alloc] at b
  have t_13 := b.size
  simp only [World.size_alloc] at t_13
  have z_13 : w.heap.size ≤ w1.heap.size := by omega
  have p_14 := p_8.same (same_below b (by omega))
  clear p_8
  have t_14 := t_8.same (same_below b (by omega))
  clear t_8
  have f_14 := f_9.same (same_below b (by omega))
  clear f_9
  have B_13 := B_9.trans (b.mono (by omega))
  clear B_9 b
  have cp_15 := p_14.cells
  have fp_15 := p_14.free
  have ct_16 := t_14.cells
  have ft_16 := t_14.free
  have cf_17 := f_14.cells
  have ff_17 := f_14.free
  go_wp2_with fail
  refine (iBranches_any _ _ _ _ _ _ _ ats cs (k : Nat) ft _ (R.out.below B_13 (Nat.le_refl _))).mono ?_
  rw [HZ.out]
  rintro e w2 ⟨rfl, b⟩
  clear cp_15 fp_15
  clear ct_16 ft_16
  clear cf_17 ff_17
  have t_18 := b.size
  have z_18 : w.heap.size ≤ w2.heap.size := by omega
  have p_19 := p_14.same (same_below b (by omega))
  clear p_14
  have t_19 := t_14.same (same_below b (by omega))
  clear t_14
  have f_19 := f_14.same (same_below b (by omega))
  clear f_14
  have B_18 := B_13.trans (b.mono (by omega))
  clear B_13 b
  have cp_20 := p_19.cells
  have fp_20 := p_19.free
  have ct_21 := t_19.cells
  have ft_21 := t_19.free
  have cf_22 := f_19.cells
  have ff_22 := f_19.free
  go_wp2_with fail
  refine (within_any _ _ _ _).mono ?_
  rw [HI.out]
  rintro e w3 ⟨rfl, rfl⟩
  go_wp2_with fail
  refine (ibrTot_any _ _ _ _ _ _ _ ats cs _ _ _ _ _ _ _ ts xss _ (R.out.below B_18 (Nat.le_refl _)) (S.out.below B_18 (Nat.le_refl _)) k ft i row nb HRow.out HRl.out HBr.out hm hn4).mono ?_
  rintro e w3 ⟨g9, rfl, o, b⟩
  clear cp_20 fp_20
  clear ct_21 ft_21
  clear cf_22 ff_22
  have t_23 := b.size
  have z_23 : w.heap.size ≤ w3.heap.size := by omega
  have p_24 := p_19.same (same_below b (by omega))
  clear p_19
  have t_24 := t_19.same (same_below b (by omega))
  clear t_19
  have f_24 := f_19.same (same_below b (by omega))
  clear f_19
  have B_23 := B_18.trans (b.mono (by omega))
  clear B_18 b
  have ow_23 := Ow.of o
  clear o
  have cp_25 := p_24.cells
  have fp_25 := p_24.free
  have ct_26 := t_24.cells
  have ft_26 := t_24.free
  have cf_27 := f_24.cells
  have ff_27 := f_24.free
  go_wp2_with fail
  go_ret
  exact ⟨g9, rfl, by rw [HBt.out]; exact own_base ow_23.own (by omega), B_23⟩

end Go.Proofs.Ytchkmcikpamdeaa
