/-
  Merit of spec.
-/
import Derived.Test.YtchkmcikpamdeaaMerB
import Derived.Test.YtchkmcikpamdeaaMerO
import Derived.Test.YtchkmcikpamdeaaBTotS
import Derived.Deep.AppendLies
import Derived.BigQuiet
namespace Go.Proofs.Ytchkmcikpamdeaa
open Go.RowKit
set_option linter.unusedSimpArgs false
set_option linter.unusedVariables false

set_option maxHeartbeats 4000000 in
theorem sMerit_no (A C : Option Addr) (n c m d : Nat) (hs : List AH) (ats : List AD) (cs : List ByteArray) (T X : Option Addr) (q e0 p f0 : Nat) (gs : List Hd) (ts : List Int) (xss : List (List Int)) (w : World) (r : Sch w A C n m d hs ats cs) (s : Sta w T X q p gs ts xss) (fa ft : Int) (h : merB ats cs ts xss fa ft = false) :
    Calls Try.prog 30 #[.agg #[.slice A n c, .slice C m d], .agg #[.slice T q e0, .slice X p f0], .agg #[.int .i64 fa, .int .i64 ft]] w fun e w' => e = .returned (.agg #[.int .i64 (merN ats cs ts xss fa ft), .int .i64 (merD ats cs ts xss fa ft)]) ∧ Below w.heap.size w w' := by
  have R := Lib.hid r
  have S := Lib.hid s
  have HL := Lib.hid r.lenA; have HC := Lib.hid r.lenC
  have HT := Lib.hid s.lenT; have HX := Lib.hid s.lenX
  have hn := r.hn; have hq := s.hq; have hp := s.hp
  clear r s
  have HN : Hid (merN ats cs ts xss fa ft = 0) := by unfold Hid merN; rw [h]; rfl
  have HD : Hid (merD ats cs ts xss fa ft = 0) := by unfold Hid merD; rw [h]; rfl
  have HB := Lib.hid h
  clear h
  cases h0 : statsB ats cs ts xss
  · have H0 := Lib.hid h0
    clear h0
    have B0 := Below.refl w.heap.size w
    have s0 : w.heap.size ≤ w.heap.size := Nat.le_refl _
    go_enter Try.func30, Try.ntmps30
    have p_2 : Bx (w.alloc (.cells #[.slice A n c, .slice C m d] 40)) (w.heap.size) 40 #[.slice A n c, .slice C m d] := Bx.new _ _ _
    have B_2 := B0.alloc s0 (.cells #[.slice A n c, .slice C m d] 40)
    clear B0
    have cp_3 := p_2.cells
    have fp_3 := p_2.free
    clear cp_3 fp_3
    have p_4 := p_2.same (same_alloc (.cells #[.slice T q e0, .slice X p f0] 35) (by simp only [World.size_alloc]; omega))
    clear p_2
    have t_5 : Bx ((w.alloc (.cells #[.slice A n c, .slice C m d] 40)).alloc (.cells #[.slice T q e0, .slice X p f0] 35)) (w.heap.size + 1) 35 #[.slice T q e0, .slice X p f0] := by
      have h := Bx.new (w.alloc (.cells #[.slice A n c, .slice C m d] 40)) 35 #[.slice T q e0, .slice X p f0]
      simpa only [World.size_alloc] using h
    have B_5 := B_2.alloc (by simp only [World.size_alloc]; omega) (.cells #[.slice T q e0, .slice X p f0] 35)
    clear B_2
    have cp_6 := p_4.cells
    have fp_6 := p_4.free
    have ct_7 := t_5.cells
    have ft_7 := t_5.free
    clear cp_6 fp_6
    clear ct_7 ft_7
    have p_8 := p_4.same (same_alloc (.cells #[.int .i64 fa, .int .i64 ft] 55) (by simp only [World.size_alloc]; omega))
    clear p_4
    have t_8 := t_5.same (same_alloc (.cells #[.int .i64 fa, .int .i64 ft] 55) (by simp only [World.size_alloc]; omega))
    clear t_5
    have f_9 : Bx (((w.alloc (.cells #[.slice A n c, .slice C m d] 40)).alloc (.cells #[.slice T q e0, .slice X p f0] 35)).alloc (.cells #[.int .i64 fa, .int .i64 ft] 55)) (w.heap.size + 1 + 1) 55 #[.int .i64 fa, .int .i64 ft] := by
      have h := Bx.new ((w.alloc (.cells #[.slice A n c, .slice C m d] 40)).alloc (.cells #[.slice T q e0, .slice X p f0] 35)) 55 #[.int .i64 fa, .int .i64 ft]
      simpa only [World.size_alloc] using h
    have B_9 := B_5.alloc (by simp only [World.size_alloc]; omega) (.cells #[.int .i64 fa, .int .i64 ft] 55)
    clear B_5
    have cp_10 := p_8.cells
    have fp_10 := p_8.free
    have ct_11 := t_8.cells
    have ft_11 := t_8.free
    have cf_12 := f_9.cells
    have ff_12 := f_9.free
    clear cp_10 fp_10
    clear ct_11 ft_11
    clear cf_12 ff_12
    have p_13 := p_8.same (same_alloc (.cells #[.int .i64 0, .int .i64 0] 62) (by simp only [World.size_alloc]; omega))
    clear p_8
    have t_13 := t_8.same (same_alloc (.cells #[.int .i64 0, .int .i64 0] 62) (by simp only [World.size_alloc]; omega))
    clear t_8
    have f_13 := f_9.same (same_alloc (.cells #[.int .i64 0, .int .i64 0] 62) (by simp only [World.size_alloc]; omega))
    clear f_9
    have r_14 : Bx ((((w.alloc (.cells #[.slice A n c, .slice C m d] 40)).alloc (.cells #[.slice T q e0, .slice X p f0] 35)).alloc (.cells #[.int .i64 fa, .int .i64 ft] 55)).alloc (.cells #[.int .i64 0, .int .i64 0] 62)) (w.heap.size + 1 + 1 + 1) 62 #[.int .i64 0, .int .i64 0] := by
      have h := Bx.new (((w.alloc (.cells #[.slice A n c, .slice C m d] 40)).alloc (.cells #[.slice T q e0, .slice X p f0] 35)).alloc (.cells #[.int .i64 fa, .int .i64 ft] 55)) 62 #[.int .i64 0, .int .i64 0]
      simpa only [World.size_alloc] using h
    have B_14 := B_9.alloc (by simp only [World.size_alloc]; omega) (.cells #[.int .i64 0, .int .i64 0] 62)
    clear B_9
    have cp_15 := p_13.cells
    have fp_15 := p_13.free
    have ct_16 := t_13.cells
    have ft_16 := t_13.free
    have cf_17 := f_13.cells
    have ff_17 := f_13.free
    have cr_18 := r_14.cells
    have fr_18 := r_14.free
    go_wp2_with fail
    refine (sStatsOk_any _ _ _ _ _ _ _ ats cs _ _ _ _ _ _ _ ts xss _ (R.out.below B_14 (Nat.le_refl _)) (S.out.below B_14 (Nat.le_refl _))).mono ?_
    rw [H0.out]
    rintro e w1 ⟨rfl, b⟩
    clear cp_15 fp_15
    clear ct_16 ft_16
    clear cf_17 ff_17
    clear cr_18 fr_18
    simp only [World.size_alloc] at b
    have t_19 := b.size
    simp only [World.size_alloc] at t_19
    have z_19 : w.heap.size ≤ w1.heap.size := by omega
    have p_20 := p_13.same (same_below b (by omega))
    clear p_13
    have t_20 := t_13.same (same_below b (by omega))
    clear t_13
    have f_20 := f_13.same (same_below b (by omega))
    clear f_13
    have r_20 := r_14.same (same_below b (by omega))
    clear r_14
    have B_19 := B_14.trans (b.mono (by omega))
    clear B_14 b
    have cp_21 := p_20.cells
    have fp_21 := p_20.free
    have ct_22 := t_20.cells
    have ft_22 := t_20.free
    have cf_23 := f_20.cells
    have ff_23 := f_20.free
    have cr_24 := r_20.cells
    have fr_24 := r_20.free
    go_wp2_with fail
    have r0 := r_20.cells 0; have r1 := r_20.cells 1; have fr0 := r_20.free 0; have fr1 := r_20.free 1
    have hB2 := B_19
    simp at r0 r1
    refine bodyPost_ret (v := .agg #[.int .i64 0, .int .i64 0]) (by simp [results, Try.results30, go_sem, r0, r1, fr0, fr1]) rfl ⟨by rw [HN.out, HD.out], ?_⟩
    go_grown
  · have H0 := Lib.hid h0
    clear h0
    by_cases hp0 : p = 0
    · subst hp0
      have B0 := Below.refl w.heap.size w
      have s0 : w.heap.size ≤ w.heap.size := Nat.le_refl _
      go_enter Try.func30, Try.ntmps30
      have p_2 : Bx (w.alloc (.cells #[.slice A n c, .slice C m d] 40)) (w.heap.size) 40 #[.slice A n c, .slice C m d] := Bx.new _ _ _
      have B_2 := B0.alloc s0 (.cells #[.slice A n c, .slice C m d] 40)
      clear B0
      have cp_3 := p_2.cells
      have fp_3 := p_2.free
      clear cp_3 fp_3
      have p_4 := p_2.same (same_alloc (.cells #[.slice T q e0, .slice X 0 f0] 35) (by simp only [World.size_alloc]; omega))
      clear p_2
      have t_5 : Bx ((w.alloc (.cells #[.slice A n c, .slice C m d] 40)).alloc (.cells #[.slice T q e0, .slice X 0 f0] 35)) (w.heap.size + 1) 35 #[.slice T q e0, .slice X 0 f0] := by
        have h := Bx.new (w.alloc (.cells #[.slice A n c, .slice C m d] 40)) 35 #[.slice T q e0, .slice X 0 f0]
        simpa only [World.size_alloc] using h
      have B_5 := B_2.alloc (by simp only [World.size_alloc]; omega) (.cells #[.slice T q e0, .slice X 0 f0] 35)
      clear B_2
      have cp_6 := p_4.cells
      have fp_6 := p_4.free
      have ct_7 := t_5.cells
      have ft_7 := t_5.free
      clear cp_6 fp_6
      clear ct_7 ft_7
      have p_8 := p_4.same (same_alloc (.cells #[.int .i64 fa, .int .i64 ft] 55) (by simp only [World.size_alloc]; omega))
      clear p_4
      have t_8 := t_5.same (same_alloc (.cells #[.int .i64 fa, .int .i64 ft] 55) (by simp only [World.size_alloc]; omega))
      clear t_5
      have f_9 : Bx (((w.alloc (.cells #[.slice A n c, .slice C m d] 40)).alloc (.cells #[.slice T q e0, .slice X 0 f0] 35)).alloc (.cells #[.int .i64 fa, .int .i64 ft] 55)) (w.heap.size + 1 + 1) 55 #[.int .i64 fa, .int .i64 ft] := by
        have h := Bx.new ((w.alloc (.cells #[.slice A n c, .slice C m d] 40)).alloc (.cells #[.slice T q e0, .slice X 0 f0] 35)) 55 #[.int .i64 fa, .int .i64 ft]
        simpa only [World.size_alloc] using h
      have B_9 := B_5.alloc (by simp only [World.size_alloc]; omega) (.cells #[.int .i64 fa, .int .i64 ft] 55)
      clear B_5
      have cp_10 := p_8.cells
      have fp_10 := p_8.free
      have ct_11 := t_8.cells
      have ft_11 := t_8.free
      have cf_12 := f_9.cells
      have ff_12 := f_9.free
      clear cp_10 fp_10
      clear ct_11 ft_11
      clear cf_12 ff_12
      have p_13 := p_8.same (same_alloc (.cells #[.int .i64 0, .int .i64 0] 62) (by simp only [World.size_alloc]; omega))
      clear p_8
      have t_13 := t_8.same (same_alloc (.cells #[.int .i64 0, .int .i64 0] 62) (by simp only [World.size_alloc]; omega))
      clear t_8
      have f_13 := f_9.same (same_alloc (.cells #[.int .i64 0, .int .i64 0] 62) (by simp only [World.size_alloc]; omega))
      clear f_9
      have r_14 : Bx ((((w.alloc (.cells #[.slice A n c, .slice C m d] 40)).alloc (.cells #[.slice T q e0, .slice X 0 f0] 35)).alloc (.cells #[.int .i64 fa, .int .i64 ft] 55)).alloc (.cells #[.int .i64 0, .int .i64 0] 62)) (w.heap.size + 1 + 1 + 1) 62 #[.int .i64 0, .int .i64 0] := by
        have h := Bx.new (((w.alloc (.cells #[.slice A n c, .slice C m d] 40)).alloc (.cells #[.slice T q e0, .slice X 0 f0] 35)).alloc (.cells #[.int .i64 fa, .int .i64 ft] 55)) 62 #[.int .i64 0, .int .i64 0]
        simpa only [World.size_alloc] using h
      have B_14 := B_9.alloc (by simp only [World.size_alloc]; omega) (.cells #[.int .i64 0, .int .i64 0] 62)
      clear B_9
      have cp_15 := p_13.cells
      have fp_15 := p_13.free
      have ct_16 := t_13.cells
      have ft_16 := t_13.free
      have cf_17 := f_13.cells
      have ff_17 := f_13.free
      have cr_18 := r_14.cells
      have fr_18 := r_14.free
      go_wp2_with fail
      refine (sStatsOk_any _ _ _ _ _ _ _ ats cs _ _ _ _ _ _ _ ts xss _ (R.out.below B_14 (Nat.le_refl _)) (S.out.below B_14 (Nat.le_refl _))).mono ?_
      rw [H0.out]
      rintro e w1 ⟨rfl, b⟩
      clear cp_15 fp_15
      clear ct_16 ft_16
      clear cf_17 ff_17
      clear cr_18 fr_18
      simp only [World.size_alloc] at b
      have t_19 := b.size
      simp only [World.size_alloc] at t_19
      have z_19 : w.heap.size ≤ w1.heap.size := by omega
      have p_20 := p_13.same (same_below b (by omega))
      clear p_13
      have t_20 := t_13.same (same_below b (by omega))
      clear t_13
      have f_20 := f_13.same (same_below b (by omega))
      clear f_13
      have r_20 := r_14.same (same_below b (by omega))
      clear r_14
      have B_19 := B_14.trans (b.mono (by omega))
      clear B_14 b
      have cp_21 := p_20.cells
      have fp_21 := p_20.free
      have ct_22 := t_20.cells
      have ft_22 := t_20.free
      have cf_23 := f_20.cells
      have ff_23 := f_20.free
      have cr_24 := r_20.cells
      have fr_24 := r_20.free
      go_wp2_with fail
      have r0 := r_20.cells 0; have r1 := r_20.cells 1; have fr0 := r_20.free 0; have fr1 := r_20.free 1
      have hB2 := B_19
      simp at r0 r1
      refine bodyPost_ret (v := .agg #[.int .i64 0, .int .i64 0]) (by simp [results, Try.results30, go_sem, r0, r1, fr0, fr1]) rfl ⟨by rw [HN.out, HD.out], ?_⟩
      go_grown
    · have HFk : Hid (forkB ats cs fa ft = false) := by
        have hh := HB.out
        unfold merB at hh
        rw [H0.out, decide_eq_true (by rw [HX.out]; exact hp0)] at hh
        simpa [Hid] using hh
      have hp0' : ¬ (p : Int) = 0 := by omega
      have hpb : ((p : Int) == 0) = false := beq_false_of_ne hp0'
      have hpd : decide ((p : Int) = 0) = false := decide_eq_false hp0'
      have B0 := Below.refl w.heap.size w
      have s0 : w.heap.size ≤ w.heap.size := Nat.le_refl _
      go_enter Try.func30, Try.ntmps30
      have p_2 : Bx (w.alloc (.cells #[.slice A n c, .slice C m d] 40)) (w.heap.size) 40 #[.slice A n c, .slice C m d] := Bx.new _ _ _
      have B_2 := B0.alloc s0 (.cells #[.slice A n c, .slice C m d] 40)
      clear B0
      have cp_3 := p_2.cells
      have fp_3 := p_2.free
      clear cp_3 fp_3
      have p_4 := p_2.same (same_alloc (.cells #[.slice T q e0, .slice X p f0] 35) (by simp only [World.size_alloc]; omega))
      clear p_2
      have t_5 : Bx ((w.alloc (.cells #[.slice A n c, .slice C m d] 40)).alloc (.cells #[.slice T q e0, .slice X p f0] 35)) (w.heap.size + 1) 35 #[.slice T q e0, .slice X p f0] := by
        have h := Bx.new (w.alloc (.cells #[.slice A n c, .slice C m d] 40)) 35 #[.slice T q e0, .slice X p f0]
        simpa only [World.size_alloc] using h
      have B_5 := B_2.alloc (by simp only [World.size_alloc]; omega) (.cells #[.slice T q e0, .slice X p f0] 35)
      clear B_2
      have cp_6 := p_4.cells
      have fp_6 := p_4.free
      have ct_7 := t_5.cells
      have ft_7 := t_5.free
      clear cp_6 fp_6
      clear ct_7 ft_7
      have p_8 := p_4.same (same_alloc (.cells #[.int .i64 fa, .int .i64 ft] 55) (by simp only [World.size_alloc]; omega))
      clear p_4
      have t_8 := t_5.same (same_alloc (.cells #[.int .i64 fa, .int .i64 ft] 55) (by simp only [World.size_alloc]; omega))
      clear t_5
      have f_9 : Bx (((w.alloc (.cells #[.slice A n c, .slice C m d] 40)).alloc (.cells #[.slice T q e0, .slice X p f0] 35)).alloc (.cells #[.int .i64 fa, .int .i64 ft] 55)) (w.heap.size + 1 + 1) 55 #[.int .i64 fa, .int .i64 ft] := by
        have h := Bx.new ((w.alloc (.cells #[.slice A n c, .slice C m d] 40)).alloc (.cells #[.slice T q e0, .slice X p f0] 35)) 55 #[.int .i64 fa, .int .i64 ft]
        simpa only [World.size_alloc] using h
      have B_9 := B_5.alloc (by simp only [World.size_alloc]; omega) (.cells #[.int .i64 fa, .int .i64 ft] 55)
      clear B_5
      have cp_10 := p_8.cells
      have fp_10 := p_8.free
      have ct_11 := t_8.cells
      have ft_11 := t_8.free
      have cf_12 := f_9.cells
      have ff_12 := f_9.free
      clear cp_10 fp_10
      clear ct_11 ft_11
      clear cf_12 ff_12
      have p_13 := p_8.same (same_alloc (.cells #[.int .i64 0, .int .i64 0] 62) (by simp only [World.size_alloc]; omega))
      clear p_8
      have t_13 := t_8.same (same_alloc (.cells #[.int .i64 0, .int .i64 0] 62) (by simp only [World.size_alloc]; omega))
      clear t_8
      have f_13 := f_9.same (same_alloc (.cells #[.int .i64 0, .int .i64 0] 62) (by simp only [World.size_alloc]; omega))
      clear f_9
      have r_14 : Bx ((((w.alloc (.cells #[.slice A n c, .slice C m d] 40)).alloc (.cells #[.slice T q e0, .slice X p f0] 35)).alloc (.cells #[.int .i64 fa, .int .i64 ft] 55)).alloc (.cells #[.int .i64 0, .int .i64 0] 62)) (w.heap.size + 1 + 1 + 1) 62 #[.int .i64 0, .int .i64 0] := by
        have h := Bx.new (((w.alloc (.cells #[.slice A n c, .slice C m d] 40)).alloc (.cells #[.slice T q e0, .slice X p f0] 35)).alloc (.cells #[.int .i64 fa, .int .i64 ft] 55)) 62 #[.int .i64 0, .int .i64 0]
        simpa only [World.size_alloc] using h
      have B_14 := B_9.alloc (by simp only [World.size_alloc]; omega) (.cells #[.int .i64 0, .int .i64 0] 62)
      clear B_9
      have cp_15 := p_13.cells
      have fp_15 := p_13.free
      have ct_16 := t_13.cells
      have ft_16 := t_13.free
      have cf_17 := f_13.cells
      have ff_17 := f_13.free
      have cr_18 := r_14.cells
      have fr_18 := r_14.free
      go_wp2_with fail
      refine (sStatsOk_any _ _ _ _ _ _ _ ats cs _ _ _ _ _ _ _ ts xss _ (R.out.below B_14 (Nat.le_refl _)) (S.out.below B_14 (Nat.le_refl _))).mono ?_
      rw [H0.out]
      rintro e w1 ⟨rfl, b⟩
      clear cp_15 fp_15
      clear ct_16 ft_16
      clear cf_17 ff_17
      clear cr_18 fr_18
      simp only [World.size_alloc] at b
      have t_19 := b.size
      simp only [World.size_alloc] at t_19
      have z_19 : w.heap.size ≤ w1.heap.size := by omega
      have p_20 := p_13.same (same_below b (by omega))
      clear p_13
      have t_20 := t_13.same (same_below b (by omega))
      clear t_13
      have f_20 := f_13.same (same_below b (by omega))
      clear f_13
      have r_20 := r_14.same (same_below b (by omega))
      clear r_14
      have B_19 := B_14.trans (b.mono (by omega))
      clear B_14 b
      have cp_21 := p_20.cells
      have fp_21 := p_20.free
      have ct_22 := t_20.cells
      have ft_22 := t_20.free
      have cf_23 := f_20.cells
      have ff_23 := f_20.free
      have cr_24 := r_20.cells
      have fr_24 := r_20.free
      go_wp2_with fail
      refine (sForkOk_any _ _ _ _ _ _ _ ats cs fa ft _ (R.out.below B_19 (Nat.le_refl _))).mono ?_
      rw [HFk.out]
      rintro e w2 ⟨rfl, b⟩
      clear cp_21 fp_21
      clear ct_22 ft_22
      clear cf_23 ff_23
      clear cr_24 fr_24
      have t_25 := b.size
      have z_25 : w.heap.size ≤ w2.heap.size := by omega
      have p_26 := p_20.same (same_below b (by omega))
      clear p_20
      have t_26 := t_20.same (same_below b (by omega))
      clear t_20
      have f_26 := f_20.same (same_below b (by omega))
      clear f_20
      have r_26 := r_20.same (same_below b (by omega))
      clear r_20
      have B_25 := B_19.trans (b.mono (by omega))
      clear B_19 b
      have cp_27 := p_26.cells
      have fp_27 := p_26.free
      have ct_28 := t_26.cells
      have ft_28 := t_26.free
      have cf_29 := f_26.cells
      have ff_29 := f_26.free
      have cr_30 := r_26.cells
      have fr_30 := r_26.free
      go_wp2_with fail
      have r0 := r_26.cells 0; have r1 := r_26.cells 1; have fr0 := r_26.free 0; have fr1 := r_26.free 1
      have hB2 := B_25
      simp at r0 r1
      refine bodyPost_ret (v := .agg #[.int .i64 0, .int .i64 0]) (by simp [results, Try.results30, go_sem, r0, r1, fr0, fr1]) rfl ⟨by rw [HN.out, HD.out], ?_⟩
      go_grown

set_option maxRecDepth 20000 in
set_option maxHeartbeats 8000000 in
theorem sMerit_yes (A C : Option Addr) (n c m d : Nat) (hs : List AH) (ats : List AD) (cs : List ByteArray) (T X : Option Addr) (q e0 p f0 : Nat) (gs : List Hd) (ts : List Int) (xss : List (List Int)) (w : World) (r : Sch w A C n m d hs ats cs) (s : Sta w T X q p gs ts xss) (fa ft : Int) (h : merB ats cs ts xss fa ft = true) :
    Calls Try.prog 30 #[.agg #[.slice A n c, .slice C m d], .agg #[.slice T q e0, .slice X p f0], .agg #[.int .i64 fa, .int .i64 ft]] w fun e w' => e = .returned (.agg #[.int .i64 (merN ats cs ts xss fa ft), .int .i64 (merD ats cs ts xss fa ft)]) ∧ Below w.heap.size w w' := by
  have R := Lib.hid r
  have S := Lib.hid s
  have HL := Lib.hid r.lenA; have HC := Lib.hid r.lenC
  have HT := Lib.hid s.lenT; have HX := Lib.hid s.lenX
  have hn := r.hn; have hq := s.hq; have hp := s.hp
  clear r s
  have HN : Hid (merN ats cs ts xss fa ft = if (allI cs.length (brLs ats cs xss fa ft)).sum = 0 then 0 else lowN (numI cs.length (brLs ats cs xss fa ft)) (denI cs.length (brLs ats cs xss fa ft))) := by unfold Hid merN; rw [if_pos h]
  have HD : Hid (merD ats cs ts xss fa ft = if (allI cs.length (brLs ats cs xss fa ft)).sum = 0 then 1 else lowD (numI cs.length (brLs ats cs xss fa ft)) (denI cs.length (brLs ats cs xss fa ft))) := by unfold Hid merD; rw [if_pos h]
  have hok := mer_ok h
  obtain ⟨h0, hp1, hf, hm, htl, hts, k, row, a, nb, rfl, haa, hrow, hnb, _, hn4, hrl, hbr⟩ := mer_row h
  have hbd := brI_bd ats cs (k : Nat) ft
  obtain ⟨N, hN⟩ : ∃ N : Nat, brI ats cs (k : Nat) ft = (N : Nat) := ⟨(brI ats cs (k : Nat) ft).toNat, by omega⟩
  rw [hN] at hbd
  have hget : ∀ i, i < N → (brLs ats cs xss (k : Nat) ft)[i]? = some (btI ats cs xss (k : Nat) ft (i : Nat)) := fun i hi => brLs_get (by rw [hN]; exact hi)
  have hll : (brLs ats cs xss (k : Nat) ft).length = N := by rw [brLs_len, hN]; rfl
  have hrun : ∀ i : Nat, runL cs.length row.length (selRow cs.length (brSel ats cs (k : Nat) ft (i : Nat)) row) = (btI ats cs xss (k : Nat) ft (i : Nat)).map (Value.int .i64) := fun i => by
    rw [← btL_int]; unfold btL
    rw [show xss.getD ((k : Int)).toNat [] = row by simp [List.getD, hrow]]
  have hbtb : ∀ i, i < N → btB ats cs ts xss (k : Nat) ft (i : Nat) = true := fun i hi => by
    unfold btB; rw [h0, decide_eq_true hp1, hN, Bool.true_and, Bool.true_and, inB_iff]; omega
  generalize brLs ats cs xss (k : Nat) ft = Ls at HN HD hok hget hll
  rw [HX.out] at hp1
  rw [HC.out] at hm hrl HN HD hok hrun
  have hm' : m ≤ 3 := by omega
  have hN4 : N ≤ 4 := by omega
  have H0 := Lib.hid h0; have HRow := Lib.hid hrow; have HRl := Lib.hid hrl; have HBr := Lib.hid hbr; have HFk := Lib.hid hf; have HZ := Lib.hid hN; have HOk := Lib.hid hok; have HGet := Lib.hid hget; have HLl := Lib.hid hll; have HRun := Lib.hid hrun; have HBtb := Lib.hid hbtb
  have hp0 : ¬ p = 0 := hp1
  have hp0' : ¬ (p : Int) = 0 := by omega
  have hpb : ((p : Int) == 0) = false := beq_false_of_ne hp0'
  have hpd : decide ((p : Int) = 0) = false := decide_eq_false hp0'
  clear h h0 hrow hrl hbr hp1 hf haa hnb hok hget hll hrun hN hbtb htl hts hbd
  obtain ⟨i0, hi0, hz0, hz1, hz2⟩ := info_parts info_IntS
  have HJ := Lib.hid hi0; have HJ0 := Lib.hid hz0; have HJ1 := Lib.hid hz1; have HJ2 := Lib.hid hz2
  clear hi0 hz0 hz1 hz2
  have B0 := Below.refl w.heap.size w
  have s0 : w.heap.size ≤ w.heap.size := Nat.le_refl _
  go_enter Try.func30, Try.ntmps30
  have p_2 : Bx (w.alloc (.cells #[.slice A n c, .slice C m d] 40)) (w.heap.size) 40 #[.slice A n c, .slice C m d] := Bx.new _ _ _
  have B_2 := B0.alloc s0 (.cells #[.slice A n c, .slice C m d] 40)
  clear B0
  have cp_3 := p_2.cells
  have fp_3 := p_2.free
  clear cp_3 fp_3
  have p_4 := p_2.same (same_alloc (.cells #[.slice T q e0, .slice X p f0] 35) (by simp only [World.size_alloc]; omega))
  clear p_2
  have t_5 : Bx ((w.alloc (.cells #[.slice A n c, .slice C m d] 40)).alloc (.cells #[.slice T q e0, .slice X p f0] 35)) (w.heap.size + 1) 35 #[.slice T q e0, .slice X p f0] := by
    have h := Bx.new (w.alloc (.cells #[.slice A n c, .slice C m d] 40)) 35 #[.slice T q e0, .slice X p f0]
    simpa only [World.size_alloc] using h
  have B_5 := B_2.alloc (by simp only [World.size_alloc]; omega) (.cells #[.slice T q e0, .slice X p f0] 35)
  clear B_2
  have cp_6 := p_4.cells
  have fp_6 := p_4.free
  have ct_7 := t_5.cells
  have ft_7 := t_5.free
  clear cp_6 fp_6
  clear ct_7 ft_7
  have p_8 := p_4.same (same_alloc (.cells #[.int .i64 (k : Nat), .int .i64 ft] 55) (by simp only [World.size_alloc]; omega))
  clear p_4
  have t_8 := t_5.same (same_alloc (.cells #[.int .i64 (k : Nat), .int .i64 ft] 55) (by simp only [World.size_alloc]; omega))
  clear t_5
  have f_9 : Bx (((w.alloc (.cells #[.slice A n c, .slice C m d] 40)).alloc (.cells #[.slice T q e0, .slice X p f0] 35)).alloc (.cells #[.int .i64 (k : Nat), .int .i64 ft] 55)) (w.heap.size + 1 + 1) 55 #[.int .i64 (k : Nat), .int .i64 ft] := by
    have h := Bx.new ((w.alloc (.cells #[.slice A n c, .slice C m d] 40)).alloc (.cells #[.slice T q e0, .slice X p f0] 35)) 55 #[.int .i64 (k : Nat), .int .i64 ft]
    simpa only [World.size_alloc] using h
  have B_9 := B_5.alloc (by simp only [World.size_alloc]; omega) (.cells #[.int .i64 (k : Nat), .int .i64 ft] 55)
  clear B_5
  have cp_10 := p_8.cells
  have fp_10 := p_8.free
  have ct_11 := t_8.cells
  have ft_11 := t_8.free
  have cf_12 := f_9.cells
  have ff_12 := f_9.free
  clear cp_10 fp_10
  clear ct_11 ft_11
  clear cf_12 ff_12
  have p_13 := p_8.same (same_alloc (.cells #[.int .i64 0, .int .i64 0] 62) (by simp only [World.size_alloc]; omega))
  clear p_8
  have t_13 := t_8.same (same_alloc (.cells #[.int .i64 0, .int .i64 0] 62) (by simp only [World.size_alloc]; omega))
  clear t_8
  have f_13 := f_9.same (same_alloc (.cells #[.int .i64 0, .int .i64 0] 62) (by simp only [World.size_alloc]; omega))
  clear f_9
  have r_14 : Bx ((((w.alloc (.cells #[.slice A n c, .slice C m d] 40)).alloc (.cells #[.slice T q e0, .slice X p f0] 35)).alloc (.cells #[.int .i64 (k : Nat), .int .i64 ft] 55)).alloc (.cells #[.int .i64 0, .int .i64 0] 62)) (w.heap.size + 1 + 1 + 1) 62 #[.int .i64 0, .int .i64 0] := by
    have h := Bx.new (((w.alloc (.cells #[.slice A n c, .slice C m d] 40)).alloc (.cells #[.slice T q e0, .slice X p f0] 35)).alloc (.cells #[.int .i64 (k : Nat), .int .i64 ft] 55)) 62 #[.int .i64 0, .int .i64 0]
    simpa only [World.size_alloc] using h
  have B_14 := B_9.alloc (by simp only [World.size_alloc]; omega) (.cells #[.int .i64 0, .int .i64 0] 62)
  clear B_9
  have cp_15 := p_13.cells
  have fp_15 := p_13.free
  have ct_16 := t_13.cells
  have ft_16 := t_13.free
  have cf_17 := f_13.cells
  have ff_17 := f_13.free
  have cr_18 := r_14.cells
  have fr_18 := r_14.free
  go_wp2_with fail
  refine (sStatsOk_any _ _ _ _ _ _ _ ats cs _ _ _ _ _ _ _ ts xss _ (R.out.below B_14 (Nat.le_refl _)) (S.out.below B_14 (Nat.le_refl _))).mono ?_
  rw [H0.out]
  rintro e w1 ⟨rfl, b⟩
  clear cp_15 fp_15
  clear ct_16 ft_16
  clear cf_17 ff_17
  clear cr_18 fr_18
  simp only [World.size_alloc] at b
  have t_19 := b.size
  simp only [World.size_alloc] at t_19
  have z_19 : w.heap.size ≤ w1.heap.size := by omega
  have p_20 := p_13.same (same_below b (by omega))
  clear p_13
  have t_20 := t_13.same (same_below b (by omega))
  clear t_13
  have f_20 := f_13.same (same_below b (by omega))
  clear f_13
  have r_20 := r_14.same (same_below b (by omega))
  clear r_14
  have B_19 := B_14.trans (b.mono (by omega))
  clear B_14 b
  have cp_21 := p_20.cells
  have fp_21 := p_20.free
  have ct_22 := t_20.cells
  have ft_22 := t_20.free
  have cf_23 := f_20.cells
  have ff_23 := f_20.free
  have cr_24 := r_20.cells
  have fr_24 := r_20.free
  go_wp2_with fail
  refine (sForkOk_any _ _ _ _ _ _ _ ats cs (k : Nat) ft _ (R.out.below B_19 (Nat.le_refl _))).mono ?_
  rw [HFk.out]
  rintro e w2 ⟨rfl, b⟩
  clear cp_21 fp_21
  clear ct_22 ft_22
  clear cf_23 ff_23
  clear cr_24 fr_24
  have t_25 := b.size
  have z_25 : w.heap.size ≤ w2.heap.size := by omega
  have p_26 := p_20.same (same_below b (by omega))
  clear p_20
  have t_26 := t_20.same (same_below b (by omega))
  clear t_20
  have f_26 := f_20.same (same_below b (by omega))
  clear f_20
  have r_26 := r_20.same (same_below b (by omega))
  clear r_20
  have B_25 := B_19.trans (b.mono (by omega))
  clear B_19 b
  have cp_27 := p_26.cells
  have fp_27 := p_26.free
  have ct_28 := t_26.cells
  have ft_28 := t_26.free
  have cf_29 := f_26.cells
  have ff_29 := f_26.free
  have cr_30 := r_26.cells
  have fr_30 := r_26.free
  have HAc := Lib.hid B_25; have HP := Lib.hid p_26; have HTb := Lib.hid t_26; have HF := Lib.hid f_26; have HRb := Lib.hid r_26; have lp := p_26.lt; have lt_ := t_26.lt; have lf := f_26.lt; have lr := r_26.lt
  have hV := B_25.size
  go_wp2_with (at_make; refine wpList_make_full _ rfl _ _ 26 rfl w2.heap.size 3 i0 (Value.int .i64 0) 1 Try.underlying26 HJ.out HJ0.out HJ1.out .i64 .i64 _ _ m rfl rfl (by omega) (by omega) ?c1 ?c2 (Nat.le_refl _) ?_)
  case c1 => rw [HJ2.out]; omega
  case c2 => unfold maxLen; omega
  intro v1 hown hgrow
  have HB1 : Hid (Below w2.heap.size w2 v1) := (Below.refl _ _).grown hgrow (Nat.le_refl _) (fun k hk => by cases hk)
  have HO1 : Hid (v1.ownsRow w2.heap.size 3 1 (.slice (some ⟨w2.heap.size, 0, none⟩) m m) m (rowV m (aF (Ls.take 0)))) := by
    unfold Hid; rw [List.take_zero, show rowV m (aF []) = rowV m (fun _ => 0) from rowV_ext fun j _ => aF_nil j, rowV_zero, ← toList_madeCells_one]; simpa [Value.cells] using hown
  have hz1 := (HO1.out.lt w2.heap.size rfl).2
  clear hown hgrow cp_27 fp_27 ct_28 ft_28 cf_29 ff_29 cr_30 fr_30
  go_wp2_with fail
  go_loopw [8, 9, 10] (fun sv qv ix wr => ∃ (i a1 n1 c1 a2 c2 : Nat), i ≤ N ∧ sv = .slice (some ⟨a1, 0, none⟩) n1 c1 ∧ qv = .slice (some ⟨a2, 0, none⟩) n1 c2 ∧ ix = .int .i64 i ∧ Ow 3 w2.heap.size v1.heap.size wr (some ⟨w2.heap.size, 0, none⟩) m m (rowV m (aF (Ls.take i))) ∧ Ow 3 v1.heap.size wr.heap.size wr (some ⟨a1, 0, none⟩) n1 c1 ((partsL (Ls.take i)).map fun l => Value.int .i64 l.sum) ∧ Ow 3 v1.heap.size wr.heap.size wr (some ⟨a2, 0, none⟩) n1 c2 ((partsL (Ls.take i)).map fun l => Value.int .i64 (sqL l)) ∧ a1 ≠ a2 ∧ Below w2.heap.size w2 wr) (fun _ _ ix _ => N - (intOf ix).toNat)
  case atStart =>
    obtain ⟨h1, h2⟩ := two_lits v1 3
    refine ⟨0, v1.heap.size, 0, 0, v1.heap.size + 1, 0, Nat.zero_le _, rfl, rfl, rfl, ((Ow.of HO1.out).same (same_alloc _ (Nat.le_refl _))).same (same_alloc _ (by simp only [World.size_alloc]; omega)), ?_, ?_, by omega, (HB1.out.alloc (by omega) _).alloc (by simp only [World.size_alloc]; omega) _⟩
    · simpa only [List.take_zero, World.size_alloc, partsL, List.filter_nil, List.map_nil] using h1
    · simpa only [List.take_zero, World.size_alloc, partsL, List.filter_nil, List.map_nil] using h2
  case round =>
    obtain ⟨i, a1, n1, c1, a2, c2, hi, rfl, rfl, rfl, hall, hsz, hsq, hne, hbel⟩ := hrel
    obtain ⟨wo, rfl⟩ : ∃ wo : World, wo = wr := ⟨_, rfl⟩
    have HAll := Lib.hid hall; have HSz := Lib.hid hsz; have HSqq := Lib.hid hsq; have HBel := Lib.hid hbel
    have HW : Hid (Below w.heap.size w wo) := HAc.out.trans (hbel.mono (by omega))
    have hzr := hbel.size
    have hHiW : v1.heap.size ≤ wo.heap.size := by have h1 := (hsz.own.lt a1 rfl).1; have h2 := hsz.top a1 rfl; omega
    clear hall hsz hsq hbel
    have p0 : wo.cell? ⟨w.heap.size, 0, none⟩ = some (.slice A n c) := (HBel.out.cell (p := ⟨w.heap.size, 0, none⟩) lp).trans (HP.out.cells 0)
    have p1 : wo.cell? ⟨w.heap.size, 1, none⟩ = some (.slice C m d) := (HBel.out.cell (p := ⟨w.heap.size, 1, none⟩) lp).trans (HP.out.cells 1)
    have q0 : wo.cell? ⟨w.heap.size + 1 + 1, 0, none⟩ = some (.int .i64 (k : Nat)) := (HBel.out.cell (p := ⟨w.heap.size + 1 + 1, 0, none⟩) lf).trans (HF.out.cells 0)
    have q1 : wo.cell? ⟨w.heap.size + 1 + 1, 1, none⟩ = some (.int .i64 ft) := (HBel.out.cell (p := ⟨w.heap.size + 1 + 1, 1, none⟩) lf).trans (HF.out.cells 1)
    go_wp2_with fail
    refine (sBranches_any _ _ _ _ _ _ _ ats cs (k : Nat) ft _ (R.out.below HW.out (Nat.le_refl _))).mono ?_
    rw [HZ.out]
    rintro e u2 ⟨rfl, b2⟩
    have hz2 := b2.size
    have HAll2 := Lib.hid (HAll.out.same (same_below b2 hHiW))
    have HSz2 := Lib.hid ((HSz.out.same (same_below b2 (Nat.le_refl _))).wide (Nat.le_refl _) hz2)
    have HSqq2 := Lib.hid ((HSqq.out.same (same_below b2 (Nat.le_refl _))).wide (Nat.le_refl _) hz2)
    have HB2 : Hid (Below w2.heap.size w2 u2) := HBel.out.trans (b2.mono (by omega))
    have HW2 : Hid (Below w.heap.size w u2) := HAc.out.trans (HB2.out.mono (by omega))
    have hHiR : v1.heap.size ≤ u2.heap.size := by omega
    clear b2 HAll HSz HSqq HBel HW p0 p1 q0 q1
    by_cases hlt : i < N
    · have hlt' : (i : Int) < (N : Int) := by omega
      have p0 : u2.cell? ⟨w.heap.size, 0, none⟩ = some (.slice A n c) := (HB2.out.cell (p := ⟨w.heap.size, 0, none⟩) lp).trans (HP.out.cells 0)
      have p1 : u2.cell? ⟨w.heap.size, 1, none⟩ = some (.slice C m d) := (HB2.out.cell (p := ⟨w.heap.size, 1, none⟩) lp).trans (HP.out.cells 1)
      have t0 : u2.cell? ⟨w.heap.size + 1, 0, none⟩ = some (.slice T q e0) := (HB2.out.cell (p := ⟨w.heap.size + 1, 0, none⟩) lt_).trans (HTb.out.cells 0)
      have t1 : u2.cell? ⟨w.heap.size + 1, 1, none⟩ = some (.slice X p f0) := (HB2.out.cell (p := ⟨w.heap.size + 1, 1, none⟩) lt_).trans (HTb.out.cells 1)
      have q0 : u2.cell? ⟨w.heap.size + 1 + 1, 0, none⟩ = some (.int .i64 (k : Nat)) := (HB2.out.cell (p := ⟨w.heap.size + 1 + 1, 0, none⟩) lf).trans (HF.out.cells 0)
      have q1 : u2.cell? ⟨w.heap.size + 1 + 1, 1, none⟩ = some (.int .i64 ft) := (HB2.out.cell (p := ⟨w.heap.size + 1 + 1, 1, none⟩) lf).trans (HF.out.cells 1)
      go_wp2_with fail
      refine (sBranchTotals_yes _ _ _ _ _ _ _ ats cs _ _ _ _ _ _ _ ts xss _ (R.out.below HW2.out (Nat.le_refl _)) (S.out.below HW2.out (Nat.le_refl _)) (k : Nat) ft (i : Nat) (HBtb.out i hlt)).mono ?_
      rintro e u3 ⟨g6, rfl, o, b⟩
      rw [btL_int] at o
      have hget := HGet.out i hlt
      obtain ⟨l, hl⟩ : ∃ l, btI ats cs xss (k : Nat) ft (i : Nat) = l := ⟨_, rfl⟩
      rw [hl] at o hget
      have hmem := List.mem_of_getElem? hget
      have hrw := HOk.out.row hmem
      have HLm : Hid (l.length = m) := HOk.out.len l hmem
      have HLb : Hid (∀ x ∈ l, 0 ≤ x ∧ x ≤ 999) := hrw.2.2
      have HLs : Hid (0 ≤ l.sum ∧ l.sum ≤ 999) := ⟨hrw.1, hrw.2.1⟩
      have HTk : Hid (Ls.take i ++ [l] = Ls.take (i + 1)) := by
        unfold Hid
        have hi' : i < Ls.length := by rw [HLl.out]; exact hlt
        have e : Ls[i] = l := (List.getElem?_eq_some_iff.1 hget).2
        rw [List.take_succ_eq_append_getElem hi', e]
      have HL3 : Hid (Ow 3 u2.heap.size u3.heap.size u3 (some ⟨g6, 0, none⟩) m m (l.map (Value.int .i64))) := Ow.of o
      have HAll3 : Hid (Ow 3 w2.heap.size v1.heap.size u3 (some ⟨w2.heap.size, 0, none⟩) m m (rowV m (addF (Ls.take i) l 0))) := by unfold Hid; rw [← addF_zero]; exact HAll2.out.same (same_below b (by omega))
      have HSz3 := Lib.hid (HSz2.out.same (same_below b (Nat.le_refl _)))
      have HSq3 := Lib.hid (HSqq2.out.same (same_below b (Nat.le_refl _)))
      have HB3 : Hid (Below w2.heap.size w2 u3) := HB2.out.trans (b.mono (by omega))
      have hz3 := b.size
      clear hl hget hmem hrw o b HAll2 HSz2 HSqq2 HB2 HW2 p0 p1 t0 t1 q0 q1
      go_wp2_with fail
      go_loopw [12] (fun jx w4 => ∃ j : Nat, j ≤ m ∧ jx = .int .i64 j ∧ Ow 3 w2.heap.size v1.heap.size w4 (some ⟨w2.heap.size, 0, none⟩) m m (rowV m (addF (Ls.take i) l j)) ∧ Only w2.heap.size v1.heap.size u3 w4) (fun jx _ => m - (intOf jx).toNat)
      case atStart => exact ⟨0, Nat.zero_le _, rfl, HAll3.out, Only.refl _ _ _⟩
      case round =>
        obtain ⟨j, hj, rfl, hal, hon⟩ := hrel
        obtain ⟨u4, rfl⟩ : ∃ u4 : World, u4 = wr := ⟨_, rfl⟩
        have HAl := Lib.hid hal; have HOn := Lib.hid hon
        have HL4 : Hid (Ow 3 u2.heap.size u3.heap.size u4 (some ⟨g6, 0, none⟩) m m (l.map (Value.int .i64))) := HL3.out.same (same_only HOn.out (Or.inr hHiR) (Nat.le_refl _))
        clear hal hon
        by_cases hlj : j < m
        · obtain ⟨x, hx⟩ : ∃ x, l[j]? = some x := ⟨_, List.getElem?_eq_getElem (by rw [HLm.out]; exact hlj)⟩
          have hxb := HLb.out x (List.mem_of_getElem? hx)
          have hcell : u4.cell? ⟨g6, j, none⟩ = some (.int .i64 x) := by rw [HL4.out.own.cellAt j (by omega)]; simp [hx]
          obtain ⟨s, hs⟩ : ∃ s, aF (Ls.take i) j = s := ⟨_, rfl⟩
          have hsb := aF_bd (HOk.out.take i) hlj
          rw [hs] at hsb
          have hsc : u4.cell? ⟨w2.heap.size, j, none⟩ = some (.int .i64 s) := by rw [HAl.out.own.cellAt j (by omega), rowV_get hlj, addF_at, hs]
          have HAd : Hid (Ow 3 w2.heap.size v1.heap.size u4.drew (some ⟨w2.heap.size, 0, none⟩) m m (rowV m (addF (Ls.take i) l j))) := HAl.out.same (fun _ _ _ => rfl)
          have hfr : u4.drew.frozen? ⟨w2.heap.size, j, none⟩ = false := HAd.out.own.frozenAt j
          have hsd : u4.drew.cell? ⟨w2.heap.size, j, none⟩ = some (.int .i64 s) := hsc
          obtain ⟨hs1, hs2⟩ := HAd.out.own.stored j (.int .i64 (s + x))
          have hset := addF_set (Ls := Ls.take i) hlj hx
          rw [hs] at hset
          rw [hset] at hs1
          have HA9 : Hid (Ow 3 w2.heap.size v1.heap.size (u4.drew.setCell ⟨w2.heap.size, j, none⟩ (.int .i64 (s + x))) (some ⟨w2.heap.size, 0, none⟩) m m (rowV m (addF (Ls.take i) l (j + 1)))) := ⟨hs1, HAd.out.top⟩
          have HO9 : Hid (Only w2.heap.size v1.heap.size u3 (u4.drew.setCell ⟨w2.heap.size, j, none⟩ (.int .i64 (s + x)))) := (HOn.out.trans (Only.of_below (Below.refl u4.heap.size u4).drew (Nat.le_refl _))).trans (HAd.out.only hs2)
          have n0 : (0 : Int) ≤ (j : Int) := Int.natCast_nonneg _
          have n1_ : (j : Int) < (m : Int) := by omega
          have n2 : IntKind.i64.wrap (s + x) = s + x := IntWalk.i64_in _ (by omega)
          clear hx hs hs1 hs2 hset
          go_wp2_with fail
          go_still_tail 12, (by kernel_rfl)
          go_wp2_with fail
          clear n0 n1_ n2
          go_roundw
          case rel => exact ⟨j + 1, by omega, by go_num, HA9.out, HO9.out⟩
          case measure => simp [intOf]; omega
        · obtain rfl : m = j := by omega
          have hall : rowV m (addF (Ls.take i) l m) = rowV m (aF (Ls.take (i + 1))) := by rw [addF_all, HTk.out]
          have HA5 : Hid (Ow 3 w2.heap.size v1.heap.size u4 (some ⟨w2.heap.size, 0, none⟩) m m (rowV m (aF (Ls.take (i + 1))))) := by unfold Hid; rw [← hall]; exact HAl.out
          have HS5 := Lib.hid (HSz3.out.same (same_only HOn.out (Or.inr (Nat.le_refl _)) (by omega)))
          have HQ5 := Lib.hid (HSq3.out.same (same_only HOn.out (Or.inr (Nat.le_refl _)) (by omega)))
          have hz4 := HOn.out.size
          have HB5 : Hid (Below w2.heap.size w2 u4) := HB3.out.trans (HOn.out.below (Nat.le_refl _) (by omega))
          clear hall HAl HOn HSz3 HSq3 HB3 HAll3
          obtain ⟨s, hs⟩ : ∃ s, l.sum = s := ⟨_, rfl⟩
          have HS := Lib.hid hs
          have hsb := HLs.out
          rw [hs] at hsb
          clear hs
          go_wp2_with fail
          refine (sSum_any _ m m l _ HL4.out.rd (by omega) HLb.out).mono ?_
          rw [HS.out]
          rintro e u5 ⟨rfl, rfl⟩
          by_cases hs0 : 0 < s
          · skip
            have hn1 : n1 ≤ 4 := by
              have h1 : (partsL (Ls.take i)).length = n1 := by have := HS5.out.rd.len; simpa using this
              have h2 : (partsL (Ls.take i)).length ≤ (Ls.take i).length := List.length_filter_le _ _
              rw [List.length_take] at h2
              omega
            have HPs : Hid (partsL (Ls.take i) ++ [l] = partsL (Ls.take (i + 1))) := by
              unfold Hid
              rw [← HTk.out, parts_yes (by rw [HS.out]; exact hs0)]
            obtain ⟨ql, hql⟩ : ∃ ql, sqL l = ql := ⟨_, rfl⟩
            have HQL := Lib.hid hql
            have HQ : Hid (sqI l = ql) := by unfold Hid; rw [← hql]; exact sqI_in (by rw [HLm.out]; exact hm') HLb.out
            have la1 : a1 < u2.heap.size := HS5.out.top a1 rfl
            have la2 : a2 < u2.heap.size := HQ5.out.top a2 rfl
            have lb1 : v1.heap.size ≤ a1 := (HS5.out.own.lt a1 rfl).1
            have lb2 : v1.heap.size ≤ a2 := (HQ5.out.own.lt a2 rfl).1
            have lg : u2.heap.size ≤ g6 := (HL4.out.own.lt g6 rfl).1
            clear hql
            go_wp2_with fail
            refine (sSum_any _ m m l _ HL4.out.rd (by omega) HLb.out).mono ?_
            rw [HS.out]
            rintro e u5 ⟨rfl, rfl⟩
            go_wp2_with (at_builtin; refine wpList_append_lies _ rfl _ _ 26 rfl v1.heap.size 3 i0 (.int .i64 0) 1 8 Try.underlying26 HJ.out HJ0.out HJ1.out HJ2.out rfl (by decide) (.slice (some ⟨a1, 0, none⟩) n1 c1) n1 ((partsL (Ls.take i)).map fun l => Value.int .i64 l.sum) rfl (HS5.out.own.alloc _) ⟨u4.heap.size, 0, none⟩ 1 1 [.int .i64 s] rfl rfl ?c1 ?c2 (by omega) ?c3 ?c4 ?c5 _ rfl ?_)
            case c1 => exact cell_one_new _ _ _
            case c2 => intro u hu; simp at hu; subst hu; rfl
            case c3 => unfold maxLen; omega
            case c4 => omega
            case c5 => simp only [World.size_alloc]; omega
            intro g7 cap7 u6 hown7 hgrow7 hat7 hlt7
            have hz6 := hgrow7.size
            simp only [World.size_alloc] at hz6
            have hat7' : g7 = a1 ∨ g7 = u4.heap.size + 1 := by
              rcases hat7 with h | h
              · exact .inl (Option.some.inj h).symm
              · exact .inr (by simpa only [World.size_alloc] using h)
            have HS6 : Hid (Ow 3 v1.heap.size u6.heap.size u6 (some ⟨g7, 0, none⟩) (n1 + 1) cap7 ((partsL (Ls.take (i + 1))).map fun l => Value.int .i64 l.sum)) := by
              unfold Hid
              rw [← HPs.out, List.map_append]
              simp only [List.map_cons, List.map_nil, HS.out]
              exact Ow.of hown7
            have HQ6 : Hid (Ow 3 v1.heap.size u2.heap.size u6 (some ⟨a2, 0, none⟩) n1 c2 ((partsL (Ls.take i)).map fun l => Value.int .i64 (sqL l))) := (HQ5.out.same (same_alloc _ (by omega))).grown hgrow7 (fun g hg e => by simp only [Value.ownBlock, Option.some.injEq] at hg e; omega)
            have HA6 : Hid (Ow 3 w2.heap.size v1.heap.size u6 (some ⟨w2.heap.size, 0, none⟩) m m (rowV m (aF (Ls.take (i + 1))))) := (HA5.out.same (same_alloc _ (by omega))).grown hgrow7 (fun g hg e => by have h1 := HA5.out.top g hg; simp only [Value.ownBlock, Option.some.injEq] at e; omega)
            have HL6 : Hid (Ow 3 u2.heap.size u3.heap.size u6 (some ⟨g6, 0, none⟩) m m (l.map (Value.int .i64))) := (HL4.out.same (same_alloc _ (by omega))).grown hgrow7 (fun g hg e => by simp only [Value.ownBlock, Option.some.injEq] at hg e; omega)
            have HB6 : Hid (Below w2.heap.size w2 u6) := Below.grown (HB5.out.alloc (by omega) _) hgrow7 (by simp only [World.size_alloc]; omega) (fun kk hk => by simp only [Value.ownBlock, Option.some.injEq] at hk; omega)
            clear hown7 hgrow7 hat7 HS5 HQ5 HA5 HL4 HB5
            go_wp2_with fail
            refine (sSquares_any _ m m l _ HL6.out.rd (by omega)).mono ?_
            rw [HQ.out]
            rintro e u7 ⟨rfl, b7⟩
            have hz7 := b7.size
            have HS7 := Lib.hid (HS6.out.same (same_below b7 (Nat.le_refl _)))
            have HQ7 := Lib.hid (HQ6.out.same (same_below b7 (by omega)))
            have HA7 := Lib.hid (HA6.out.same (same_below b7 (by omega)))
            have HB7 : Hid (Below w2.heap.size w2 u7) := HB6.out.trans (b7.mono (by omega))
            have lg7 : g7 < u7.heap.size := by omega
            clear b7 HS6 HQ6 HA6 HL6 HB6
            go_wp2_with (at_builtin; refine wpList_append_lies _ rfl _ _ 26 rfl v1.heap.size 3 i0 (.int .i64 0) 1 8 Try.underlying26 HJ.out HJ0.out HJ1.out HJ2.out rfl (by decide) (.slice (some ⟨a2, 0, none⟩) n1 c2) n1 ((partsL (Ls.take i)).map fun l => Value.int .i64 (sqL l)) rfl (HQ7.out.own.alloc _) ⟨u7.heap.size, 0, none⟩ 1 1 [.int .i64 ql] rfl rfl ?c1 ?c2 (by omega) ?c3 ?c4 ?c5 _ rfl ?_)
            case c1 => exact cell_one_new _ _ _
            case c2 => intro u hu; simp at hu; subst hu; rfl
            case c3 => unfold maxLen; omega
            case c4 => omega
            case c5 => simp only [World.size_alloc]; omega
            intro g8 cap8 u8 hown8 hgrow8 hat8 hlt8
            have hz8 := hgrow8.size
            simp only [World.size_alloc] at hz8
            have hne8 : g7 ≠ g8 := by
              rcases hat8 with h | h
              · simp only [Value.ownBlock, Option.some.injEq] at h; omega
              · first | omega | (simp only [World.size_alloc] at h; omega)
            have HQ8 : Hid (Ow 3 v1.heap.size u8.heap.size u8 (some ⟨g8, 0, none⟩) (n1 + 1) cap8 ((partsL (Ls.take (i + 1))).map fun l => Value.int .i64 (sqL l))) := by
              unfold Hid
              rw [← HPs.out, List.map_append]
              simp only [List.map_cons, List.map_nil, HQL.out]
              exact Ow.of hown8
            have HS8 : Hid (Ow 3 v1.heap.size u6.heap.size u8 (some ⟨g7, 0, none⟩) (n1 + 1) cap7 ((partsL (Ls.take (i + 1))).map fun l => Value.int .i64 l.sum)) := (HS7.out.same (same_alloc _ (by omega))).grown hgrow8 (fun g hg e => by simp only [Value.ownBlock, Option.some.injEq] at hg e; omega)
            have HA8 : Hid (Ow 3 w2.heap.size v1.heap.size u8 (some ⟨w2.heap.size, 0, none⟩) m m (rowV m (aF (Ls.take (i + 1))))) := (HA7.out.same (same_alloc _ (by omega))).grown hgrow8 (fun g hg e => by have h1 := HA7.out.top g hg; simp only [Value.ownBlock, Option.some.injEq] at e; omega)
            have HB8 : Hid (Below w2.heap.size w2 u8) := Below.grown (HB7.out.alloc (by omega) _) hgrow8 (by simp only [World.size_alloc]; omega) (fun kk hk => by simp only [Value.ownBlock, Option.some.injEq] at hk; omega)
            clear hown8 hgrow8 hat8 HQ7 HS7 HA7 HB7
            go_wp2_with fail
            go_roundw
            case rel => exact ⟨i + 1, _, _, _, _, _, by omega, rfl, rfl, by go_num, HA8.out, HS8.out.wide (Nat.le_refl _) (by omega), HQ8.out, hne8, HB8.out⟩
            case measure => simp [intOf]; omega
          · have HPs : Hid (partsL (Ls.take (i + 1)) = partsL (Ls.take i)) := by
              unfold Hid
              rw [← HTk.out]; exact parts_no (by rw [HS.out]; exact hs0)
            have hs0' : s ≤ 0 := by omega
            have hsd : decide (0 < s) = false := decide_eq_false hs0
            go_wp2_with fail
            go_roundw
            case rel => exact ⟨i + 1, _, _, _, _, _, by omega, rfl, rfl, by go_num, HA5.out, by rw [HPs.out]; exact HS5.out.wide (Nat.le_refl _) (by omega), by rw [HPs.out]; exact HQ5.out.wide (Nat.le_refl _) (by omega), hne, HB5.out⟩
            case measure => simp [intOf]; omega
    · obtain rfl : N = i := by omega
      have htk : Ls.take N = Ls := List.take_of_length_le (Nat.le_of_eq HLl.out)
      have HAll := HAll2; have HSz := HSz2
      have HSq2 := HSqq2
      rw [htk] at HAll HSz HSq2
      have HPF : Hid (∃ pr, prI Ls = pr) := ⟨_, rfl⟩
      obtain ⟨pr, hpr⟩ := HPF.out
      have HPF := Lib.hid hpr
      obtain ⟨nn, hnn⟩ : ∃ nn, (allI m Ls).sum = nn := ⟨_, rfl⟩
      have HNn := Lib.hid hnn
      have hnb : 0 ≤ nn ∧ nn ≤ 999 := by
        have h1 := all_sum HOk.out
        have h2 := HOk.out.tot
        have h3 := sum_pos (fun x hx => (all_bd HOk.out x hx).1)
        omega
      have HAR : Hid (Rd u2 (some ⟨w2.heap.size, 0, none⟩) m ((allI m Ls).map (Value.int .i64))) := by unfold Hid; rw [← rowV_all]; exact HAll.out.rd
      have HAB : Hid (∀ x ∈ allI m Ls, 0 ≤ x ∧ x ≤ 999) := all_bd HOk.out
      clear hnn htk hpr HAll2 HSz2 HSqq2
      go_wp2_with fail
      refine (sSum_any _ m m (allI m Ls) _ HAR.out (by omega) HAB.out).mono ?_
      rw [HNn.out]
      rintro e u5 ⟨rfl, rfl⟩
      by_cases hn0 : nn = 0
      · have HN0 : Hid (merN ats cs ts xss (k : Nat) ft = 0) := by unfold Hid; rw [HN.out, HNn.out, if_pos hn0]
        have HD0 : Hid (merD ats cs ts xss (k : Nat) ft = 1) := by unfold Hid; rw [HD.out, HNn.out, if_pos hn0]
        subst hn0
        have r0 : u2.cell? ⟨w.heap.size + 1 + 1 + 1, 0, none⟩ = some (.int .i64 0) := (HB2.out.cell (p := ⟨w.heap.size + 1 + 1 + 1, 0, none⟩) lr).trans (HRb.out.cells 0)
        have fr0 : u2.frozen? ⟨w.heap.size + 1 + 1 + 1, 0, none⟩ = false := (HB2.out.frozen (p := ⟨w.heap.size + 1 + 1 + 1, 0, none⟩) lr).trans (HRb.out.free 0)
        have r1 : u2.cell? ⟨w.heap.size + 1 + 1 + 1, 1, none⟩ = some (.int .i64 0) := (HB2.out.cell (p := ⟨w.heap.size + 1 + 1 + 1, 1, none⟩) lr).trans (HRb.out.cells 1)
        have fr1 : u2.frozen? ⟨w.heap.size + 1 + 1 + 1, 1, none⟩ = false := (HB2.out.frozen (p := ⟨w.heap.size + 1 + 1 + 1, 1, none⟩) lr).trans (HRb.out.free 1)
        have hB2 := HW2.out
        go_wp2_with ((with_reducible refine bodyPost_ret (v := .agg #[.int .i64 0, .int .i64 1]) ?k1 ?k2 ?k3); (case k1 => (simp [results, Try.results30, go_sem, r0, r1, fr0, fr1])); (case k2 => rfl); (case k3 => (exact ⟨by rw [HN0.out, HD0.out], by first | exact two_cells _ _ hB2 (by omega) | exact two_cells_drew _ _ hB2 (by omega)⟩)))
      · have HN0 : Hid (merN ats cs ts xss (k : Nat) ft = lowN (numI m Ls) (denI m Ls)) := by unfold Hid; rw [HN.out, HNn.out, if_neg hn0]
        have HD0 : Hid (merD ats cs ts xss (k : Nat) ft = lowD (numI m Ls) (denI m Ls)) := by unfold Hid; rw [HD.out, HNn.out, if_neg hn0]
        have hnb2 : (nn == 0) = false := beq_false_of_ne hn0
        have hnd2 : decide (nn = 0) = false := decide_eq_false hn0
        have hprb := HOk.out.pr
        rw [HPF.out] at hprb
        have hnnb : 0 ≤ nn * nn ∧ nn * nn ≤ 998001 := ⟨Int.mul_nonneg hnb.1 hnb.1, by have := Int.mul_le_mul hnb.2 hnb.2 hnb.1 (by omega); omega⟩
        have HDen : Hid (denI m Ls = nn * nn * pr) := by unfold Hid denI; rw [HNn.out, HPF.out]
        have hden : 0 ≤ nn * nn * pr ∧ nn * nn * pr ≤ 998001 * 996005996001 := ⟨Int.mul_nonneg hnnb.1 (by omega), Int.mul_le_mul hnnb.2 hprb.2 (by omega) (by omega)⟩
        obtain ⟨sq, hsq⟩ : ∃ sq, sqL (allI m Ls) = sq := ⟨_, rfl⟩
        have hsqb := sq_le HOk.out.hm (allI_len (Ls := Ls)) (fun x hx => (HAB.out x hx).1)
        rw [HNn.out, hsq] at hsqb
        have HSq := Lib.hid hsq
        have HSqI : Hid (sqI (allI m Ls) = sq) := by unfold Hid; rw [← hsq]; exact sqI_in (by rw [allI_len]; exact hm') HAB.out
        clear hsq
        have HRS := Lib.hid HSz.out.rd; have HRQ := Lib.hid HSq2.out.rd
        have HPL : Hid ((partsL Ls).length = n1) := by have := HRS.out.len; unfold Hid; simpa using this
        have hn1 : n1 ≤ 4 := by
          have h1 := HPL.out
          have h2 : (partsL Ls).length ≤ Ls.length := List.length_filter_le _ _
          rw [HLl.out] at h2
          omega
        have HPk : Hid (∀ kk, 1 ≤ prodL (((partsL Ls).take kk).map List.sum) ∧ prodL (((partsL Ls).take kk).map List.sum) ≤ 996005996001) := HOk.out.prk
        have HSh : Hid (∀ kk, 0 ≤ (((partsL Ls).take kk).map (shS nn pr)).sum ∧ (((partsL Ls).take kk).map (shS nn pr)).sum ≤ 994014980014994001 * 4) := by
          intro kk
          have h := sum4 (f := shS nn pr) (C := 994014980014994001) (ps := (partsL Ls).take kk) fun l hl => by
            obtain ⟨h1, h2, h3⟩ := HOk.out.parts (List.mem_of_mem_take hl)
            have h4 := HOk.out.row h1
            have h5 := sq_le HOk.out.hm (HOk.out.len l h1) (HOk.out.pos l h1)
            rw [HPF.out] at h3
            obtain ⟨_, _, _, _, h6, h7⟩ := share_bd hnb hprb ⟨h2, h4.2.1⟩ h3 (q := sqL l) h5
            exact ⟨h6, h7⟩
          have hl : (((partsL Ls).take kk).length : Int) ≤ 4 := by rw [List.length_take, HPL.out]; omega
          omega
        go_wp2_with fail
        go_loop [14, 15] (fun pv kx => ∃ kk : Nat, kk ≤ n1 ∧ kx = .int .i64 kk ∧ pv = .int .i64 (prodL (((partsL Ls).take kk).map List.sum))) (fun _ kx => n1 - (intOf kx).toNat)
        case atStart => exact ⟨0, Nat.zero_le _, rfl, by simp [prodL]⟩
        case round =>
          obtain ⟨kk, hkk, rfl, rfl⟩ := hrel
          by_cases hlt : kk < n1
          · obtain ⟨l, hl⟩ : ∃ l, (partsL Ls)[kk]? = some l := ⟨_, List.getElem?_eq_getElem (by rw [HPL.out]; exact hlt)⟩
            have hcell : u2.cell? ⟨a1, kk, none⟩ = some (.int .i64 l.sum) := by rw [HSz.out.own.cellAt kk (by omega)]; simp [hl]
            have hpk := HPk.out kk
            have hpk1 := HPk.out (kk + 1)
            have hnext : prodL (((partsL Ls).take (kk + 1)).map List.sum) = prodL (((partsL Ls).take kk).map List.sum) * l.sum := by
              have hk' : kk < (partsL Ls).length := by rw [HPL.out]; exact hlt
              have e : (partsL Ls)[kk] = l := (List.getElem?_eq_some_iff.1 hl).2
              rw [List.take_succ_eq_append_getElem hk', List.map_append, e]
              exact prod_snoc _ _
            rw [hnext] at hpk1
            have HNext := Lib.hid hnext
            obtain ⟨s, hs⟩ : ∃ s, l.sum = s := ⟨_, rfl⟩
            obtain ⟨pk, hpke⟩ : ∃ pk, prodL (((partsL Ls).take kk).map List.sum) = pk := ⟨_, rfl⟩
            rw [hs, hpke] at HNext hpk1
            rw [hs] at hcell
            rw [hpke] at hpk ⊢
            have k0 : (0 : Int) ≤ (kk : Int) := Int.natCast_nonneg _
            have k1 : (kk : Int) < (n1 : Int) := by omega
            have e1 : IntKind.i64.wrap (pk * s) = pk * s := IntWalk.i64_in _ (by omega)
            clear hl hnext hs hpke
            go_wp2_with fail
            go_round
            case rel => exact ⟨kk + 1, by omega, by go_num, by rw [HNext.out]⟩
            case measure => simp [intOf]; omega
          · obtain rfl : n1 = kk := by omega
            have htk2 : (partsL Ls).take n1 = partsL Ls := List.take_of_length_le (Nat.le_of_eq HPL.out)
            have hpf2 : prodL (((partsL Ls).take n1).map List.sum) = pr := by rw [htk2]; exact HPF.out
            rw [hpf2]
            clear htk2 hpf2
            go_wp2_with fail
            go_loopw [16, 17] (fun nv kx w3 => ∃ kk : Nat, kk ≤ n1 ∧ kx = .int .i64 kk ∧ nv = .int .i64 ((((partsL Ls).take kk).map (shS nn pr)).sum) ∧ Below u2.heap.size u2 w3) (fun _ kx _ => n1 - (intOf kx).toNat)
            case atStart => exact ⟨0, Nat.zero_le _, rfl, by simp, Below.refl _ _⟩
            case round =>
              obtain ⟨kk, hkk, rfl, rfl, hb3⟩ := hrel
              obtain ⟨u3, rfl⟩ : ∃ u3 : World, u3 = wr := ⟨_, rfl⟩
              have HB3 := Lib.hid hb3
              have hsh := HSh.out kk
              obtain ⟨sh, hshe⟩ : ∃ sh, (((partsL Ls).take kk).map (shS nn pr)).sum = sh := ⟨_, rfl⟩
              have HShe := Lib.hid hshe
              rw [hshe] at hsh ⊢
              clear hb3 hshe
              by_cases hlt : kk < n1
              · obtain ⟨l, hl⟩ : ∃ l, (partsL Ls)[kk]? = some l := ⟨_, List.getElem?_eq_getElem (by rw [HPL.out]; exact hlt)⟩
                obtain ⟨h1, h2, h3⟩ := HOk.out.parts (List.mem_of_getElem? hl)
                have h4 := HOk.out.row h1
                have h5 := sq_le HOk.out.hm (HOk.out.len l h1) (HOk.out.pos l h1)
                rw [HPF.out] at h3
                have HSz3 := HSz.out.same (same_below HB3.out (Nat.le_refl _))
                have HSq3 := HSq2.out.same (same_below HB3.out (Nat.le_refl _))
                have hc1 : u3.cell? ⟨a1, kk, none⟩ = some (.int .i64 l.sum) := by rw [HSz3.own.cellAt kk (by omega)]; simp [hl]
                have hc2 : u3.cell? ⟨a2, kk, none⟩ = some (.int .i64 (sqL l)) := by rw [HSq3.own.cellAt kk (by omega)]; simp [hl]
                have hnext : (((partsL Ls).take (kk + 1)).map (shS nn pr)).sum = sh + sqL l * nn * (pr / l.sum) := by
                  have hk' : kk < (partsL Ls).length := by rw [HPL.out]; exact hlt
                  have e : (partsL Ls)[kk] = l := (List.getElem?_eq_some_iff.1 hl).2
                  rw [List.take_succ_eq_append_getElem hk', List.map_append, List.sum_append, HShe.out, e]
                  simp only [List.map_cons, List.map_nil, List.sum_cons, List.sum_nil, Int.add_zero]
                  rfl
                have hsh2 := HSh.out (kk + 1)
                rw [hnext] at hsh2
                obtain ⟨f1, f2, f3, f4, f5, f6⟩ := share_bd (q := sqL l) hnb hprb ⟨h2, h4.2.1⟩ h3 h5
                have HNext := Lib.hid hnext
                clear hnext h3 h5 h1 HSz3 HSq3
                obtain ⟨dv, hdv⟩ : ∃ dv, pr / l.sum = dv := ⟨_, rfl⟩
                have HDv := Lib.hid hdv
                rw [hdv] at f3 f4 f5 f6 HNext hsh2
                obtain ⟨s, hs⟩ : ∃ s, l.sum = s := ⟨_, rfl⟩
                obtain ⟨ql, hql⟩ : ∃ ql, sqL l = ql := ⟨_, rfl⟩
                have e4 : Int.tdiv pr s = dv := by rw [Int.tdiv_eq_ediv_of_nonneg (by omega), ← hs, hdv]
                rw [hs] at h2 h4 hc1
                rw [hql] at f1 f2 f5 f6 HNext hsh2 hc2
                have k0 : (0 : Int) ≤ (kk : Int) := Int.natCast_nonneg _
                have k1 : (kk : Int) < (n1 : Int) := by omega
                have hs0 : ¬ s = 0 := by omega
                have hsb0 : (s == 0) = false := beq_false_of_ne hs0
                have e3 : IntKind.i64.wrap (ql * nn) = ql * nn := IntWalk.i64_in _ (by omega)
                have e5 : IntKind.i64.wrap dv = dv := IntWalk.i64_in _ (by omega)
                have e6 : IntKind.i64.wrap (ql * nn * dv) = ql * nn * dv := IntWalk.i64_in _ (by omega)
                have e7 : IntKind.i64.wrap (sh + ql * nn * dv) = sh + ql * nn * dv := IntWalk.i64_in _ (by omega)
                clear hs hql hdv hl h2 h4
                go_wp2_with fail
                go_quiet (fail)
                clear hc1 hc2 k0 k1 e3 e4 e5 e6 e7
                go_wp2_with fail
                go_roundw
                case rel => exact ⟨kk + 1, by omega, by go_num, by rw [HNext.out], Below.trans HB3.out (Below.mono (B := u3.heap.size) (by repeat (first | exact Below.refl _ _ | apply below_drewN | apply Below.drew)) HB3.out.size)⟩
                case measure => simp [intOf]; omega
              · obtain rfl : n1 = kk := by omega
                have htk2 : (partsL Ls).take n1 = partsL Ls := List.take_of_length_le (Nat.le_of_eq HPL.out)
                have HF2 : Hid (sh - sq * pr = numI m Ls) := by
                  unfold Hid numI
                  rw [HNn.out, HPF.out, HSq.out, ← HShe.out, htk2]
                have hsp : 0 ≤ sq * pr ∧ sq * pr ≤ 998001 * 996005996001 := ⟨Int.mul_nonneg hsqb.1 (by omega), Int.mul_le_mul (by omega) hprb.2 (by omega) (by omega)⟩
                have n4 : IntKind.i64.wrap (sq * pr) = sq * pr := IntWalk.i64_in _ (by omega)
                have n6 : IntKind.i64.wrap (sh - sq * pr) = sh - sq * pr := IntWalk.i64_in _ (by omega)
                have m1_ : IntKind.i64.wrap (nn * nn) = nn * nn := IntWalk.i64_in _ (by omega)
                have n5 : IntKind.i64.wrap (nn * nn * pr) = nn * nn * pr := IntWalk.i64_in _ (by omega)
                have HW3 : Hid (Below w2.heap.size w2 u3) := HB2.out.trans (HB3.out.mono (by have := HB2.out.size; omega))
                have HAR3 : Hid (Rd u3 (some ⟨w2.heap.size, 0, none⟩) m ((allI m Ls).map (Value.int .i64))) := HAR.out.below HB3.out (Nat.le_refl _)
                clear htk2
                go_wp2_with fail
                refine (sSquares_any _ m m (allI m Ls) _ HAR3.out (by omega)).mono ?_
                rw [HSqI.out]
                rintro e u7 ⟨rfl, b7⟩
                have HW7 : Hid (Below w2.heap.size w2 u7) := HW3.out.trans (b7.mono (by have := HW3.out.size; omega))
                clear b7
                go_wp2_with fail
                refine (lift (sFracLow_any _ _ _) HW7.out (Nat.le_refl _)).mono ?_
                rintro e u9 ⟨rfl, hb9⟩
                have HB9 := Lib.hid hb9
                clear hb9
                have r0 : u9.cell? ⟨w.heap.size + 1 + 1 + 1, 0, none⟩ = some (.int .i64 0) := (HB9.out.cell (p := ⟨w.heap.size + 1 + 1 + 1, 0, none⟩) lr).trans (HRb.out.cells 0)
                have fr0 : u9.frozen? ⟨w.heap.size + 1 + 1 + 1, 0, none⟩ = false := (HB9.out.frozen (p := ⟨w.heap.size + 1 + 1 + 1, 0, none⟩) lr).trans (HRb.out.free 0)
                have r1 : u9.cell? ⟨w.heap.size + 1 + 1 + 1, 1, none⟩ = some (.int .i64 0) := (HB9.out.cell (p := ⟨w.heap.size + 1 + 1 + 1, 1, none⟩) lr).trans (HRb.out.cells 1)
                have fr1 : u9.frozen? ⟨w.heap.size + 1 + 1 + 1, 1, none⟩ = false := (HB9.out.frozen (p := ⟨w.heap.size + 1 + 1 + 1, 1, none⟩) lr).trans (HRb.out.free 1)
                have hB2 := (HAc.out.trans (HB9.out.mono (by omega)) : Below w.heap.size w u9)
                go_wp2_with ((with_reducible refine bodyPost_ret (v := .agg #[.int .i64 (lowN (sh - sq * pr) (nn * nn * pr)), .int .i64 (lowD (sh - sq * pr) (nn * nn * pr))]) ?k1 ?k2 ?k3); (case k1 => (simp [results, Try.results30, go_sem, r0, r1, fr0, fr1])); (case k2 => rfl); (case k3 => (exact ⟨by rw [HN0.out, HD0.out, HF2.out, HDen.out], by first | exact two_cells _ _ hB2 (by omega) | exact two_cells_drew _ _ hB2 (by omega)⟩)))

theorem sMerit_any (A C : Option Addr) (n c m d : Nat) (hs : List AH) (ats : List AD) (cs : List ByteArray) (T X : Option Addr) (q e0 p f0 : Nat) (gs : List Hd) (ts : List Int) (xss : List (List Int)) (w : World) (r : Sch w A C n m d hs ats cs) (s : Sta w T X q p gs ts xss) (fa ft : Int) :
    Calls Try.prog 30 #[.agg #[.slice A n c, .slice C m d], .agg #[.slice T q e0, .slice X p f0], .agg #[.int .i64 fa, .int .i64 ft]] w fun e w' => e = .returned (.agg #[.int .i64 (merN ats cs ts xss fa ft), .int .i64 (merD ats cs ts xss fa ft)]) ∧ Below w.heap.size w w' := by
  cases h : merB ats cs ts xss fa ft
  · exact sMerit_no A C n c m d hs ats cs T X q e0 p f0 gs ts xss w r s fa ft h
  · exact sMerit_yes A C n c m d hs ats cs T X q e0 p f0 gs ts xss w r s fa ft h

end Go.Proofs.Ytchkmcikpamdeaa
