/-
  Merit of impl.
-/
import Derived.Test.YtchkmcikpamdeaaMerB
import Derived.Test.YtchkmcikpamdeaaMerO
import Derived.Test.YtchkmcikpamdeaaSSW
import Derived.Deep.AppendLies
import Derived.BigQuiet
namespace Go.Proofs.Ytchkmcikpamdeaa
open Go.RowKit
set_option linter.unusedSimpArgs false
set_option linter.unusedVariables false

set_option maxHeartbeats 4000000 in
theorem iMerit_no (A C : Option Addr) (n c m d : Nat) (hs : List AH) (ats : List AD) (cs : List ByteArray) (T X : Option Addr) (q e0 p f0 : Nat) (gs : List Hd) (ts : List Int) (xss : List (List Int)) (w : World) (r : Sch w A C n m d hs ats cs) (s : Sta w T X q p gs ts xss) (fa ft : Int) (h : merB ats cs ts xss fa ft = false) :
    Calls Try.prog 29 #[.agg #[.slice A n c, .slice C m d], .agg #[.slice T q e0, .slice X p f0], .agg #[.int .i64 fa, .int .i64 ft]] w fun e w' => e = .returned (.agg #[.int .i64 (merN ats cs ts xss fa ft), .int .i64 (merD ats cs ts xss fa ft)]) ∧ Below w.heap.size w w' := by
  have R := Lib.hid r
  have S := Lib.hid s
  have HL := Lib.hid r.lenA; have HC := Lib.hid r.lenC
  have HT := Lib.hid s.lenT; have HX := Lib.hid s.lenX
  have hn := r.hn; have hq := s.hq; have hp := s.hp
  clear r s
  have HN : Hid (merN ats cs ts xss fa ft = 0) := by unfold Hid merN; rw [h]; rfl
  have HD : Hid (merD ats cs ts xss fa ft = 0) := by unfold Hid merD; rw [h]; rfl
  have HB := Lib.hid h
  clear h
  cases h0 : statsB ats cs ts xss
  · have H0 := Lib.hid h0
    clear h0
    have B0 := Below.refl w.heap.size w
    have s0 : w.heap.size ≤ w.heap.size := Nat.le_refl _
    go_enter Try.func29, Try.ntmps29
    have p_2 : Bx (w.alloc (.cells #[.slice A n c, .slice C m d] 40)) (w.heap.size) 40 #[.slice A n c, .slice C m d] := Bx.new _ _ _
    have B_2 := B0.alloc s0 (.cells #[.slice A n c, .slice C m d] 40)
    clear B0
    have cp_3 := p_2.cells
    have fp_3 := p_2.free
    clear cp_3 fp_3
    have p_4 := p_2.same (same_alloc (.cells #[.slice T q e0, .slice X p f0] 35) (by simp only [World.size_alloc]; omega))
    clear p_2
    have t_5 : Bx ((w.alloc (.cells #[.slice A n c, .slice C m d] 40)).alloc (.cells #[.slice T q e0, .slice X p f0] 35)) (w.heap.size + 1) 35 #[.slice T q e0, .slice X p f0] := by
      have h := Bx.new (w.alloc (.cells #[.slice A n c, .slice C m d] 40)) 35 #[.slice T q e0, .slice X p f0]
      simpa only [World.size_alloc] using h
    have B_5 := B_2.alloc (by simp only [World.size_alloc]; omega) (.cells #[.slice T q e0, .slice X p f0] 35)
    clear B_2
    have cp_6 := p_4.cells
    have fp_6 := p_4.free
    have ct_7 := t_5.cells
    have ft_7 := t_5.free
    clear cp_6 fp_6
    clear ct_7 ft_7
    have p_8 := p_4.same (same_alloc (.cells #[.int .i64 fa, .int .i64 ft] 55) (by simp only [World.size_alloc]; omega))
    clear p_4
    have t_8 := t_5.same (same_alloc (.cells #[.int .i64 fa, .int .i64 ft] 55) (by simp only [World.size_alloc]; omega))
    clear t_5
    have f_9 : Bx (((w.alloc (.cells #[.slice A n c, .slice C m d] 40)).alloc (.cells #[.slice T q e0, .slice X p f0] 35)).alloc (.cells #[.int .i64 fa, .int .i64 ft] 55)) (w.heap.size + 1 + 1) 55 #[.int .i64 fa, .int .i64 ft] := by
      have h := Bx.new ((w.alloc (.cells #[.slice A n c, .slice C m d] 40)).alloc (.cells #[.slice T q e0, .slice X p f0] 35)) 55 #[.int .i64 fa, .int .i64 ft]
      simpa only [World.size_alloc] using h
    have B_9 := B_5.alloc (by simp only [World.size_alloc]; omega) (.cells #[.int .i64 fa, .int .i64 ft] 55)
    clear B_5
    have cp_10 := p_8.cells
    have fp_10 := p_8.free
    have ct_11 := t_8.cells
    have ft_11 := t_8.free
    have cf_12 := f_9.cells
    have ff_12 := f_9.free
    clear cp_10 fp_10
    clear ct_11 ft_11
    clear cf_12 ff_12
    have p_13 := p_8.same (same_alloc (.cells #[.int .i64 0, .int .i64 0] 62) (by simp only [World.size_alloc]; omega))
    clear p_8
    have t_13 := t_8.same (same_alloc (.cells #[.int .i64 0, .int .i64 0] 62) (by simp only [World.size_alloc]; omega))
    clear t_8
    have f_13 := f_9.same (same_alloc (.cells #[.int .i64 0, .int .i64 0] 62) (by simp only [World.size_alloc]; omega))
    clear f_9
    have r_14 : Bx ((((w.alloc (.cells #[.slice A n c, .slice C m d] 40)).alloc (.cells #[.slice T q e0, .slice X p f0] 35)).alloc (.cells #[.int .i64 fa, .int .i64 ft] 55)).alloc (.cells #[.int .i64 0, .int .i64 0] 62)) (w.heap.size + 1 + 1 + 1) 62 #[.int .i64 0, .int .i64 0] := by
      have h := Bx.new (((w.alloc (.cells #[.slice A n c, .slice C m d] 40)).alloc (.cells #[.slice T q e0, .slice X p f0] 35)).alloc (.cells #[.int .i64 fa, .int .i64 ft] 55)) 62 #[.int .i64 0, .int .i64 0]
      simpa only [World.size_alloc] using h
    have B_14 := B_9.alloc (by simp only [World.size_alloc]; omega) (.cells #[.int .i64 0, .int .i64 0] 62)
    clear B_9
    have cp_15 := p_13.cells
    have fp_15 := p_13.free
    have ct_16 := t_13.cells
    have ft_16 := t_13.free
    have cf_17 := f_13.cells
    have ff_17 := f_13.free
    have cr_18 := r_14.cells
    have fr_18 := r_14.free
    go_wp2_with fail
    refine (iStatsOk_any _ _ _ _ _ _ _ ats cs _ _ _ _ _ _ _ ts xss _ (R.out.below B_14 (Nat.le_refl _)) (S.out.below B_14 (Nat.le_refl _))).mono ?_
    rw [H0.out]
    rintro e w1 ⟨rfl, b⟩
    clear cp_15 fp_15
    clear ct_16 ft_16
    clear cf_17 ff_17
    clear cr_18 fr_18
    simp only [World.size_alloc] at b
    have t_19 := b.size
    simp only [World.size_alloc] at t_19
    have z_19 : w.heap.size ≤ w1.heap.size := by omega
    have p_20 := p_13.same (same_below b (by omega))
    clear p_13
    have t_20 := t_13.same (same_below b (by omega))
    clear t_13
    have f_20 := f_13.same (same_below b (by omega))
    clear f_13
    have r_20 := r_14.same (same_below b (by omega))
    clear r_14
    have B_19 := B_14.trans (b.mono (by omega))
    clear B_14 b
    have cp_21 := p_20.cells
    have fp_21 := p_20.free
    have ct_22 := t_20.cells
    have ft_22 := t_20.free
    have cf_23 := f_20.cells
    have ff_23 := f_20.free
    have cr_24 := r_20.cells
    have fr_24 := r_20.free
    go_wp2_with fail
    have r0 := r_20.cells 0; have r1 := r_20.cells 1; have fr0 := r_20.free 0; have fr1 := r_20.free 1
    have hB2 := B_19
    simp at r0 r1
    refine bodyPost_ret (v := .agg #[.int .i64 0, .int .i64 0]) (by simp [results, Try.results29, go_sem, r0, r1, fr0, fr1]) rfl ⟨by rw [HN.out, HD.out], ?_⟩
    go_grown
  · have H0 := Lib.hid h0
    clear h0
    by_cases hp0 : p = 0
    · subst hp0
      have B0 := Below.refl w.heap.size w
      have s0 : w.heap.size ≤ w.heap.size := Nat.le_refl _
      go_enter Try.func29, Try.ntmps29
      have p_2 : Bx (w.alloc (.cells #[.slice A n c, .slice C m d] 40)) (w.heap.size) 40 #[.slice A n c, .slice C m d] := Bx.new _ _ _
      have B_2 := B0.alloc s0 (.cells #[.slice A n c, .slice C m d] 40)
      clear B0
      have cp_3 := p_2.cells
      have fp_3 := p_2.free
      clear cp_3 fp_3
      have p_4 := p_2.same (same_alloc (.cells #[.slice T q e0, .slice X 0 f0] 35) (by simp only [World.size_alloc]; omega))
      clear p_2
      have t_5 : Bx ((w.alloc (.cells #[.slice A n c, .slice C m d] 40)).alloc (.cells #[.slice T q e0, .slice X 0 f0] 35)) (w.heap.size + 1) 35 #[.slice T q e0, .slice X 0 f0] := by
        have h := Bx.new (w.alloc (.cells #[.slice A n c, .slice C m d] 40)) 35 #[.slice T q e0, .slice X 0 f0]
        simpa only [World.size_alloc] using h
      have B_5 := B_2.alloc (by simp only [World.size_alloc]; omega) (.cells #[.slice T q e0, .slice X 0 f0] 35)
      clear B_2
      have cp_6 := p_4.cells
      have fp_6 := p_4.free
      have ct_7 := t_5.cells
      have ft_7 := t_5.free
      clear cp_6 fp_6
      clear ct_7 ft_7
      have p_8 := p_4.same (same_alloc (.cells #[.int .i64 fa, .int .i64 ft] 55) (by simp only [World.size_alloc]; omega))
      clear p_4
      have t_8 := t_5.same (same_alloc (.cells #[.int .i64 fa, .int .i64 ft] 55) (by simp only [World.size_alloc]; omega))
      clear t_5
      have f_9 : Bx (((w.alloc (.cells #[.slice A n c, .slice C m d] 40)).alloc (.cells #[.slice T q e0, .slice X 0 f0] 35)).alloc (.cells #[.int .i64 fa, .int .i64 ft] 55)) (w.heap.size + 1 + 1) 55 #[.int .i64 fa, .int .i64 ft] := by
        have h := Bx.new ((w.alloc (.cells #[.slice A n c, .slice C m d] 40)).alloc (.cells #[.slice T q e0, .slice X 0 f0] 35)) 55 #[.int .i64 fa, .int .i64 ft]
        simpa only [World.size_alloc] using h
      have B_9 := B_5.alloc (by simp only [World.size_alloc]; omega) (.cells #[.int .i64 fa, .int .i64 ft] 55)
      clear B_5
      have cp_10 := p_8.cells
      have fp_10 := p_8.free
      have ct_11 := t_8.cells
      have ft_11 := t_8.free
      have cf_12 := f_9.cells
      have ff_12 := f_9.free
      clear cp_10 fp_10
      clear ct_11 ft_11
      clear cf_12 ff_12
      have p_13 := p_8.same (same_alloc (.cells #[.int .i64 0, .int .i64 0] 62) (by simp only [World.size_alloc]; omega))
      clear p_8
      have t_13 := t_8.same (same_alloc (.cells #[.int .i64 0, .int .i64 0] 62) (by simp only [World.size_alloc]; omega))
      clear t_8
      have f_13 := f_9.same (same_alloc (.cells #[.int .i64 0, .int .i64 0] 62) (by simp only [World.size_alloc]; omega))
      clear f_9
      have r_14 : Bx ((((w.alloc (.cells #[.slice A n c, .slice C m d] 40)).alloc (.cells #[.slice T q e0, .slice X 0 f0] 35)).alloc (.cells #[.int .i64 fa, .int .i64 ft] 55)).alloc (.cells #[.int .i64 0, .int .i64 0] 62)) (w.heap.size + 1 + 1 + 1) 62 #[.int .i64 0, .int .i64 0] := by
        have h := Bx.new (((w.alloc (.cells #[.slice A n c, .slice C m d] 40)).alloc (.cells #[.slice T q e0, .slice X 0 f0] 35)).alloc (.cells #[.int .i64 fa, .int .i64 ft] 55)) 62 #[.int .i64 0, .int .i64 0]
        simpa only [World.size_alloc] using h
      have B_14 := B_9.alloc (by simp only [World.size_alloc]; omega) (.cells #[.int .i64 0, .int .i64 0] 62)
      clear B_9
      have cp_15 := p_13.cells
      have fp_15 := p_13.free
      have ct_16 := t_13.cells
      have ft_16 := t_13.free
      have cf_17 := f_13.cells
      have ff_17 := f_13.free
      have cr_18 := r_14.cells
      have fr_18 := r_14.free
      go_wp2_with fail
      refine (iStatsOk_any _ _ _ _ _ _ _ ats cs _ _ _ _ _ _ _ ts xss _ (R.out.below B_14 (Nat.le_refl _)) (S.out.below B_14 (Nat.le_refl _))).mono ?_
      rw [H0.out]
      rintro e w1 ⟨rfl, b⟩
      clear cp_15 fp_15
      clear ct_16 ft_16
      clear cf_17 ff_17
      clear cr_18 fr_18
      simp only [World.size_alloc] at b
      have t_19 := b.size
      simp only [World.size_alloc] at t_19
      have z_19 : w.heap.size ≤ w1.heap.size := by omega
      have p_20 := p_13.same (same_below b (by omega))
      clear p_13
      have t_20 := t_13.same (same_below b (by omega))
      clear t_13
      have f_20 := f_13.same (same_below b (by omega))
      clear f_13
      have r_20 := r_14.same (same_below b (by omega))
      clear r_14
      have B_19 := B_14.trans (b.mono (by omega))
      clear B_14 b
      have cp_21 := p_20.cells
      have fp_21 := p_20.free
      have ct_22 := t_20.cells
      have ft_22 := t_20.free
      have cf_23 := f_20.cells
      have ff_23 := f_20.free
      have cr_24 := r_20.cells
      have fr_24 := r_20.free
      go_wp2_with fail
      have r0 := r_20.cells 0; have r1 := r_20.cells 1; have fr0 := r_20.free 0; have fr1 := r_20.free 1
      have hB2 := B_19
      simp at r0 r1
      refine bodyPost_ret (v := .agg #[.int .i64 0, .int .i64 0]) (by simp [results, Try.results29, go_sem, r0, r1, fr0, fr1]) rfl ⟨by rw [HN.out, HD.out], ?_⟩
      go_grown
    · have HFk : Hid (forkB ats cs fa ft = false) := by
        have hh := HB.out
        unfold merB at hh
        rw [H0.out, decide_eq_true (by rw [HX.out]; exact hp0)] at hh
        simpa [Hid] using hh
      have hp0' : ¬ (p : Int) = 0 := by omega
      have hpb : ((p : Int) == 0) = false := beq_false_of_ne hp0'
      have hpd : decide ((p : Int) = 0) = false := decide_eq_false hp0'
      have B0 := Below.refl w.heap.size w
      have s0 : w.heap.size ≤ w.heap.size := Nat.le_refl _
      go_enter Try.func29, Try.ntmps29
      have p_2 : Bx (w.alloc (.cells #[.slice A n c, .slice C m d] 40)) (w.heap.size) 40 #[.slice A n c, .slice C m d] := Bx.new _ _ _
      have B_2 := B0.alloc s0 (.cells #[.slice A n c, .slice C m d] 40)
      clear B0
      have cp_3 := p_2.cells
      have fp_3 := p_2.free
      clear cp_3 fp_3
      have p_4 := p_2.same (same_alloc (.cells #[.slice T q e0, .slice X p f0] 35) (by simp only [World.size_alloc]; omega))
      clear p_2
      have t_5 : Bx ((w.alloc (.cells #[.slice A n c, .slice C m d] 40)).alloc (.cells #[.slice T q e0, .slice X p f0] 35)) (w.heap.size + 1) 35 #[.slice T q e0, .slice X p f0] := by
        have h := Bx.new (w.alloc (.cells #[.slice A n c, .slice C m d] 40)) 35 #[.slice T q e0, .slice X p f0]
        simpa only [World.size_alloc] using h
      have B_5 := B_2.alloc (by simp only [World.size_alloc]; omega) (.cells #[.slice T q e0, .slice X p f0] 35)
      clear B_2
      have cp_6 := p_4.cells
      have fp_6 := p_4.free
      have ct_7 := t_5.cells
      have ft_7 := t_5.free
      clear cp_6 fp_6
      clear ct_7 ft_7
      have p_8 := p_4.same (same_alloc (.cells #[.int .i64 fa, .int .i64 ft] 55) (by simp only [World.size_alloc]; omega))
      clear p_4
      have t_8 := t_5.same (same_alloc (.cells #[.int .i64 fa, .int .i64 ft] 55) (by simp only [World.size_alloc]; omega))
      clear t_5
      have f_9 : Bx (((w.alloc (.cells #[.slice A n c, .slice C m d] 40)).alloc (.cells #[.slice T q e0, .slice X p f0] 35)).alloc (.cells #[.int .i64 fa, .int .i64 ft] 55)) (w.heap.size + 1 + 1) 55 #[.int .i64 fa, .int .i64 ft] := by
        have h := Bx.new ((w.alloc (.cells #[.slice A n c, .slice C m d] 40)).alloc (.cells #[.slice T q e0, .slice X p f0] 35)) 55 #[.int .i64 fa, .int .i64 ft]
        simpa only [World.size_alloc] using h
      have B_9 := B_5.alloc (by simp only [World.size_alloc]; omega) (.cells #[.int .i64 fa, .int .i64 ft] 55)
      clear B_5
      have cp_10 := p_8.cells
      have fp_10 := p_8.free
      have ct_11 := t_8.cells
      have ft_11 := t_8.free
      have cf_12 := f_9.cells
      have ff_12 := f_9.free
      clear cp_10 fp_10
      clear ct_11 ft_11
      clear cf_12 ff_12
      have p_13 := p_8.same (same_alloc (.cells #[.int .i64 0, .int .i64 0] 62) (by simp only [World.size_alloc]; omega))
      clear p_8
      have t_13 := t_8.same (same_alloc (.cells #[.int .i64 0, .int .i64 0] 62) (by simp only [World.size_alloc]; omega))
      clear t_8
      have f_13 := f_9.same (same_alloc (.cells #[.int .i64 0, .int .i64 0] 62) (by simp only [World.size_alloc]; omega))
      clear f_9
      have r_14 : Bx ((((w.alloc (.cells #[.slice A n c, .slice C m d] 40)).alloc (.cells #[.slice T q e0, .slice X p f0] 35)).alloc (.cells #[.int .i64 fa, .int .i64 ft] 55)).alloc (.cells #[.int .i64 0, .int .i64 0] 62)) (w.heap.size + 1 + 1 + 1) 62 #[.int .i64 0, .int .i64 0] := by
        have h := Bx.new (((w.alloc (.cells #[.slice A n c, .slice C m d] 40)).alloc (.cells #[.slice T q e0, .slice X p f0] 35)).alloc (.cells #[.int .i64 fa, .int .i64 ft] 55)) 62 #[.int .i64 0, .int .i64 0]
        simpa only [World.size_alloc] using h
      have B_14 := B_9.alloc (by simp only [World.size_alloc]; omega) (.cells #[.int .i64 0, .int .i64 0] 62)
      clear B_9
      have cp_15 := p_13.cells
      have fp_15 := p_13.free
      have ct_16 := t_13.cells
      have ft_16 := t_13.free
      have cf_17 := f_13.cells
      have ff_17 := f_13.free
      have cr_18 := r_14.cells
      have fr_18 := r_14.free
      go_wp2_with fail
      refine (iStatsOk_any _ _ _ _ _ _ _ ats cs _ _ _ _ _ _ _ ts xss _ (R.out.below B_14 (Nat.le_refl _)) (S.out.below B_14 (Nat.le_refl _))).mono ?_
      rw [H0.out]
      rintro e w1 ⟨rfl, b⟩
      clear cp_15 fp_15
      clear ct_16 ft_16
      clear cf_17 ff_17
      clear cr_18 fr_18
      simp only [World.size_alloc] at b
      have t_19 := b.size
      simp only [World.size_alloc] at t_19
      have z_19 : w.heap.size ≤ w1.heap.size := by omega
      have p_20 := p_13.same (same_below b (by omega))
      clear p_13
      have t_20 := t_13.same (same_below b (by omega))
      clear t_13
      have f_20 := f_13.same (same_below b (by omega))
      clear f_13
      have r_20 := r_14.same (same_below b (by omega))
      clear r_14
      have B_19 := B_14.trans (b.mono (by omega))
      clear B_14 b
      have cp_21 := p_20.cells
      have fp_21 := p_20.free
      have ct_22 := t_20.cells
      have ft_22 := t_20.free
      have cf_23 := f_20.cells
      have ff_23 := f_20.free
      have cr_24 := r_20.cells
      have fr_24 := r_20.free
      go_wp2_with fail
      refine (iForkOk_any _ _ _ _ _ _ _ ats cs fa ft _ (R.out.below B_19 (Nat.le_refl _))).mono ?_
      rw [HFk.out]
      rintro e w2 ⟨rfl, b⟩
      clear cp_21 fp_21
      clear ct_22 ft_22
      clear cf_23 ff_23
      clear cr_24 fr_24
      have t_25 := b.size
      have z_25 : w.heap.size ≤ w2.heap.size := by omega
      have p_26 := p_20.same (same_below b (by omega))
      clear p_20
      have t_26 := t_20.same (same_below b (by omega))
      clear t_20
      have f_26 := f_20.same (same_below b (by omega))
      clear f_20
      have r_26 := r_20.same (same_below b (by omega))
      clear r_20
      have B_25 := B_19.trans (b.mono (by omega))
      clear B_19 b
      have cp_27 := p_26.cells
      have fp_27 := p_26.free
      have ct_28 := t_26.cells
      have ft_28 := t_26.free
      have cf_29 := f_26.cells
      have ff_29 := f_26.free
      have cr_30 := r_26.cells
      have fr_30 := r_26.free
      go_wp2_with fail
      have r0 := r_26.cells 0; have r1 := r_26.cells 1; have fr0 := r_26.free 0; have fr1 := r_26.free 1
      have hB2 := B_25
      simp at r0 r1
      refine bodyPost_ret (v := .agg #[.int .i64 0, .int .i64 0]) (by simp [results, Try.results29, go_sem, r0, r1, fr0, fr1]) rfl ⟨by rw [HN.out, HD.out], ?_⟩
      go_grown

set_option maxRecDepth 20000 in
set_option maxHeartbeats 8000000 in
theorem iMerit_yes (A C : Option Addr) (n c m d : Nat) (hs : List AH) (ats : List AD) (cs : List ByteArray) (T X : Option Addr) (q e0 p f0 : Nat) (gs : List Hd) (ts : List Int) (xss : List (List Int)) (w : World) (r : Sch w A C n m d hs ats cs) (s : Sta w T X q p gs ts xss) (fa ft : Int) (h : merB ats cs ts xss fa ft = true) :
    Calls Try.prog 29 #[.agg #[.slice A n c, .slice C m d], .agg #[.slice T q e0, .slice X p f0], .agg #[.int .i64 fa, .int .i64 ft]] w fun e w' => e = .returned (.agg #[.int .i64 (merN ats cs ts xss fa ft), .int .i64 (merD ats cs ts xss fa ft)]) ∧ Below w.heap.size w w' := by
  have R := Lib.hid r
  have S := Lib.hid s
  have HL := Lib.hid r.lenA; have HC := Lib.hid r.lenC
  have HT := Lib.hid s.lenT; have HX := Lib.hid s.lenX
  have hn := r.hn; have hq := s.hq; have hp := s.hp
  clear r s
  have HN : Hid (merN ats cs ts xss fa ft = if (allI cs.length (brLs ats cs xss fa ft)).sum = 0 then 0 else lowN (numI cs.length (brLs ats cs xss fa ft)) (denI cs.length (brLs ats cs xss fa ft))) := by unfold Hid merN; rw [if_pos h]
  have HD : Hid (merD ats cs ts xss fa ft = if (allI cs.length (brLs ats cs xss fa ft)).sum = 0 then 1 else lowD (numI cs.length (brLs ats cs xss fa ft)) (denI cs.length (brLs ats cs xss fa ft))) := by unfold Hid merD; rw [if_pos h]
  have hok := mer_ok h
  obtain ⟨h0, hp1, hf, hm, htl, hts, k, row, a, nb, rfl, haa, hrow, hnb, _, hn4, hrl, hbr⟩ := mer_row h
  have hbd := brI_bd ats cs (k : Nat) ft
  obtain ⟨N, hN⟩ : ∃ N : Nat, brI ats cs (k : Nat) ft = (N : Nat) := ⟨(brI ats cs (k : Nat) ft).toNat, by omega⟩
  rw [hN] at hbd
  have hget : ∀ i, i < N → (brLs ats cs xss (k : Nat) ft)[i]? = some (btI ats cs xss (k : Nat) ft (i : Nat)) := fun i hi => brLs_get (by rw [hN]; exact hi)
  have hll : (brLs ats cs xss (k : Nat) ft).length = N := by rw [brLs_len, hN]; rfl
  have hrun : ∀ i : Nat, runL cs.length row.length (selRow cs.length (brSel ats cs (k : Nat) ft (i : Nat)) row) = (btI ats cs xss (k : Nat) ft (i : Nat)).map (Value.int .i64) := fun i => by
    rw [← btL_int]; unfold btL
    rw [show xss.getD ((k : Int)).toNat [] = row by simp [List.getD, hrow]]
  have hbtb : ∀ i, i < N → btB ats cs ts xss (k : Nat) ft (i : Nat) = true := fun i hi => by
    unfold btB; rw [h0, decide_eq_true hp1, hN, Bool.true_and, Bool.true_and, inB_iff]; omega
  generalize brLs ats cs xss (k : Nat) ft = Ls at HN HD hok hget hll
  rw [HX.out] at hp1
  rw [HC.out] at hm hrl HN HD hok hrun
  have hm' : m ≤ 3 := by omega
  have hN4 : N ≤ 4 := by omega
  have H0 := Lib.hid h0; have HRow := Lib.hid hrow; have HRl := Lib.hid hrl; have HBr := Lib.hid hbr; have HFk := Lib.hid hf; have HZ := Lib.hid hN; have HOk := Lib.hid hok; have HGet := Lib.hid hget; have HLl := Lib.hid hll; have HRun := Lib.hid hrun; have HBtb := Lib.hid hbtb
  have hp0 : ¬ p = 0 := hp1
  have hp0' : ¬ (p : Int) = 0 := by omega
  have hpb : ((p : Int) == 0) = false := beq_false_of_ne hp0'
  have hpd : decide ((p : Int) = 0) = false := decide_eq_false hp0'
  clear h h0 hrow hrl hbr hp1 hf haa hnb hok hget hll hrun hN hbtb htl hts hbd
  obtain ⟨i0, hi0, hz0, hz1, hz2⟩ := info_parts info_IntSS
  have HJ := Lib.hid hi0; have HJ0 := Lib.hid hz0; have HJ1 := Lib.hid hz1; have HJ2 := Lib.hid hz2
  clear hi0 hz0 hz1 hz2
  have B0 := Below.refl w.heap.size w
  have s0 : w.heap.size ≤ w.heap.size := Nat.le_refl _
  go_enter Try.func29, Try.ntmps29
  have p_2 : Bx (w.alloc (.cells #[.slice A n c, .slice C m d] 40)) (w.heap.size) 40 #[.slice A n c, .slice C m d] := Bx.new _ _ _
  have B_2 := B0.alloc s0 (.cells #[.slice A n c, .slice C m d] 40)
  clear B0
  have cp_3 := p_2.cells
  have fp_3 := p_2.free
  clear cp_3 fp_3
  have p_4 := p_2.same (same_alloc (.cells #[.slice T q e0, .slice X p f0] 35) (by simp only [World.size_alloc]; omega))
  clear p_2
  have t_5 : Bx ((w.alloc (.cells #[.slice A n c, .slice C m d] 40)).alloc (.cells #[.slice T q e0, .slice X p f0] 35)) (w.heap.size + 1) 35 #[.slice T q e0, .slice X p f0] := by
    have h := Bx.new (w.alloc (.cells #[.slice A n c, .slice C m d] 40)) 35 #[.slice T q e0, .slice X p f0]
    simpa only [World.size_alloc] using h
  have B_5 := B_2.alloc (by simp only [World.size_alloc]; omega) (.cells #[.slice T q e0, .slice X p f0] 35)
  clear B_2
  have cp_6 := p_4.cells
  have fp_6 := p_4.free
  have ct_7 := t_5.cells
  have ft_7 := t_5.free
  clear cp_6 fp_6
  clear ct_7 ft_7
  have p_8 := p_4.same (same_alloc (.cells #[.int .i64 (k : Nat), .int .i64 ft] 55) (by simp only [World.size_alloc]; omega))
  clear p_4
  have t_8 := t_5.same (same_alloc (.cells #[.int .i64 (k : Nat), .int .i64 ft] 55) (by simp only [World.size_alloc]; omega))
  clear t_5
  have f_9 : Bx (((w.alloc (.cells #[.slice A n c, .slice C m d] 40)).alloc (.cells #[.slice T q e0, .slice X p f0] 35)).alloc (.cells #[.int .i64 (k : Nat), .int .i64 ft] 55)) (w.heap.size + 1 + 1) 55 #[.int .i64 (k : Nat), .int .i64 ft] := by
    have h := Bx.new ((w.alloc (.cells #[.slice A n c, .slice C m d] 40)).alloc (.cells #[.slice T q e0, .slice X p f0] 35)) 55 #[.int .i64 (k : Nat), .int .i64 ft]
    simpa only [World.size_alloc] using h
  have B_9 := B_5.alloc (by simp only [World.size_alloc]; omega) (.cells #[.int .i64 (k : Nat), .int .i64 ft] 55)
  clear B_5
  have cp_10 := p_8.cells
  have fp_10 := p_8.free
  have ct_11 := t_8.cells
  have ft_11 := t_8.free
  have cf_12 := f_9.cells
  have ff_12 := f_9.free
  clear cp_10 fp_10
  clear ct_11 ft_11
  clear cf_12 ff_12
  have p_13 := p_8.same (same_alloc (.cells #[.int .i64 0, .int .i64 0] 62) (by simp only [World.size_alloc]; omega))
  clear p_8
  have t_13 := t_8.same (same_alloc (.cells #[.int .i64 0, .int .i64 0] 62) (by simp only [World.size_alloc]; omega))
  clear t_8
  have f_13 := f_9.same (same_alloc (.cells #[.int .i64 0, .int .i64 0] 62) (by simp only [World.size_alloc]; omega))
  clear f_9
  have r_14 : Bx ((((w.alloc (.cells #[.slice A n c, .slice C m d] 40)).alloc (.cells #[.slice T q e0, .slice X p f0] 35)).alloc (.cells #[.int .i64 (k : Nat), .int .i64 ft] 55)).alloc (.cells #[.int .i64 0, .int .i64 0] 62)) (w.heap.size + 1 + 1 + 1) 62 #[.int .i64 0, .int .i64 0] := by
    have h := Bx.new (((w.alloc (.cells #[.slice A n c, .slice C m d] 40)).alloc (.cells #[.slice T q e0, .slice X p f0] 35)).alloc (.cells #[.int .i64 (k : Nat), .int .i64 ft] 55)) 62 #[.int .i64 0, .int .i64 0]
    simpa only [World.size_alloc] using h
  have B_14 := B_9.alloc (by simp only [World.size_alloc]; omega) (.cells #[.int .i64 0, .int .i64 0] 62)
  clear B_9
  have cp_15 := p_13.cells
  have fp_15 := p_13.free
  have ct_16 := t_13.cells
  have ft_16 := t_13.free
  have cf_17 := f_13.cells
  have ff_17 := f_13.free
  have cr_18 := r_14.cells
  have fr_18 := r_14.free
  go_wp2_with fail
  refine (iStatsOk_any _ _ _ _ _ _ _ ats cs _ _ _ _ _ _ _ ts xss _ (R.out.below B_14 (Nat.le_refl _)) (S.out.below B_14 (Nat.le_refl _))).mono ?_
  rw [H0.out]
  rintro e w1 ⟨rfl, b⟩
  clear cp_15 fp_15
  clear ct_16 ft_16
  clear cf_17 ff_17
  clear cr_18 fr_18
  simp only [World.size_alloc] at b
  have t_19 := b.size
  simp only [World.size_alloc] at t_19
  have z_19 : w.heap.size ≤ w1.heap.size := by omega
  have p_20 := p_13.same (same_below b (by omega))
  clear p_13
  have t_20 := t_13.same (same_below b (by omega))
  clear t_13
  have f_20 := f_13.same (same_below b (by omega))
  clear f_13
  have r_20 := r_14.same (same_below b (by omega))
  clear r_14
  have B_19 := B_14.trans (b.mono (by omega))
  clear B_14 b
  have cp_21 := p_20.cells
  have fp_21 := p_20.free
  have ct_22 := t_20.cells
  have ft_22 := t_20.free
  have cf_23 := f_20.cells
  have ff_23 := f_20.free
  have cr_24 := r_20.cells
  have fr_24 := r_20.free
  go_wp2_with fail
  refine (iForkOk_any _ _ _ _ _ _ _ ats cs (k : Nat) ft _ (R.out.below B_19 (Nat.le_refl _))).mono ?_
  rw [HFk.out]
  rintro e w2 ⟨rfl, b⟩
  clear cp_21 fp_21
  clear ct_22 ft_22
  clear cf_23 ff_23
  clear cr_24 fr_24
  have t_25 := b.size
  have z_25 : w.heap.size ≤ w2.heap.size := by omega
  have p_26 := p_20.same (same_below b (by omega))
  clear p_20
  have t_26 := t_20.same (same_below b (by omega))
  clear t_20
  have f_26 := f_20.same (same_below b (by omega))
  clear f_20
  have r_26 := r_20.same (same_below b (by omega))
  clear r_20
  have B_25 := B_19.trans (b.mono (by omega))
  clear B_19 b
  have cp_27 := p_26.cells
  have fp_27 := p_26.free
  have ct_28 := t_26.cells
  have ft_28 := t_26.free
  have cf_29 := f_26.cells
  have ff_29 := f_26.free
  have cr_30 := r_26.cells
  have fr_30 := r_26.free
  go_wp2_with fail
  refine (iZeros_any m _ (by omega)).mono ?_
  rintro e w3 ⟨g5, rfl, o, b⟩
  clear cp_27 fp_27
  clear ct_28 ft_28
  clear cf_29 ff_29
  clear cr_30 fr_30
  have t_31 := b.size
  have z_31 : w.heap.size ≤ w3.heap.size := by omega
  have p_32 := p_26.same (same_below b (by omega))
  clear p_26
  have t_32 := t_26.same (same_below b (by omega))
  clear t_26
  have f_32 := f_26.same (same_below b (by omega))
  clear f_26
  have r_32 := r_26.same (same_below b (by omega))
  clear r_26
  have B_31 := B_25.trans (b.mono (by omega))
  clear B_25 b
  have all_31 := Ow.of o
  clear o
  have cp_33 := p_32.cells
  have fp_33 := p_32.free
  have ct_34 := t_32.cells
  have ft_34 := t_32.free
  have cf_35 := f_32.cells
  have ff_35 := f_32.free
  have cr_36 := r_32.cells
  have fr_36 := r_32.free
  clear cp_33 fp_33
  clear ct_34 ft_34
  clear cf_35 ff_35
  clear cr_36 fr_36
  have p_37 := p_32.same (same_alloc (.cells #[] 26) (by omega))
  clear p_32
  have t_37 := t_32.same (same_alloc (.cells #[] 26) (by omega))
  clear t_32
  have f_37 := f_32.same (same_alloc (.cells #[] 26) (by omega))
  clear f_32
  have r_37 := r_32.same (same_alloc (.cells #[] 26) (by omega))
  clear r_32
  have all_37 := all_31.same (same_alloc (.cells #[] 26) (by omega))
  clear all_31
  have pl_38 : Bx (w3.alloc (.cells #[] 26)) (w3.heap.size) 26 #[] := Bx.new _ _ _
  have B_38 := B_31.alloc z_31 (.cells #[] 26)
  clear B_31
  have cp_39 := p_37.cells
  have fp_39 := p_37.free
  have ct_40 := t_37.cells
  have ft_40 := t_37.free
  have cf_41 := f_37.cells
  have ff_41 := f_37.free
  have cr_42 := r_37.cells
  have fr_42 := r_37.free
  have cpl_43 := pl_38.cells
  have fpl_43 := pl_38.free
  go_wp2_with fail
  refine (iBranches_any _ _ _ _ _ _ _ ats cs (k : Nat) ft _ (R.out.below B_38 (Nat.le_refl _))).mono ?_
  rw [HZ.out]
  rintro e w4 ⟨rfl, b⟩
  clear cp_39 fp_39
  clear ct_40 ft_40
  clear cf_41 ff_41
  clear cr_42 fr_42
  clear cpl_43 fpl_43
  simp only [World.size_alloc] at b
  have t_44 := b.size
  simp only [World.size_alloc] at t_44
  have z_44 : w.heap.size ≤ w4.heap.size := by omega
  have p_45 := p_37.same (same_below b (by omega))
  clear p_37
  have t_45 := t_37.same (same_below b (by omega))
  clear t_37
  have f_45 := f_37.same (same_below b (by omega))
  clear f_37
  have r_45 := r_37.same (same_below b (by omega))
  clear r_37
  have all_45 := all_37.same (same_below b (by omega))
  clear all_37
  have pl_45 := pl_38.same (same_below b (by omega))
  clear pl_38
  have B_44 := B_38.trans (b.mono (by omega))
  clear B_38 b
  have cp_46 := p_45.cells
  have fp_46 := p_45.free
  have ct_47 := t_45.cells
  have ft_47 := t_45.free
  have cf_48 := f_45.cells
  have ff_48 := f_45.free
  have cr_49 := r_45.cells
  have fr_49 := r_45.free
  have cpl_50 := pl_45.cells
  have fpl_50 := pl_45.free
  have HAc := Lib.hid B_44; have HP := Lib.hid p_45; have HTb := Lib.hid t_45; have HF := Lib.hid f_45; have HRb := Lib.hid r_45
  have lp : w.heap.size < w2.heap.size := by omega
  have lt_ : w.heap.size + 1 < w2.heap.size := by omega
  have lf : w.heap.size + 1 + 1 < w2.heap.size := by omega
  have lr : w.heap.size + 1 + 1 + 1 < w2.heap.size := by omega
  have hV := B_44.size
  have HAll0 : Hid (Ow 3 w2.heap.size (w3.heap.size) w4 (some ⟨g5, 0, none⟩) m m (rowV m (aF (Ls.take 0)))) := by unfold Hid; rw [List.take_zero, show rowV m (aF []) = rowV m (fun _ => 0) from rowV_ext fun j _ => aF_nil j, rowV_zero]; exact all_45
  have HPar0 : Hid (OwSS (w3.heap.size) w4.heap.size w4 (some ⟨w3.heap.size, 0, none⟩) 0 0 [] (iss (partsL (Ls.take 0)))) := by
    refine ⟨⟨⟨rfl, .inr ⟨w3.heap.size, 0, #[], rfl, Nat.le_refl _, pl_45, Nat.le_refl _, by simp [maxLen], rfl, rfl⟩⟩, fun k hk => ?_⟩, rfl, RowsOw.nil _ _ _ _, by simp⟩
    simp only [Value.ownBlock, Option.some.injEq] at hk; subst hk; omega
  have hHi : w3.heap.size ≤ w4.heap.size := by omega
  have hLo : w2.heap.size ≤ w3.heap.size := by omega
  go_wp2_with fail
  clear cp_46 fp_46 ct_47 ft_47 cf_48 ff_48 cr_49 fr_49 cpl_50 fpl_50
  go_loopw [8, 9, 45] (fun pv pr ix wr => ∃ (i : Nat) (A1 : Option Addr) (n1 c1 : Nat) (g1 : List Hd), i ≤ N ∧ pv = .slice A1 n1 c1 ∧ pr = .int .i64 (prI (Ls.take i)) ∧ ix = .int .i64 i ∧ Ow 3 w2.heap.size (w3.heap.size) wr (some ⟨g5, 0, none⟩) m m (rowV m (aF (Ls.take i))) ∧ OwSS (w3.heap.size) wr.heap.size wr A1 n1 c1 g1 (iss (partsL (Ls.take i))) ∧ Below w2.heap.size w4 wr) (fun _ _ ix _ => N - (intOf ix).toNat)
  case atStart => exact ⟨0, _, 0, 0, [], Nat.zero_le _, rfl, by simp [prI, partsL, prodL], rfl, HAll0.out, HPar0.out, Below.refl _ _⟩
  case round =>
    obtain ⟨i, A1, n1, c1, g1, hi, rfl, rfl, rfl, hall, hpar, hbel⟩ := hrel
    obtain ⟨wo, rfl⟩ : ∃ wo : World, wo = wr := ⟨_, rfl⟩
    have HAll := Lib.hid hall; have HPar := Lib.hid hpar; have HBel := Lib.hid hbel
    have HW : Hid (Below w.heap.size w wo) := HAc.out.trans (hbel.mono (by omega))
    have hzr := hbel.size
    have hHiR : w3.heap.size ≤ wo.heap.size := by omega
    obtain ⟨pr, hpr⟩ : ∃ pr, prI (Ls.take i) = pr := ⟨_, rfl⟩
    have HPI := Lib.hid hpr
    rw [hpr]
    clear hall hpar hbel hpr
    by_cases hlt : i < N
    · have hlt' : (i : Int) < (N : Int) := by omega
      have p0 : wo.cell? ⟨w.heap.size, 0, none⟩ = some (.slice A n c) := (HBel.out.cell (p := ⟨w.heap.size, 0, none⟩) lp).trans (HP.out.cells 0)
      have p1 : wo.cell? ⟨w.heap.size, 1, none⟩ = some (.slice C m d) := (HBel.out.cell (p := ⟨w.heap.size, 1, none⟩) lp).trans (HP.out.cells 1)
      have t0 : wo.cell? ⟨w.heap.size + 1, 0, none⟩ = some (.slice T q e0) := (HBel.out.cell (p := ⟨w.heap.size + 1, 0, none⟩) lt_).trans (HTb.out.cells 0)
      have t1 : wo.cell? ⟨w.heap.size + 1, 1, none⟩ = some (.slice X p f0) := (HBel.out.cell (p := ⟨w.heap.size + 1, 1, none⟩) lt_).trans (HTb.out.cells 1)
      have q0 : wo.cell? ⟨w.heap.size + 1 + 1, 0, none⟩ = some (.int .i64 (k : Nat)) := (HBel.out.cell (p := ⟨w.heap.size + 1 + 1, 0, none⟩) lf).trans (HF.out.cells 0)
      have q1 : wo.cell? ⟨w.heap.size + 1 + 1, 1, none⟩ = some (.int .i64 ft) := (HBel.out.cell (p := ⟨w.heap.size + 1 + 1, 1, none⟩) lf).trans (HF.out.cells 1)
      go_wp2_with fail
      refine (ibrTot_any _ _ _ _ _ _ _ ats cs _ _ _ _ _ _ _ ts xss _ (R.out.below HW.out (Nat.le_refl _)) (S.out.below HW.out (Nat.le_refl _)) k ft (i : Nat) row nb HRow.out HRl.out HBr.out hm hn4).mono ?_
      rintro e u3 ⟨g6, rfl, o, b⟩
      rw [HRun.out i] at o
      have hget := HGet.out i hlt
      obtain ⟨l, hl⟩ : ∃ l, btI ats cs xss (k : Nat) ft (i : Nat) = l := ⟨_, rfl⟩
      rw [hl] at o hget
      have hmem := List.mem_of_getElem? hget
      have hrw := HOk.out.row hmem
      have HLm : Hid (l.length = m) := HOk.out.len l hmem
      have HLb : Hid (∀ x ∈ l, 0 ≤ x ∧ x ≤ 999) := hrw.2.2
      have HLs : Hid (0 ≤ l.sum ∧ l.sum ≤ 999) := ⟨hrw.1, hrw.2.1⟩
      have HTk : Hid (Ls.take i ++ [l] = Ls.take (i + 1)) := by
        unfold Hid
        have hi' : i < Ls.length := by rw [HLl.out]; exact hlt
        have e : Ls[i] = l := (List.getElem?_eq_some_iff.1 hget).2
        rw [List.take_succ_eq_append_getElem hi', e]
      have HL3 : Hid (Ow 3 wo.heap.size u3.heap.size u3 (some ⟨g6, 0, none⟩) m m (l.map (Value.int .i64))) := Ow.of o
      have HAll3 : Hid (Ow 3 w2.heap.size (w3.heap.size) u3 (some ⟨g5, 0, none⟩) m m (rowV m (addF (Ls.take i) l 0))) := by unfold Hid; rw [← addF_zero]; exact HAll.out.same (same_below b (by omega))
      have HPar3 := Lib.hid (HPar.out.same (same_below b (Nat.le_refl _)))
      have HB3 : Hid (Below w2.heap.size w4 u3) := HBel.out.trans (b.mono (by omega))
      have hz3 := b.size
      clear hl hget hmem hrw o b HAll HPar HBel HW p0 p1 t0 t1 q0 q1
      go_wp2_with fail
      go_loopw [55] (fun jx u4 => ∃ j : Nat, j ≤ m ∧ jx = .int .i64 j ∧ Ow 3 w2.heap.size (w3.heap.size) u4 (some ⟨g5, 0, none⟩) m m (rowV m (addF (Ls.take i) l j)) ∧ Only w2.heap.size (w3.heap.size) u3 u4) (fun jx _ => m - (intOf jx).toNat)
      case atStart => exact ⟨0, Nat.zero_le _, rfl, HAll3.out, Only.refl _ _ _⟩
      case round =>
        obtain ⟨j, hj, rfl, hal, hon⟩ := hrel
        obtain ⟨u4, rfl⟩ : ∃ u4 : World, u4 = wr := ⟨_, rfl⟩
        have HAl := Lib.hid hal; have HOn := Lib.hid hon
        have HL4 : Hid (Ow 3 wo.heap.size u3.heap.size u4 (some ⟨g6, 0, none⟩) m m (l.map (Value.int .i64))) := HL3.out.same (same_only HOn.out (Or.inr hHiR) (Nat.le_refl _))
        clear hal hon
        by_cases hlj : j < m
        · obtain ⟨x, hx⟩ : ∃ x, l[j]? = some x := ⟨_, List.getElem?_eq_getElem (by rw [HLm.out]; exact hlj)⟩
          have hxb := HLb.out x (List.mem_of_getElem? hx)
          have hcell : u4.cell? ⟨g6, j, none⟩ = some (.int .i64 x) := by rw [HL4.out.own.cellAt j (by omega)]; simp [hx]
          obtain ⟨s, hs⟩ : ∃ s, aF (Ls.take i) j = s := ⟨_, rfl⟩
          have hsb := aF_bd (HOk.out.take i) hlj
          rw [hs] at hsb
          have hsc : u4.cell? ⟨g5, j, none⟩ = some (.int .i64 s) := by rw [HAl.out.own.cellAt j (by omega), rowV_get hlj, addF_at, hs]
          have hfr : u4.frozen? ⟨g5, j, none⟩ = false := HAl.out.own.frozenAt j
          obtain ⟨hs1, hs2⟩ := HAl.out.own.stored j (.int .i64 (s + x))
          have hset := addF_set (Ls := Ls.take i) hlj hx
          rw [hs] at hset
          rw [hset] at hs1
          have HA9 : Hid (Ow 3 w2.heap.size (w3.heap.size) (u4.setCell ⟨g5, j, none⟩ (.int .i64 (s + x))) (some ⟨g5, 0, none⟩) m m (rowV m (addF (Ls.take i) l (j + 1)))) := ⟨hs1, HAl.out.top⟩
          have HO9 : Hid (Only w2.heap.size (w3.heap.size) u3 (u4.setCell ⟨g5, j, none⟩ (.int .i64 (s + x)))) := HOn.out.trans (HAl.out.only hs2)
          have n0 : (0 : Int) ≤ (j : Int) := Int.natCast_nonneg _
          have n1 : (j : Int) < (m : Int) := by omega
          have n2 : IntKind.i64.wrap (s + x) = s + x := IntWalk.i64_in _ (by omega)
          clear hx hs hs1 hs2 hset
          go_wp2_with fail
          go_roundw
          case rel => exact ⟨j + 1, by omega, by go_num, HA9.out, HO9.out⟩
          case measure => simp [intOf]; omega
        · obtain rfl : m = j := by omega
          have hall : rowV m (addF (Ls.take i) l m) = rowV m (aF (Ls.take (i + 1))) := by rw [addF_all, HTk.out]
          have HA5 : Hid (Ow 3 w2.heap.size (w3.heap.size) u4 (some ⟨g5, 0, none⟩) m m (rowV m (aF (Ls.take (i + 1))))) := by unfold Hid; rw [← hall]; exact HAl.out
          have HP5 := Lib.hid (HPar3.out.same (same_only HOn.out (Or.inr (Nat.le_refl _)) (by omega)))
          have hz4 := HOn.out.size
          have HB5 : Hid (Below w2.heap.size w4 u4) := HB3.out.trans (HOn.out.below (Nat.le_refl _) (by omega))
          clear hall HAl HOn HPar3 HB3 HAll3
          obtain ⟨s, hs⟩ : ∃ s, l.sum = s := ⟨_, rfl⟩
          have HS := Lib.hid hs
          have hsb := HLs.out
          rw [hs] at hsb
          clear hs
          go_wp2_with fail
          refine (iTotal_any _ m m l _ HL4.out.rd (by omega) HLb.out).mono ?_
          rw [HS.out]
          rintro e u5 ⟨rfl, rfl⟩
          by_cases hs0 : 0 < s
          · have hn1 : n1 ≤ 4 := by
              have h1 := HP5.out.len
              rw [iss_len] at h1
              have h2 : (partsL (Ls.take i)).length ≤ (Ls.take i).length := List.length_filter_le _ _
              rw [List.length_take] at h2
              omega
            have HPr : Hid (prI (Ls.take (i + 1)) = pr * s) := by
              unfold Hid
              rw [← HTk.out]
              show prodL ((partsL (Ls.take i ++ [l])).map List.sum) = _
              rw [parts_yes (by rw [HS.out]; exact hs0), List.map_append, List.map_cons, List.map_nil, prod_snoc, HS.out, ← HPI.out]
              rfl
            have hprb := (HOk.out.take (i + 1)).pr
            rw [HPr.out] at hprb
            have HPs : Hid (iss (partsL (Ls.take i)) ++ [l.map (Value.int .i64)] = iss (partsL (Ls.take (i + 1)))) := by
              unfold Hid
              rw [← HTk.out, parts_yes (by rw [HS.out]; exact hs0)]
              simp [iss]
            go_wp2_with (at_builtin; refine wpList_append_lies _ rfl _ _ 27 rfl (w3.heap.size) 26 i0 (.slice none 0 0) 1 24 Try.underlying27 HJ.out HJ0.out HJ1.out HJ2.out rfl (by decide) (.slice A1 n1 c1) n1 (g1.map hdV) rfl (HP5.out.hd.own.alloc _) ⟨u4.heap.size, 0, none⟩ 1 1 [.slice (some ⟨g6, 0, none⟩) m m] rfl rfl ?c1 ?c2 (by omega) ?c3 ?c4 ?c5 _ rfl ?_)
            case c1 => exact cell_one_new _ _ _
            case c2 => intro u hu; simp at hu; subst hu; rfl
            case c3 => unfold maxLen; omega
            case c4 => omega
            case c5 => simp only [World.size_alloc]; omega
            intro g7 cap7 u6 hown7 hgrow7 hat7 hlt7
            have HP7 : Hid (OwSS (w3.heap.size) u6.heap.size u6 (some ⟨g7, 0, none⟩) (n1 + 1) cap7 (g1 ++ [(some ⟨g6, 0, none⟩, m, m)]) (iss (partsL (Ls.take (i + 1))))) := by
              unfold Hid
              rw [← HPs.out]
              refine OwSS.push (w := u4.alloc (.cells #[.slice (some ⟨g6, 0, none⟩) m m] 26)) (x := (some ⟨g6, 0, none⟩, m, m)) (HP5.out.same (same_alloc _ (by omega))) (HL4.out.same (same_alloc _ (by omega))) hHiR (Nat.le_refl _) hz3 (by simp only [World.size_alloc]; omega) hown7 hgrow7 ?_
              rcases hat7 with h | h
              · exact .inl h
              · exact .inr (by simp only [World.size_alloc]; omega)
            have hpb5 : ∀ kk, (Value.slice A1 n1 c1).ownBlock = some kk → w3.heap.size ≤ kk := fun kk hk => (HP5.out.hd.own.lt kk hk).1
            have HA7 : Hid (Ow 3 w2.heap.size (w3.heap.size) u6 (some ⟨g5, 0, none⟩) m m (rowV m (aF (Ls.take (i + 1))))) := (HA5.out.same (same_alloc _ (by omega))).grown hgrow7 (fun g hg e => by have h1 := HA5.out.top g hg; have h2 := hpb5 g e; omega)
            have HB7 : Hid (Below w2.heap.size w4 u6) := Below.grown (HB5.out.alloc (by omega) _) hgrow7 (by simp only [World.size_alloc]; omega) (fun kk hk => by have := hpb5 kk hk; omega)
            have hz6 := hgrow7.size
            simp only [World.size_alloc] at hz6
            have n2 : IntKind.i64.wrap (pr * s) = pr * s := IntWalk.i64_in _ (by omega)
            clear hown7 hgrow7 hat7 HA5 HP5 HB5 hpb5
            go_wp2_with fail
            go_roundw
            case rel => exact ⟨i + 1, _, _, _, _, by omega, rfl, by rw [HPr.out], by go_num, HA7.out, HP7.out, HB7.out⟩
            case measure => simp [intOf]; omega
          · have HPs : Hid (partsL (Ls.take (i + 1)) = partsL (Ls.take i)) := by
              unfold Hid
              rw [← HTk.out]; exact parts_no (by rw [HS.out]; exact hs0)
            have hs0' : s ≤ 0 := by omega
            have hsd : decide (0 < s) = false := decide_eq_false hs0
            go_wp2_with fail
            go_roundw
            case rel => exact ⟨i + 1, _, _, _, g1, by omega, rfl, by unfold prI; rw [HPs.out, ← HPI.out]; rfl, by go_num, HA5.out, by rw [HPs.out]; exact HP5.out.wide (Nat.le_refl _) (by omega), HB5.out⟩
            case measure => simp [intOf]; omega
    · obtain rfl : N = i := by omega
      have htk : Ls.take N = Ls := List.take_of_length_le (Nat.le_of_eq HLl.out)
      rw [htk] at HAll HPar
      have HPF : Hid (prI Ls = pr) := by have := HPI.out; rwa [htk] at this
      obtain ⟨nn, hnn⟩ : ∃ nn, (allI m Ls).sum = nn := ⟨_, rfl⟩
      have HNn := Lib.hid hnn
      have hnb : 0 ≤ nn ∧ nn ≤ 999 := by
        have h1 := all_sum HOk.out
        have h2 := HOk.out.tot
        have h3 := sum_pos (fun x hx => (all_bd HOk.out x hx).1)
        omega
      have HAR : Hid (Rd wo (some ⟨g5, 0, none⟩) m ((allI m Ls).map (Value.int .i64))) := by unfold Hid; rw [← rowV_all]; exact HAll.out.rd
      have HAB : Hid (∀ x ∈ allI m Ls, 0 ≤ x ∧ x ≤ 999) := all_bd HOk.out
      clear hnn htk
      go_wp2_with fail
      refine (iTotal_any _ m m (allI m Ls) _ HAR.out (by omega) HAB.out).mono ?_
      rw [HNn.out]
      rintro e u5 ⟨rfl, rfl⟩
      by_cases hn0 : nn = 0
      · have HN0 : Hid (merN ats cs ts xss (k : Nat) ft = 0) := by unfold Hid; rw [HN.out, HNn.out, if_pos hn0]
        have HD0 : Hid (merD ats cs ts xss (k : Nat) ft = 1) := by unfold Hid; rw [HD.out, HNn.out, if_pos hn0]
        subst hn0
        have r0 : wo.cell? ⟨w.heap.size + 1 + 1 + 1, 0, none⟩ = some (.int .i64 0) := (HBel.out.cell (p := ⟨w.heap.size + 1 + 1 + 1, 0, none⟩) lr).trans (HRb.out.cells 0)
        have fr0 : wo.frozen? ⟨w.heap.size + 1 + 1 + 1, 0, none⟩ = false := (HBel.out.frozen (p := ⟨w.heap.size + 1 + 1 + 1, 0, none⟩) lr).trans (HRb.out.free 0)
        have r1 : wo.cell? ⟨w.heap.size + 1 + 1 + 1, 1, none⟩ = some (.int .i64 0) := (HBel.out.cell (p := ⟨w.heap.size + 1 + 1 + 1, 1, none⟩) lr).trans (HRb.out.cells 1)
        have fr1 : wo.frozen? ⟨w.heap.size + 1 + 1 + 1, 1, none⟩ = false := (HBel.out.frozen (p := ⟨w.heap.size + 1 + 1 + 1, 1, none⟩) lr).trans (HRb.out.free 1)
        have hB2 := HW.out
        go_wp2_with ((with_reducible refine bodyPost_ret (v := .agg #[.int .i64 0, .int .i64 1]) ?k1 ?k2 ?k3); (case k1 => (simp [results, Try.results29, go_sem, r0, r1, fr0, fr1])); (case k2 => rfl); (case k3 => (exact ⟨by rw [HN0.out, HD0.out], by first | exact two_cells _ _ hB2 (by omega) | exact two_cells_drew _ _ hB2 (by omega)⟩)))
      · have HN0 : Hid (merN ats cs ts xss (k : Nat) ft = lowN (numI m Ls) (denI m Ls)) := by unfold Hid; rw [HN.out, HNn.out, if_neg hn0]
        have HD0 : Hid (merD ats cs ts xss (k : Nat) ft = lowD (numI m Ls) (denI m Ls)) := by unfold Hid; rw [HD.out, HNn.out, if_neg hn0]
        have hnb2 : (nn == 0) = false := beq_false_of_ne hn0
        have hnd2 : decide (nn = 0) = false := decide_eq_false hn0
        have hprb := HOk.out.pr
        rw [HPF.out] at hprb
        have hnnb : 0 ≤ nn * nn ∧ nn * nn ≤ 998001 := ⟨Int.mul_nonneg hnb.1 hnb.1, by have := Int.mul_le_mul hnb.2 hnb.2 hnb.1 (by omega); omega⟩
        have HDen : Hid (denI m Ls = nn * nn * pr) := by unfold Hid denI; rw [HNn.out, HPF.out]
        have hden : 0 ≤ nn * nn * pr ∧ nn * nn * pr ≤ 998001 * 996005996001 := ⟨Int.mul_nonneg hnnb.1 (by omega), Int.mul_le_mul hnnb.2 hprb.2 (by omega) (by omega)⟩
        obtain ⟨sq, hsq⟩ : ∃ sq, sqL (allI m Ls) = sq := ⟨_, rfl⟩
        have hsqb := sq_le HOk.out.hm (allI_len (Ls := Ls)) (fun x hx => (HAB.out x hx).1)
        rw [HNn.out, hsq] at hsqb
        have HSq := Lib.hid hsq
        have HSqI : Hid (sqI (allI m Ls) = sq) := by unfold Hid; rw [← hsq]; exact sqI_in (by rw [allI_len]; exact hm') HAB.out
        clear hsq
        have HNum : Hid ((nn * nn - sq) * pr - ((partsL Ls).map (shI nn pr)).sum = numI m Ls) := by
          have h := num_impl HOk.out
          rw [HNn.out, HSq.out, HPF.out] at h
          exact h
        obtain ⟨bs, hbs⟩ : ∃ bs, (nn * nn - sq) * pr = bs := ⟨_, rfl⟩
        have hbsb : 0 ≤ bs ∧ bs ≤ 998001 * 996005996001 := by
          rw [← hbs]
          exact ⟨Int.mul_nonneg (by omega) (by omega), Int.mul_le_mul (by omega) hprb.2 (by omega) (by omega)⟩
        have m1_ : IntKind.i64.wrap (nn * nn) = nn * nn := IntWalk.i64_in _ (by omega)
        have m2_ : IntKind.i64.wrap (nn * nn - sq) = nn * nn - sq := IntWalk.i64_in _ (by omega)
        have m3_ : IntKind.i64.wrap ((nn * nn - sq) * pr) = bs := by rw [hbs]; exact IntWalk.i64_in _ (by omega)
        have HBs := Lib.hid hbs
        clear hbs
        go_wp2_with fail
        refine (iSquares_any _ m m (allI m Ls) _ HAR.out (by omega)).mono ?_
        rw [HSqI.out]
        rintro e u5 ⟨rfl, rfl⟩
        have HRP := Lib.hid HPar.out.rd
        have HPL := Lib.hid (show (partsL Ls).length = n1 by have := HPar.out.len; rwa [iss_len] at this)
        have hn1 : n1 ≤ 4 := by
          have h1 := HPL.out
          have h2 : (partsL Ls).length ≤ Ls.length := List.length_filter_le _ _
          rw [HLl.out] at h2
          omega
        have HSh : Hid (∀ kk, 0 ≤ (((partsL Ls).take kk).map (shI nn pr)).sum ∧ (((partsL Ls).take kk).map (shI nn pr)).sum ≤ 994014980014994001 * 4) := by
          intro kk
          have h := sum4 (f := shI nn pr) (C := 994014980014994001) (ps := (partsL Ls).take kk) fun l hl => by
            obtain ⟨h1, h2, h3⟩ := HOk.out.parts (List.mem_of_mem_take hl)
            have h4 := HOk.out.row h1
            have h5 := sq_le HOk.out.hm (HOk.out.len l h1) (HOk.out.pos l h1)
            rw [HPF.out] at h3
            obtain ⟨_, _, _, _, h6, h7⟩ := share_bd hnb hprb ⟨h2, h4.2.1⟩ h3 (q := l.sum * l.sum - sqL l) (by omega)
            exact ⟨h6, h7⟩
          have hl : (((partsL Ls).take kk).length : Int) ≤ 4 := by rw [List.length_take, HPL.out]; omega
          omega
        go_wp2_with fail
        go_loopw [16, 95] (fun nv kx u2 => ∃ kk : Nat, kk ≤ n1 ∧ kx = .int .i64 kk ∧ nv = .int .i64 (bs - (((partsL Ls).take kk).map (shI nn pr)).sum) ∧ Below wo.heap.size wo u2) (fun _ kx _ => n1 - (intOf kx).toNat)
        case atStart => exact ⟨0, Nat.zero_le _, rfl, by simp, Below.refl _ _⟩
        case round =>
          obtain ⟨kk, hkk, rfl, rfl, hb2⟩ := hrel
          obtain ⟨u2, rfl⟩ : ∃ u2 : World, u2 = wr := ⟨_, rfl⟩
          have HB2 := Lib.hid hb2
          have hsh := HSh.out kk
          obtain ⟨sh, hshe⟩ : ∃ sh, (((partsL Ls).take kk).map (shI nn pr)).sum = sh := ⟨_, rfl⟩
          have HShe := Lib.hid hshe
          rw [hshe] at hsh ⊢
          clear hb2 hshe
          by_cases hlt : kk < n1
          · obtain ⟨y, vs, hy, hv, hrd, hvl⟩ := HRP.out.get hlt
            obtain ⟨b2, o2, rfl, lb2, e2⟩ := HRP.out.head hlt hy
            obtain ⟨l, hl, rfl⟩ := iss_get' hv
            obtain ⟨ya, yn, yc⟩ := y
            simp only [List.length_map] at hvl hrd e2
            obtain ⟨h1, h2, h3⟩ := HOk.out.parts (List.mem_of_getElem? hl)
            have h4 := HOk.out.row h1
            have h5 := sq_le HOk.out.hm (HOk.out.len l h1) (HOk.out.pos l h1)
            have hym : yn = m := by rw [← hvl]; exact HOk.out.len l h1
            subst hym
            rw [HPF.out] at h3
            obtain ⟨s, hs⟩ : ∃ s, l.sum = s := ⟨_, rfl⟩
            obtain ⟨ql, hql⟩ : ∃ ql, sqL l = ql := ⟨_, rfl⟩
            rw [hs] at h2 h3 h4 h5
            rw [hql] at h5
            obtain ⟨f1, f2, f3, f4, f5, f6⟩ := share_bd (q := s * s - ql) hnb hprb ⟨h2, h4.2.1⟩ h3 (by omega)
            have hss : s * s ≤ 998001 := by have := Int.mul_le_mul h4.2.1 h4.2.1 h4.1 (by omega); omega
            have HS := Lib.hid hs
            have HQ : Hid (sqI l = ql) := by unfold Hid; rw [← hql]; exact sqI_in (by rw [hvl]; exact hm') h4.2.2
            have HLb : Hid (∀ x ∈ l, 0 ≤ x ∧ x ≤ 999) := h4.2.2
            have HRd := Lib.hid (hrd.below HB2.out (Nat.le_refl _))
            have hhead : u2.cell? ⟨b2, o2 + kk, none⟩ = some (.slice ya yn yc) := (HB2.out.cell (p := ⟨b2, o2 + kk, none⟩) lb2).trans e2
            have HNext : Hid ((((partsL Ls).take (kk + 1)).map (shI nn pr)).sum = sh + (s * s - ql) * nn * (pr / s)) := by
              unfold Hid
              have hk' : kk < (partsL Ls).length := by rw [HPL.out]; exact hlt
              have e : (partsL Ls)[kk] = l := (List.getElem?_eq_some_iff.1 hl).2
              rw [List.take_succ_eq_append_getElem hk', List.map_append, List.sum_append, HShe.out, e]
              simp only [List.map_cons, List.map_nil, List.sum_cons, List.sum_nil, Int.add_zero]
              unfold shI
              rw [hs, hql]
            have hsh2 := HSh.out (kk + 1)
            rw [HNext.out] at hsh2
            obtain ⟨dv, hdv⟩ : ∃ dv, pr / s = dv := ⟨_, rfl⟩
            rw [hdv] at f3 f4 f5 f6 HNext hsh2
            have k0 : (0 : Int) ≤ (kk : Int) := Int.natCast_nonneg _
            have k1 : (kk : Int) < (n1 : Int) := by omega
            have hs0 : ¬ s = 0 := by omega
            have hsb0 : (s == 0) = false := beq_false_of_ne hs0
            have e1 : IntKind.i64.wrap (s * s) = s * s := IntWalk.i64_in _ (by omega)
            have e2' : IntKind.i64.wrap (s * s - ql) = s * s - ql := IntWalk.i64_in _ (by omega)
            have e3 : IntKind.i64.wrap ((s * s - ql) * nn) = (s * s - ql) * nn := IntWalk.i64_in _ (by omega)
            have e4 : Int.tdiv pr s = dv := by rw [Int.tdiv_eq_ediv_of_nonneg (by omega), hdv]
            have e5 : IntKind.i64.wrap dv = dv := IntWalk.i64_in _ (by omega)
            have e6 : IntKind.i64.wrap ((s * s - ql) * nn * dv) = (s * s - ql) * nn * dv := IntWalk.i64_in _ (by omega)
            have e7 : IntKind.i64.wrap (bs - sh - (s * s - ql) * nn * dv) = bs - sh - (s * s - ql) * nn * dv := IntWalk.i64_in _ (by omega)
            clear hs hql hdv hy hv hrd e2 hl h1 h3 h5 hvl
            go_wp2_with fail
            refine (iTotal_any _ yn yc l _ HRd.out (by omega) HLb.out).mono ?_
            rw [HS.out]
            rintro e u5 ⟨rfl, rfl⟩
            go_wp2_with fail
            go_quiet ((go_at_call 75; exact Calls.quiet_of_same ((iSquares_any _ yn yc l _ (HRd.out.below (by repeat (first | exact Below.refl _ _ | apply below_drewN | apply Below.drew)) (Nat.le_refl _)) (by omega)).mono fun _ _ ⟨a1, a2⟩ => ⟨by rw [a1, HQ.out], a2.symm⟩)))
            clear hhead k0 k1 e1 e2' e3 e4 e5 e6 e7
            go_wp2_with fail
            go_roundw
            case rel => exact ⟨kk + 1, by omega, by go_num, by rw [HNext.out]; congr 1; omega, Below.trans HB2.out (Below.mono (B := u2.heap.size) (by repeat (first | exact Below.refl _ _ | apply below_drewN | apply Below.drew)) HB2.out.size)⟩
            case measure => simp [intOf]; omega
          · obtain rfl : kk = n1 := by omega
            have htk2 : (partsL Ls).take kk = partsL Ls := List.take_of_length_le (Nat.le_of_eq HPL.out)
            have HF2 : Hid (bs - sh = numI m Ls) := by
              unfold Hid
              rw [← HNum.out, HBs.out, ← HShe.out, htk2]
            have n5 : IntKind.i64.wrap (nn * nn * pr) = nn * nn * pr := IntWalk.i64_in _ (by omega)
            have HWx : Hid (Below w2.heap.size w4 u2) := HBel.out.trans (HB2.out.mono (by have := HBel.out.size; omega))
            clear htk2
            go_wp2_with fail
            refine (lift (iFracLow_any _ _ _) HWx.out (by omega)).mono ?_
            rintro e u9 ⟨rfl, hb9⟩
            have HB9 := Lib.hid hb9
            clear hb9
            have r0 : u9.cell? ⟨w.heap.size + 1 + 1 + 1, 0, none⟩ = some (.int .i64 0) := (HB9.out.cell (p := ⟨w.heap.size + 1 + 1 + 1, 0, none⟩) lr).trans (HRb.out.cells 0)
            have fr0 : u9.frozen? ⟨w.heap.size + 1 + 1 + 1, 0, none⟩ = false := (HB9.out.frozen (p := ⟨w.heap.size + 1 + 1 + 1, 0, none⟩) lr).trans (HRb.out.free 0)
            have r1 : u9.cell? ⟨w.heap.size + 1 + 1 + 1, 1, none⟩ = some (.int .i64 0) := (HB9.out.cell (p := ⟨w.heap.size + 1 + 1 + 1, 1, none⟩) lr).trans (HRb.out.cells 1)
            have fr1 : u9.frozen? ⟨w.heap.size + 1 + 1 + 1, 1, none⟩ = false := (HB9.out.frozen (p := ⟨w.heap.size + 1 + 1 + 1, 1, none⟩) lr).trans (HRb.out.free 1)
            have hB2 := (HAc.out.trans (HB9.out.mono (by omega)) : Below w.heap.size w u9)
            go_wp2_with ((with_reducible refine bodyPost_ret (v := .agg #[.int .i64 (lowN (bs - sh) (nn * nn * pr)), .int .i64 (lowD (bs - sh) (nn * nn * pr))]) ?k1 ?k2 ?k3); (case k1 => (simp [results, Try.results29, go_sem, r0, r1, fr0, fr1])); (case k2 => rfl); (case k3 => (exact ⟨by rw [HN0.out, HD0.out, HF2.out, HDen.out], by first | exact two_cells _ _ hB2 (by omega) | exact two_cells_drew _ _ hB2 (by omega)⟩)))

theorem iMerit_any (A C : Option Addr) (n c m d : Nat) (hs : List AH) (ats : List AD) (cs : List ByteArray) (T X : Option Addr) (q e0 p f0 : Nat) (gs : List Hd) (ts : List Int) (xss : List (List Int)) (w : World) (r : Sch w A C n m d hs ats cs) (s : Sta w T X q p gs ts xss) (fa ft : Int) :
    Calls Try.prog 29 #[.agg #[.slice A n c, .slice C m d], .agg #[.slice T q e0, .slice X p f0], .agg #[.int .i64 fa, .int .i64 ft]] w fun e w' => e = .returned (.agg #[.int .i64 (merN ats cs ts xss fa ft), .int .i64 (merD ats cs ts xss fa ft)]) ∧ Below w.heap.size w w' := by
  cases h : merB ats cs ts xss fa ft
  · exact iMerit_no A C n c m d hs ats cs T X q e0 p f0 gs ts xss w r s fa ft h
  · exact iMerit_yes A C n c m d hs ats cs T X q e0 p f0 gs ts xss w r s fa ft h

end Go.Proofs.Ytchkmcikpamdeaa
