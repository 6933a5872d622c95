/-
  BranchTotals of spec.
-/
import Derived.Test.YtchkmcikpamdeaaBTotI
import Derived.Test.YtchkmcikpamdeaaStatOk
import Derived.StillTailTactics
namespace Go.Proofs.Ytchkmcikpamdeaa
open Go.RowKit
set_option linter.unusedSimpArgs false
set_option linter.unusedVariables false

/-- The sums after b bins, and the first k of the next. -/
def runS (m b k : Nat) (row : List Int) : List Value := (List.range m).map fun j => .int .i64 (colB m j row (if j < k then b + 1 else b))
theorem runS_zero (m : Nat) (row : List Int) : runS m 0 0 row = List.replicate m (Value.int .i64 0) := by
  unfold runS
  rw [List.eq_replicate_iff]
  refine ⟨by simp, fun x hx => ?_⟩
  obtain ⟨j, _, rfl⟩ := List.mem_map.1 hx
  simp [colB]
theorem runS_get {m b k j : Nat} {row : List Int} (hj : j < m) : (runS m b k row)[j]? = some (.int .i64 (colB m j row (if j < k then b + 1 else b))) := by
  unfold runS; rw [List.getElem?_map, List.getElem?_range hj, Option.map_some]
theorem runS_set {m b k : Nat} {row : List Int} {x : Int} (hk : k < m) (hx : row[b * m + k]? = some x) : (runS m b k row).set k (.int .i64 (colB m k row b + x)) = runS m b (k + 1) row := by
  apply List.ext_getElem?
  intro j
  have hl : (runS m b k row).length = m := by simp [runS]
  by_cases hj : j < m
  · rw [runS_get hj]
    by_cases h : k = j
    · subst h
      rw [List.getElem?_set_self (by omega), if_pos (by omega)]
      have : row.getD (b * m + k) 0 = x := by simp [List.getD, hx]
      show _ = some (Value.int .i64 (colB m k row b + row.getD (b * m + k) 0))
      rw [this]
    · rw [List.getElem?_set_ne h, runS_get hj]
      congr 3
      by_cases h1 : j < k
      · rw [if_pos h1, if_pos (by omega)]
      · rw [if_neg h1, if_neg (by omega)]
  · rw [List.getElem?_eq_none (by simp [runS]; omega), List.getElem?_eq_none (by simp [runS]; omega)]
theorem runS_next {m b : Nat} {row : List Int} : runS m b m row = runS m (b + 1) 0 row := by
  unfold runS; apply List.map_congr_left; intro j hj
  rw [if_pos (List.mem_range.1 hj), if_neg (by omega)]
theorem runS_skip {m b : Nat} {row : List Int} (h : ∀ j, j < m → row.getD (b * m + j) 0 = 0) : runS m (b + 1) 0 row = runS m b 0 row := by
  unfold runS; apply List.map_congr_left; intro j hj
  rw [if_neg (by omega), if_neg (by omega)]
  show Value.int .i64 (colB m j row b + row.getD (b * m + j) 0) = _
  rw [h j (List.mem_range.1 hj), Int.add_zero]
theorem runS_all {m b : Nat} {row : List Int} (hm : m = 2 ∨ m = 3) : runS m b 0 row = runL m (b * m) row := by
  unfold runS runL; apply List.map_congr_left; intro j hj
  rw [if_neg (by omega)]; unfold runC; rw [cntC_all hm (List.mem_range.1 hj)]
theorem sel_at {m b j nb : Nat} {sel : Nat → Bool} {row : List Int} (hj : j < m) (hb : b < nb) (hl : row.length = nb * m) : ∃ x, row[b * m + j]? = some x ∧ (selRow m sel row)[b * m + j]? = some (if sel b then x else 0) := by
  have h1 : b * m + j < row.length := by
    rw [hl]
    have : (b + 1) * m ≤ nb * m := Nat.mul_le_mul_right m hb
    rw [Nat.succ_mul] at this; omega
  have hx : row[b * m + j]? = some row[b * m + j] := List.getElem?_eq_getElem h1
  refine ⟨_, hx, ?_⟩
  rw [selRow_get hx, show (b * m + j) / m = b by rw [Nat.mul_comm, Nat.mul_add_div (by omega), Nat.div_eq_of_lt hj, Nat.add_zero]]

set_option maxHeartbeats 4000000 in
theorem sBranchTotals_no (A C : Option Addr) (n c m d : Nat) (hs : List AH) (ats : List AD) (cs : List ByteArray) (T X : Option Addr) (q e0 p f0 : Nat) (gs : List Hd) (ts : List Int) (xss : List (List Int)) (w : World) (r : Sch w A C n m d hs ats cs) (s : Sta w T X q p gs ts xss) (fa ft i : Int) (h : btB ats cs ts xss fa ft i = false) :
    Calls Try.prog 78 #[.agg #[.slice A n c, .slice C m d], .agg #[.slice T q e0, .slice X p f0], .agg #[.int .i64 fa, .int .i64 ft], .int .i64 i] w fun e w' => ∃ g, e = .returned (.slice (some ⟨g, 0, none⟩) 0 0) ∧ Below w.heap.size w w' := by
  have R := Lib.hid r
  have S := Lib.hid s
  have HL := Lib.hid r.lenA; have HC := Lib.hid r.lenC
  have HT := Lib.hid s.lenT; have HX := Lib.hid s.lenX
  have hn := r.hn; have hq := s.hq; have hp := s.hp
  clear r s
  have HB := Lib.hid h
  clear h
  cases h0 : statsB ats cs ts xss
  · have H0 := Lib.hid h0
    clear h0
    have B0 := Below.refl w.heap.size w
    have s0 : w.heap.size ≤ w.heap.size := Nat.le_refl _
    go_enter Try.func78, Try.ntmps78
    have p_2 : Bx (w.alloc (.cells #[.slice A n c, .slice C m d] 40)) (w.heap.size) 40 #[.slice A n c, .slice C m d] := Bx.new _ _ _
    have B_2 := B0.alloc s0 (.cells #[.slice A n c, .slice C m d] 40)
    clear B0
    have cp_3 := p_2.cells
    have fp_3 := p_2.free
    clear cp_3 fp_3
    have p_4 := p_2.same (same_alloc (.cells #[.slice T q e0, .slice X p f0] 35) (by simp only [World.size_alloc]; omega))
    clear p_2
    have t_5 : Bx ((w.alloc (.cells #[.slice A n c, .slice C m d] 40)).alloc (.cells #[.slice T q e0, .slice X p f0] 35)) (w.heap.size + 1) 35 #[.slice T q e0, .slice X p f0] := by
      have h := Bx.new (w.alloc (.cells #[.slice A n c, .slice C m d] 40)) 35 #[.slice T q e0, .slice X p f0]
      simpa only [World.size_alloc] using h
    have B_5 := B_2.alloc (by simp only [World.size_alloc]; omega) (.cells #[.slice T q e0, .slice X p f0] 35)
    clear B_2
    have cp_6 := p_4.cells
    have fp_6 := p_4.free
    have ct_7 := t_5.cells
    have ft_7 := t_5.free
    clear cp_6 fp_6
    clear ct_7 ft_7
    have p_8 := p_4.same (same_alloc (.cells #[.int .i64 fa, .int .i64 ft] 55) (by simp only [World.size_alloc]; omega))
    clear p_4
    have t_8 := t_5.same (same_alloc (.cells #[.int .i64 fa, .int .i64 ft] 55) (by simp only [World.size_alloc]; omega))
    clear t_5
    have f_9 : Bx (((w.alloc (.cells #[.slice A n c, .slice C m d] 40)).alloc (.cells #[.slice T q e0, .slice X p f0] 35)).alloc (.cells #[.int .i64 fa, .int .i64 ft] 55)) (w.heap.size + 1 + 1) 55 #[.int .i64 fa, .int .i64 ft] := by
      have h := Bx.new ((w.alloc (.cells #[.slice A n c, .slice C m d] 40)).alloc (.cells #[.slice T q e0, .slice X p f0] 35)) 55 #[.int .i64 fa, .int .i64 ft]
      simpa only [World.size_alloc] using h
    have B_9 := B_5.alloc (by simp only [World.size_alloc]; omega) (.cells #[.int .i64 fa, .int .i64 ft] 55)
    clear B_5
    have cp_10 := p_8.cells
    have fp_10 := p_8.free
    have ct_11 := t_8.cells
    have ft_11 := t_8.free
    have cf_12 := f_9.cells
    have ff_12 := f_9.free
    go_wp2_with fail
    refine (sStatsOk_any _ _ _ _ _ _ _ ats cs _ _ _ _ _ _ _ ts xss _ (R.out.below B_9 (Nat.le_refl _)) (S.out.below B_9 (Nat.le_refl _))).mono ?_
    rw [H0.out]
    rintro e w1 ⟨rfl, b⟩
    clear cp_10 fp_10
    clear ct_11 ft_11
    clear cf_12 ff_12
    simp only [World.size_alloc] at b
    have t_13 := b.size
    simp only [World.size_alloc] at t_13
    have z_13 : w.heap.size ≤ w1.heap.size := by omega
    have p_14 := p_8.same (same_below b (by omega))
    clear p_8
    have t_14 := t_8.same (same_below b (by omega))
    clear t_8
    have f_14 := f_9.same (same_below b (by omega))
    clear f_9
    have B_13 := B_9.trans (b.mono (by omega))
    clear B_9 b
    have cp_15 := p_14.cells
    have fp_15 := p_14.free
    have ct_16 := t_14.cells
    have ft_16 := t_14.free
    have cf_17 := f_14.cells
    have ff_17 := f_14.free
    go_wp2_with fail
    go_ret
    exact ⟨_, rfl, B_13.alloc z_13 (.cells #[] 3)⟩
  · have H0 := Lib.hid h0
    clear h0
    by_cases hp0 : p = 0
    · subst hp0
      have B0 := Below.refl w.heap.size w
      have s0 : w.heap.size ≤ w.heap.size := Nat.le_refl _
      go_enter Try.func78, Try.ntmps78
      have p_2 : Bx (w.alloc (.cells #[.slice A n c, .slice C m d] 40)) (w.heap.size) 40 #[.slice A n c, .slice C m d] := Bx.new _ _ _
      have B_2 := B0.alloc s0 (.cells #[.slice A n c, .slice C m d] 40)
      clear B0
      have cp_3 := p_2.cells
      have fp_3 := p_2.free
      clear cp_3 fp_3
      have p_4 := p_2.same (same_alloc (.cells #[.slice T q e0, .slice X 0 f0] 35) (by simp only [World.size_alloc]; omega))
      clear p_2
      have t_5 : Bx ((w.alloc (.cells #[.slice A n c, .slice C m d] 40)).alloc (.cells #[.slice T q e0, .slice X 0 f0] 35)) (w.heap.size + 1) 35 #[.slice T q e0, .slice X 0 f0] := by
        have h := Bx.new (w.alloc (.cells #[.slice A n c, .slice C m d] 40)) 35 #[.slice T q e0, .slice X 0 f0]
        simpa only [World.size_alloc] using h
      have B_5 := B_2.alloc (by simp only [World.size_alloc]; omega) (.cells #[.slice T q e0, .slice X 0 f0] 35)
      clear B_2
      have cp_6 := p_4.cells
      have fp_6 := p_4.free
      have ct_7 := t_5.cells
      have ft_7 := t_5.free
      clear cp_6 fp_6
      clear ct_7 ft_7
      have p_8 := p_4.same (same_alloc (.cells #[.int .i64 fa, .int .i64 ft] 55) (by simp only [World.size_alloc]; omega))
      clear p_4
      have t_8 := t_5.same (same_alloc (.cells #[.int .i64 fa, .int .i64 ft] 55) (by simp only [World.size_alloc]; omega))
      clear t_5
      have f_9 : Bx (((w.alloc (.cells #[.slice A n c, .slice C m d] 40)).alloc (.cells #[.slice T q e0, .slice X 0 f0] 35)).alloc (.cells #[.int .i64 fa, .int .i64 ft] 55)) (w.heap.size + 1 + 1) 55 #[.int .i64 fa, .int .i64 ft] := by
        have h := Bx.new ((w.alloc (.cells #[.slice A n c, .slice C m d] 40)).alloc (.cells #[.slice T q e0, .slice X 0 f0] 35)) 55 #[.int .i64 fa, .int .i64 ft]
        simpa only [World.size_alloc] using h
      have B_9 := B_5.alloc (by simp only [World.size_alloc]; omega) (.cells #[.int .i64 fa, .int .i64 ft] 55)
      clear B_5
      have cp_10 := p_8.cells
      have fp_10 := p_8.free
      have ct_11 := t_8.cells
      have ft_11 := t_8.free
      have cf_12 := f_9.cells
      have ff_12 := f_9.free
      go_wp2_with fail
      refine (sStatsOk_any _ _ _ _ _ _ _ ats cs _ _ _ _ _ _ _ ts xss _ (R.out.below B_9 (Nat.le_refl _)) (S.out.below B_9 (Nat.le_refl _))).mono ?_
      rw [H0.out]
      rintro e w1 ⟨rfl, b⟩
      clear cp_10 fp_10
      clear ct_11 ft_11
      clear cf_12 ff_12
      simp only [World.size_alloc] at b
      have t_13 := b.size
      simp only [World.size_alloc] at t_13
      have z_13 : w.heap.size ≤ w1.heap.size := by omega
      have p_14 := p_8.same (same_below b (by omega))
      clear p_8
      have t_14 := t_8.same (same_below b (by omega))
      clear t_8
      have f_14 := f_9.same (same_below b (by omega))
      clear f_9
      have B_13 := B_9.trans (b.mono (by omega))
      clear B_9 b
      have cp_15 := p_14.cells
      have fp_15 := p_14.free
      have ct_16 := t_14.cells
      have ft_16 := t_14.free
      have cf_17 := f_14.cells
      have ff_17 := f_14.free
      go_wp2_with fail
      go_ret
      exact ⟨_, rfl, B_13.alloc z_13 (.cells #[] 3)⟩
    · skip
      have hp0' : ¬ (p : Int) = 0 := by omega
      have hpb : ((p : Int) == 0) = false := beq_false_of_ne hp0'
      have hpd : decide ((p : Int) = 0) = false := decide_eq_false hp0'
      obtain ⟨z, hz⟩ : ∃ z, brI ats cs fa ft = z := ⟨_, rfl⟩
      have hzb := brI_bd ats cs fa ft
      rw [hz] at hzb
      have HZ := Lib.hid hz
      have hzw : IntKind.i64.wrap (z - 1) = z - 1 := IntWalk.i64_in _ (by omega)
      clear hz
    
      have HI : Hid (inB i 0 (z - 1) = false) := by
        have hh := HB.out
        unfold btB at hh
        rw [H0.out, decide_eq_true (by rw [HX.out]; exact hp0), HZ.out] at hh
        unfold Hid; simpa using hh
      cases hf : forkB ats cs fa ft
      · have HFk := Lib.hid hf
        clear hf
        have B0 := Below.refl w.heap.size w
        have s0 : w.heap.size ≤ w.heap.size := Nat.le_refl _
        go_enter Try.func78, Try.ntmps78
        have p_2 : Bx (w.alloc (.cells #[.slice A n c, .slice C m d] 40)) (w.heap.size) 40 #[.slice A n c, .slice C m d] := Bx.new _ _ _
        have B_2 := B0.alloc s0 (.cells #[.slice A n c, .slice C m d] 40)
        clear B0
        have cp_3 := p_2.cells
        have fp_3 := p_2.free
        clear cp_3 fp_3
        have p_4 := p_2.same (same_alloc (.cells #[.slice T q e0, .slice X p f0] 35) (by simp only [World.size_alloc]; omega))
        clear p_2
        have t_5 : Bx ((w.alloc (.cells #[.slice A n c, .slice C m d] 40)).alloc (.cells #[.slice T q e0, .slice X p f0] 35)) (w.heap.size + 1) 35 #[.slice T q e0, .slice X p f0] := by
          have h := Bx.new (w.alloc (.cells #[.slice A n c, .slice C m d] 40)) 35 #[.slice T q e0, .slice X p f0]
          simpa only [World.size_alloc] using h
        have B_5 := B_2.alloc (by simp only [World.size_alloc]; omega) (.cells #[.slice T q e0, .slice X p f0] 35)
        clear B_2
        have cp_6 := p_4.cells
        have fp_6 := p_4.free
        have ct_7 := t_5.cells
        have ft_7 := t_5.free
        clear cp_6 fp_6
        clear ct_7 ft_7
        have p_8 := p_4.same (same_alloc (.cells #[.int .i64 fa, .int .i64 ft] 55) (by simp only [World.size_alloc]; omega))
        clear p_4
        have t_8 := t_5.same (same_alloc (.cells #[.int .i64 fa, .int .i64 ft] 55) (by simp only [World.size_alloc]; omega))
        clear t_5
        have f_9 : Bx (((w.alloc (.cells #[.slice A n c, .slice C m d] 40)).alloc (.cells #[.slice T q e0, .slice X p f0] 35)).alloc (.cells #[.int .i64 fa, .int .i64 ft] 55)) (w.heap.size + 1 + 1) 55 #[.int .i64 fa, .int .i64 ft] := by
          have h := Bx.new ((w.alloc (.cells #[.slice A n c, .slice C m d] 40)).alloc (.cells #[.slice T q e0, .slice X p f0] 35)) 55 #[.int .i64 fa, .int .i64 ft]
          simpa only [World.size_alloc] using h
        have B_9 := B_5.alloc (by simp only [World.size_alloc]; omega) (.cells #[.int .i64 fa, .int .i64 ft] 55)
        clear B_5
        have cp_10 := p_8.cells
        have fp_10 := p_8.free
        have ct_11 := t_8.cells
        have ft_11 := t_8.free
        have cf_12 := f_9.cells
        have ff_12 := f_9.free
        go_wp2_with fail
        refine (sStatsOk_any _ _ _ _ _ _ _ ats cs _ _ _ _ _ _ _ ts xss _ (R.out.below B_9 (Nat.le_refl _)) (S.out.below B_9 (Nat.le_refl _))).mono ?_
        rw [H0.out]
        rintro e w1 ⟨rfl, b⟩
        clear cp_10 fp_10
        clear ct_11 ft_11
        clear cf_12 ff_12
        simp only [World.size_alloc] at b
        have t_13 := b.size
        simp only [World.size_alloc] at t_13
        have z_13 : w.heap.size ≤ w1.heap.size := by omega
        have p_14 := p_8.same (same_below b (by omega))
        clear p_8
        have t_14 := t_8.same (same_below b (by omega))
        clear t_8
        have f_14 := f_9.same (same_below b (by omega))
        clear f_9
        have B_13 := B_9.trans (b.mono (by omega))
        clear B_9 b
        have cp_15 := p_14.cells
        have fp_15 := p_14.free
        have ct_16 := t_14.cells
        have ft_16 := t_14.free
        have cf_17 := f_14.cells
        have ff_17 := f_14.free
        go_wp2_with fail
        refine (sForkOk_any _ _ _ _ _ _ _ ats cs fa ft _ (R.out.below B_13 (Nat.le_refl _))).mono ?_
        rw [HFk.out]
        rintro e w2 ⟨rfl, b⟩
        clear cp_15 fp_15
        clear ct_16 ft_16
        clear cf_17 ff_17
        have t_18 := b.size
        have z_18 : w.heap.size ≤ w2.heap.size := by omega
        have p_19 := p_14.same (same_below b (by omega))
        clear p_14
        have t_19 := t_14.same (same_below b (by omega))
        clear t_14
        have f_19 := f_14.same (same_below b (by omega))
        clear f_14
        have B_18 := B_13.trans (b.mono (by omega))
        clear B_13 b
        have cp_20 := p_19.cells
        have fp_20 := p_19.free
        have ct_21 := t_19.cells
        have ft_21 := t_19.free
        have cf_22 := f_19.cells
        have ff_22 := f_19.free
        go_wp2_with fail
        go_ret
        exact ⟨_, rfl, B_18.alloc z_18 (.cells #[] 3)⟩
      · have HFk := Lib.hid hf
        clear hf
        have B0 := Below.refl w.heap.size w
        have s0 : w.heap.size ≤ w.heap.size := Nat.le_refl _
        go_enter Try.func78, Try.ntmps78
        have p_2 : Bx (w.alloc (.cells #[.slice A n c, .slice C m d] 40)) (w.heap.size) 40 #[.slice A n c, .slice C m d] := Bx.new _ _ _
        have B_2 := B0.alloc s0 (.cells #[.slice A n c, .slice C m d] 40)
        clear B0
        have cp_3 := p_2.cells
        have fp_3 := p_2.free
        clear cp_3 fp_3
        have p_4 := p_2.same (same_alloc (.cells #[.slice T q e0, .slice X p f0] 35) (by simp only [World.size_alloc]; omega))
        clear p_2
        have t_5 : Bx ((w.alloc (.cells #[.slice A n c, .slice C m d] 40)).alloc (.cells #[.slice T q e0, .slice X p f0] 35)) (w.heap.size + 1) 35 #[.slice T q e0, .slice X p f0] := by
          have h := Bx.new (w.alloc (.cells #[.slice A n c, .slice C m d] 40)) 35 #[.slice T q e0, .slice X p f0]
          simpa only [World.size_alloc] using h
        have B_5 := B_2.alloc (by simp only [World.size_alloc]; omega) (.cells #[.slice T q e0, .slice X p f0] 35)
        clear B_2
        have cp_6 := p_4.cells
        have fp_6 := p_4.free
        have ct_7 := t_5.cells
        have ft_7 := t_5.free
        clear cp_6 fp_6
        clear ct_7 ft_7
        have p_8 := p_4.same (same_alloc (.cells #[.int .i64 fa, .int .i64 ft] 55) (by simp only [World.size_alloc]; omega))
        clear p_4
        have t_8 := t_5.same (same_alloc (.cells #[.int .i64 fa, .int .i64 ft] 55) (by simp only [World.size_alloc]; omega))
        clear t_5
        have f_9 : Bx (((w.alloc (.cells #[.slice A n c, .slice C m d] 40)).alloc (.cells #[.slice T q e0, .slice X p f0] 35)).alloc (.cells #[.int .i64 fa, .int .i64 ft] 55)) (w.heap.size + 1 + 1) 55 #[.int .i64 fa, .int .i64 ft] := by
          have h := Bx.new ((w.alloc (.cells #[.slice A n c, .slice C m d] 40)).alloc (.cells #[.slice T q e0, .slice X p f0] 35)) 55 #[.int .i64 fa, .int .i64 ft]
          simpa only [World.size_alloc] using h
        have B_9 := B_5.alloc (by simp only [World.size_alloc]; omega) (.cells #[.int .i64 fa, .int .i64 ft] 55)
        clear B_5
        have cp_10 := p_8.cells
        have fp_10 := p_8.free
        have ct_11 := t_8.cells
        have ft_11 := t_8.free
        have cf_12 := f_9.cells
        have ff_12 := f_9.free
        go_wp2_with fail
        refine (sStatsOk_any _ _ _ _ _ _ _ ats cs _ _ _ _ _ _ _ ts xss _ (R.out.below B_9 (Nat.le_refl _)) (S.out.below B_9 (Nat.le_refl _))).mono ?_
        rw [H0.out]
        rintro e w1 ⟨rfl, b⟩
        clear cp_10 fp_10
        clear ct_11 ft_11
        clear cf_12 ff_12
        simp only [World.size_alloc] at b
        have t_13 := b.size
        simp only [World.size_alloc] at t_13
        have z_13 : w.heap.size ≤ w1.heap.size := by omega
        have p_14 := p_8.same (same_below b (by omega))
        clear p_8
        have t_14 := t_8.same (same_below b (by omega))
        clear t_8
        have f_14 := f_9.same (same_below b (by omega))
        clear f_9
        have B_13 := B_9.trans (b.mono (by omega))
        clear B_9 b
        have cp_15 := p_14.cells
        have fp_15 := p_14.free
        have ct_16 := t_14.cells
        have ft_16 := t_14.free
        have cf_17 := f_14.cells
        have ff_17 := f_14.free
        go_wp2_with fail
        refine (sForkOk_any _ _ _ _ _ _ _ ats cs fa ft _ (R.out.below B_13 (Nat.le_refl _))).mono ?_
        rw [HFk.out]
        rintro e w2 ⟨rfl, b⟩
        clear cp_15 fp_15
        clear ct_16 ft_16
        clear cf_17 ff_17
        have t_18 := b.size
        have z_18 : w.heap.size ≤ w2.heap.size := by omega
        have p_19 := p_14.same (same_below b (by omega))
        clear p_14
        have t_19 := t_14.same (same_below b (by omega))
        clear t_14
        have f_19 := f_14.same (same_below b (by omega))
        clear f_14
        have B_18 := B_13.trans (b.mono (by omega))
        clear B_13 b
        have cp_20 := p_19.cells
        have fp_20 := p_19.free
        have ct_21 := t_19.cells
        have ft_21 := t_19.free
        have cf_22 := f_19.cells
        have ff_22 := f_19.free
        go_wp2_with fail
        refine (sBranches_any _ _ _ _ _ _ _ ats cs fa ft _ (R.out.below B_18 (Nat.le_refl _))).mono ?_
        rw [HZ.out]
        rintro e w3 ⟨rfl, b⟩
        clear cp_20 fp_20
        clear ct_21 ft_21
        clear cf_22 ff_22
        have t_23 := b.size
        have z_23 : w.heap.size ≤ w3.heap.size := by omega
        have p_24 := p_19.same (same_below b (by omega))
        clear p_19
        have t_24 := t_19.same (same_below b (by omega))
        clear t_19
        have f_24 := f_19.same (same_below b (by omega))
        clear f_19
        have B_23 := B_18.trans (b.mono (by omega))
        clear B_18 b
        have cp_25 := p_24.cells
        have fp_25 := p_24.free
        have ct_26 := t_24.cells
        have ft_26 := t_24.free
        have cf_27 := f_24.cells
        have ff_27 := f_24.free
        go_wp2_with fail
        refine (l1In_any _ _ _ _).mono ?_
        rw [HI.out]
        rintro e w4 ⟨rfl, rfl⟩
        go_wp2_with fail
        go_ret
        exact ⟨_, rfl, B_23.alloc z_23 (.cells #[] 3)⟩

set_option maxRecDepth 20000 in
set_option maxHeartbeats 8000000 in
theorem sBranchTotals_yes (A C : Option Addr) (n c m d : Nat) (hs : List AH) (ats : List AD) (cs : List ByteArray) (T X : Option Addr) (q e0 p f0 : Nat) (gs : List Hd) (ts : List Int) (xss : List (List Int)) (w : World) (r : Sch w A C n m d hs ats cs) (s : Sta w T X q p gs ts xss) (fa ft i : Int) (h : btB ats cs ts xss fa ft i = true) :
    Calls Try.prog 78 #[.agg #[.slice A n c, .slice C m d], .agg #[.slice T q e0, .slice X p f0], .agg #[.int .i64 fa, .int .i64 ft], .int .i64 i] w fun e w' => ∃ g, e = .returned (.slice (some ⟨g, 0, none⟩) m m) ∧ w'.ownsRow w.heap.size 3 1 (.slice (some ⟨g, 0, none⟩) m m) m (btL ats cs xss fa ft i) ∧ Below w.heap.size w w' := by
  have R := Lib.hid r
  have S := Lib.hid s
  have HL := Lib.hid r.lenA; have HC := Lib.hid r.lenC
  have HT := Lib.hid s.lenT; have HX := Lib.hid s.lenX
  have hn := r.hn; have hq := s.hq; have hp := s.hp
  clear r s
  obtain ⟨h0, hp1, h3, hf, hm, k, row, a, nb, rfl, haa, hrow, hnb, _, hn4, hrl, hbr, hbt⟩ := bt_row h
  rw [HX.out] at hp1
  rw [HC.out] at hm hrl hbt
  have H0 := Lib.hid h0; have HRow := Lib.hid hrow; have HRl := Lib.hid hrl; have HBr := Lib.hid hbr; have HBt := Lib.hid hbt; have HFk := Lib.hid hf; have HAa := Lib.hid haa; have HNB := Lib.hid hnb; have HSch := Lib.hid (forkB_yes hf).1
  have hp0 : ¬ p = 0 := hp1
  clear h h0 hrow hrl hbr hbt hp1 hf haa hnb
  obtain ⟨i0, hi0, hz0, hz1, hz2⟩ := info_parts info_IntS
  have HJ := Lib.hid hi0; have HJ0 := Lib.hid hz0; have HJ1 := Lib.hid hz1; have HJ2 := Lib.hid hz2
  clear hi0 hz0 hz1 hz2
  have hp0' : ¬ (p : Int) = 0 := by omega
  have hpb : ((p : Int) == 0) = false := beq_false_of_ne hp0'
  have hpd : decide ((p : Int) = 0) = false := decide_eq_false hp0'
  obtain ⟨z, hz⟩ : ∃ z, brI ats cs (k : Nat) ft = z := ⟨_, rfl⟩
  have hzb := brI_bd ats cs (k : Nat) ft
  rw [hz] at hzb
  have HZ := Lib.hid hz
  have hzw : IntKind.i64.wrap (z - 1) = z - 1 := IntWalk.i64_in _ (by omega)
  clear hz
  have HI : Hid (inB i 0 (z - 1) = true) := by unfold Hid; rw [← HZ.out]; exact h3
  clear h3
  rcases hm with rfl | rfl
  · skip
    have B0 := Below.refl w.heap.size w
    have s0 : w.heap.size ≤ w.heap.size := Nat.le_refl _
    go_enter Try.func78, Try.ntmps78
    have p_2 : Bx (w.alloc (.cells #[.slice A n c, .slice C 2 d] 40)) (w.heap.size) 40 #[.slice A n c, .slice C 2 d] := Bx.new _ _ _
    have B_2 := B0.alloc s0 (.cells #[.slice A n c, .slice C 2 d] 40)
    clear B0
    have cp_3 := p_2.cells
    have fp_3 := p_2.free
    clear cp_3 fp_3
    have p_4 := p_2.same (same_alloc (.cells #[.slice T q e0, .slice X p f0] 35) (by simp only [World.size_alloc]; omega))
    clear p_2
    have t_5 : Bx ((w.alloc (.cells #[.slice A n c, .slice C 2 d] 40)).alloc (.cells #[.slice T q e0, .slice X p f0] 35)) (w.heap.size + 1) 35 #[.slice T q e0, .slice X p f0] := by
      have h := Bx.new (w.alloc (.cells #[.slice A n c, .slice C 2 d] 40)) 35 #[.slice T q e0, .slice X p f0]
      simpa only [World.size_alloc] using h
    have B_5 := B_2.alloc (by simp only [World.size_alloc]; omega) (.cells #[.slice T q e0, .slice X p f0] 35)
    clear B_2
    have cp_6 := p_4.cells
    have fp_6 := p_4.free
    have ct_7 := t_5.cells
    have ft_7 := t_5.free
    clear cp_6 fp_6
    clear ct_7 ft_7
    have p_8 := p_4.same (same_alloc (.cells #[.int .i64 (k : Nat), .int .i64 ft] 55) (by simp only [World.size_alloc]; omega))
    clear p_4
    have t_8 := t_5.same (same_alloc (.cells #[.int .i64 (k : Nat), .int .i64 ft] 55) (by simp only [World.size_alloc]; omega))
    clear t_5
    have f_9 : Bx (((w.alloc (.cells #[.slice A n c, .slice C 2 d] 40)).alloc (.cells #[.slice T q e0, .slice X p f0] 35)).alloc (.cells #[.int .i64 (k : Nat), .int .i64 ft] 55)) (w.heap.size + 1 + 1) 55 #[.int .i64 (k : Nat), .int .i64 ft] := by
      have h := Bx.new ((w.alloc (.cells #[.slice A n c, .slice C 2 d] 40)).alloc (.cells #[.slice T q e0, .slice X p f0] 35)) 55 #[.int .i64 (k : Nat), .int .i64 ft]
      simpa only [World.size_alloc] using h
    have B_9 := B_5.alloc (by simp only [World.size_alloc]; omega) (.cells #[.int .i64 (k : Nat), .int .i64 ft] 55)
    clear B_5
    have cp_10 := p_8.cells
    have fp_10 := p_8.free
    have ct_11 := t_8.cells
    have ft_11 := t_8.free
    have cf_12 := f_9.cells
    have ff_12 := f_9.free
    go_wp2_with fail
    refine (sStatsOk_any _ _ _ _ _ _ _ ats cs _ _ _ _ _ _ _ ts xss _ (R.out.below B_9 (Nat.le_refl _)) (S.out.below B_9 (Nat.le_refl _))).mono ?_
    rw [H0.out]
    rintro e w1 ⟨rfl, b⟩
    clear cp_10 fp_10
    clear ct_11 ft_11
    clear cf_12 ff_12
    simp only [World.size_alloc] at b
    have t_13 := b.size
    simp only [World.size_alloc] at t_13
    have z_13 : w.heap.size ≤ w1.heap.size := by omega
    have p_14 := p_8.same (same_below b (by omega))
    clear p_8
    have t_14 := t_8.same (same_below b (by omega))
    clear t_8
    have f_14 := f_9.same (same_below b (by omega))
    clear f_9
    have B_13 := B_9.trans (b.mono (by omega))
    clear B_9 b
    have cp_15 := p_14.cells
    have fp_15 := p_14.free
    have ct_16 := t_14.cells
    have ft_16 := t_14.free
    have cf_17 := f_14.cells
    have ff_17 := f_14.free
    go_wp2_with fail
    refine (sForkOk_any _ _ _ _ _ _ _ ats cs (k : Nat) ft _ (R.out.below B_13 (Nat.le_refl _))).mono ?_
    rw [HFk.out]
    rintro e w2 ⟨rfl, b⟩
    clear cp_15 fp_15
    clear ct_16 ft_16
    clear cf_17 ff_17
    have t_18 := b.size
    have z_18 : w.heap.size ≤ w2.heap.size := by omega
    have p_19 := p_14.same (same_below b (by omega))
    clear p_14
    have t_19 := t_14.same (same_below b (by omega))
    clear t_14
    have f_19 := f_14.same (same_below b (by omega))
    clear f_14
    have B_18 := B_13.trans (b.mono (by omega))
    clear B_13 b
    have cp_20 := p_19.cells
    have fp_20 := p_19.free
    have ct_21 := t_19.cells
    have ft_21 := t_19.free
    have cf_22 := f_19.cells
    have ff_22 := f_19.free
    go_wp2_with fail
    refine (sBranches_any _ _ _ _ _ _ _ ats cs (k : Nat) ft _ (R.out.below B_18 (Nat.le_refl _))).mono ?_
    rw [HZ.out]
    rintro e w3 ⟨rfl, b⟩
    clear cp_20 fp_20
    clear ct_21 ft_21
    clear cf_22 ff_22
    have t_23 := b.size
    have z_23 : w.heap.size ≤ w3.heap.size := by omega
    have p_24 := p_19.same (same_below b (by omega))
    clear p_19
    have t_24 := t_19.same (same_below b (by omega))
    clear t_19
    have f_24 := f_19.same (same_below b (by omega))
    clear f_19
    have B_23 := B_18.trans (b.mono (by omega))
    clear B_18 b
    have cp_25 := p_24.cells
    have fp_25 := p_24.free
    have ct_26 := t_24.cells
    have ft_26 := t_24.free
    have cf_27 := f_24.cells
    have ff_27 := f_24.free
    go_wp2_with fail
    refine (l1In_any _ _ _ _).mono ?_
    rw [HI.out]
    rintro e w4 ⟨rfl, rfl⟩
    have HAc := Lib.hid B_23; have HP := Lib.hid p_24; have HTb := Lib.hid t_24; have HF := Lib.hid f_24; have lp := p_24.lt; have lt_ := t_24.lt; have lf := f_24.lt
    have R1 := Lib.hid (R.out.below B_23 (Nat.le_refl _)); have S1 := Lib.hid (S.out.below B_23 (Nat.le_refl _)); have hV := B_23.size
    have hkp : k < p := by have := (List.getElem?_eq_some_iff.1 HRow.out).1; rw [HX.out] at this; exact this
    have hkn : k < n := by have := (List.getElem?_eq_some_iff.1 HAa.out).1; rw [HL.out] at this; exact this
    go_wp2_with (at_make; refine wpList_make_full _ rfl _ _ 26 rfl w3.heap.size 3 i0 (Value.int .i64 0) 1 Try.underlying26 HJ.out HJ0.out HJ1.out .i64 .i64 _ _ 2 rfl rfl (by omega) (by omega) ?c1 ?c2 (Nat.le_refl _) ?_)
    case c1 => rw [HJ2.out]; omega
    case c2 => unfold maxLen; omega
    intro v1 hown hgrow
    have HB1 : Hid (Below w3.heap.size w3 v1) := (Below.refl _ _).grown hgrow (Nat.le_refl _) (fun k hk => by cases hk)
    have HO1 : Hid (v1.ownsRow w3.heap.size 3 1 (.slice (some ⟨w3.heap.size, 0, none⟩) 2 2) 2 (runS 2 0 0 (selRow 2 (brSel ats cs k ft i) row))) := by
      unfold Hid; rw [runS_zero, ← toList_madeCells_one]; simpa [Value.cells] using hown
    clear hown hgrow cp_25 fp_25 ct_26 ft_26 cf_27 ff_27
    obtain ⟨y, vs, hy, hv, hrd, hvl⟩ := S1.out.cel.get hkp
    obtain ⟨b2, o2, rfl, lb2, e2⟩ := S1.out.cel.head hkp hy
    obtain ⟨row', hrow', rfl⟩ := iss_get' hv
    obtain rfl := Option.some.inj (hrow'.symm.trans HRow.out)
    obtain ⟨h, a', bA, off, ha', hra, rfl, hbl, d0, d1, d2⟩ := R1.out.get hkn
    obtain rfl := Option.some.inj (ha'.symm.trans HAa.out)
    have HAC := Lib.hid hra; have HAB := Lib.hid (schB_get HSch.out ha')
    obtain ⟨ya, yn, yc⟩ := y
    simp only [List.length_map] at hvl hrd e2
    have HD0 := Lib.hid d0; have HD1 := Lib.hid d1; have HD2 := Lib.hid d2; have HE2 := Lib.hid e2; have HRd := Lib.hid hrd; have HRL := Lib.hid hvl
    clear hy hv hrow' ha' hra d0 d1 d2 hrd e2 hvl
    go_wp2_with fail
    go_loopw [10] (fun bi wr => ∃ b : Nat, b ≤ nb ∧ bi = .int .i64 b ∧ wr.ownsRow w3.heap.size 3 1 (.slice (some ⟨w3.heap.size, 0, none⟩) 2 2) 2 (runS 2 b 0 (selRow 2 (brSel ats cs k ft i) row')) ∧ Below w3.heap.size w3 wr) (fun bi _ => nb - (intOf bi).toNat)
    case atStart => exact ⟨0, Nat.zero_le _, rfl, HO1.out, HB1.out⟩
    case round =>
      obtain ⟨b, hb, rfl, hown, hbel⟩ := hrel
      have HBel := Lib.hid hbel; have HOwn := Lib.hid hown
      clear hbel hown
      have p0 : wr.cell? ⟨w.heap.size, 0, none⟩ = some (.slice (some ⟨bA, off, none⟩) n c) := (HBel.out.cell (p := ⟨w.heap.size, 0, none⟩) lp).trans (HP.out.cells 0)
      have p1 : wr.cell? ⟨w.heap.size, 1, none⟩ = some (.slice C 2 d) := (HBel.out.cell (p := ⟨w.heap.size, 1, none⟩) lp).trans (HP.out.cells 1)
      have t1 : wr.cell? ⟨w.heap.size + 1, 1, none⟩ = some (.slice (some ⟨b2, o2, none⟩) p f0) := (HBel.out.cell (p := ⟨w.heap.size + 1, 1, none⟩) lt_).trans (HTb.out.cells 1)
      have q0 : wr.cell? ⟨w.heap.size + 1 + 1, 0, none⟩ = some (.int .i64 (k : Nat)) := (HBel.out.cell (p := ⟨w.heap.size + 1 + 1, 0, none⟩) lf).trans (HF.out.cells 0)
      have q1 : wr.cell? ⟨w.heap.size + 1 + 1, 1, none⟩ = some (.int .i64 ft) := (HBel.out.cell (p := ⟨w.heap.size + 1 + 1, 1, none⟩) lf).trans (HF.out.cells 1)
      have f0_ : wr.cell? ⟨bA, off + k * 3, none⟩ = some (.string a'.nm) := (HBel.out.cell (p := ⟨bA, off + k * 3, none⟩) hbl).trans HD0.out
      have f1_ : wr.cell? ⟨bA, off + k * 3 + 1, none⟩ = some (.slice h.1.1 h.1.2.1 h.1.2.2) := (HBel.out.cell (p := ⟨bA, off + k * 3 + 1, none⟩) hbl).trans HD1.out
      have f2_ : wr.cell? ⟨bA, off + k * 3 + 2, none⟩ = some (.slice h.2.1 h.2.2.1 h.2.2.2) := (HBel.out.cell (p := ⟨bA, off + k * 3 + 2, none⟩) hbl).trans HD2.out
      have k0 : (0 : Int) ≤ (k : Int) := Int.natCast_nonneg _
      have k1 : (k : Int) < (n : Int) := by omega
      go_wp2_with fail
      refine (sBins_any a' h _ (HAC.out.below HBel.out (Nat.le_refl _)) HAB.out).mono ?_
      rw [HNB.out]
      rintro e u3 ⟨rfl, b3⟩
      have HO3 := Lib.hid (own_kept HOwn.out b3)
      have HB3 := Lib.hid (HBel.out.trans (b3.mono HBel.out.size))
      clear b3 p0 p1 t1 q0 q1 f0_ f1_ f2_ HOwn HBel k0 k1
      by_cases hlb : b < nb
      · have hlb' : (b : Int) < (nb : Int) := by omega
        have p0 : u3.cell? ⟨w.heap.size, 0, none⟩ = some (.slice (some ⟨bA, off, none⟩) n c) := (HB3.out.cell (p := ⟨w.heap.size, 0, none⟩) lp).trans (HP.out.cells 0)
        have p1 : u3.cell? ⟨w.heap.size, 1, none⟩ = some (.slice C 2 d) := (HB3.out.cell (p := ⟨w.heap.size, 1, none⟩) lp).trans (HP.out.cells 1)
        have t1 : u3.cell? ⟨w.heap.size + 1, 1, none⟩ = some (.slice (some ⟨b2, o2, none⟩) p f0) := (HB3.out.cell (p := ⟨w.heap.size + 1, 1, none⟩) lt_).trans (HTb.out.cells 1)
        have q0 : u3.cell? ⟨w.heap.size + 1 + 1, 0, none⟩ = some (.int .i64 (k : Nat)) := (HB3.out.cell (p := ⟨w.heap.size + 1 + 1, 0, none⟩) lf).trans (HF.out.cells 0)
        have q1 : u3.cell? ⟨w.heap.size + 1 + 1, 1, none⟩ = some (.int .i64 ft) := (HB3.out.cell (p := ⟨w.heap.size + 1 + 1, 1, none⟩) lf).trans (HF.out.cells 1)
        obtain ⟨zb, hzb'⟩ : ∃ zb, boI ats cs k ft (b : Nat) = zb := ⟨_, rfl⟩
        have HZb := Lib.hid hzb'
        clear hzb'
        go_wp2_with fail
        refine (sBranchOf_any _ _ _ _ _ _ _ ats cs _ _ _ _ (R.out.below (HAc.out.trans (HB3.out.mono hV)) (Nat.le_refl _))).mono ?_
        rw [HZb.out]
        rintro e u4 ⟨rfl, b4⟩
        have HO4 := Lib.hid (own_kept HO3.out b4)
        have HB4 := Lib.hid (HB3.out.trans (b4.mono HB3.out.size))
        clear b4 p0 p1 t1 q0 q1 HO3 HB3
        by_cases hzi : zb = i
        · subst hzi
          go_wp2_with fail
          go_loopw [11] (fun ji wr => ∃ j : Nat, j ≤ 2 ∧ ji = .int .i64 j ∧ wr.ownsRow w3.heap.size 3 1 (.slice (some ⟨w3.heap.size, 0, none⟩) 2 2) 2 (runS 2 b j (selRow 2 (brSel ats cs k ft zb) row')) ∧ Below w3.heap.size w3 wr) (fun ji _ => 2 - (intOf ji).toNat)
          case atStart => exact ⟨0, Nat.zero_le _, rfl, HO4.out, HB4.out⟩
          case round =>
            obtain ⟨j, hj, rfl, hown, hbel⟩ := hrel
            have HBel := Lib.hid hbel; have HOwn := Lib.hid (own_kept hown (Below.refl wr.heap.size wr).drew)
            have HOw0 := Lib.hid hown
            clear hbel hown
            by_cases hlj : j < 2
            · obtain ⟨x, hx, hxs⟩ := sel_at (sel := brSel ats cs k ft zb) hlj hlb HRl.out
              rw [if_pos (by unfold brSel; exact decide_eq_true HZb.out)] at hxs
              have hidx : b * 2 + j < yn := by have := HRL.out; have h2 := HRl.out; omega
              obtain ⟨b3, o3, rfl, lb3, hc3⟩ := HRd.out.ex (show 0 < yn by omega)
              have hcell : wr.cell? ⟨b3, o3 + (b * 2 + j), none⟩ = some (.int .i64 x) := (HBel.out.cell (p := ⟨b3, o3 + (b * 2 + j), none⟩) lb3).trans (hc3 _ _ (by simp [hx]))
              have g2 : wr.cell? ⟨b2, o2 + k, none⟩ = some (.slice (some ⟨b3, o3, none⟩) yn yc) := (HBel.out.cell (p := ⟨b2, o2 + k, none⟩) lb2).trans HE2.out
              have p0 : wr.cell? ⟨w.heap.size, 0, none⟩ = some (.slice (some ⟨bA, off, none⟩) n c) := (HBel.out.cell (p := ⟨w.heap.size, 0, none⟩) lp).trans (HP.out.cells 0)
              have p1 : wr.cell? ⟨w.heap.size, 1, none⟩ = some (.slice C 2 d) := (HBel.out.cell (p := ⟨w.heap.size, 1, none⟩) lp).trans (HP.out.cells 1)
              have t1 : wr.cell? ⟨w.heap.size + 1, 1, none⟩ = some (.slice (some ⟨b2, o2, none⟩) p f0) := (HBel.out.cell (p := ⟨w.heap.size + 1, 1, none⟩) lt_).trans (HTb.out.cells 1)
              have q0 : wr.cell? ⟨w.heap.size + 1 + 1, 0, none⟩ = some (.int .i64 (k : Nat)) := (HBel.out.cell (p := ⟨w.heap.size + 1 + 1, 0, none⟩) lf).trans (HF.out.cells 0)
              have q1 : wr.cell? ⟨w.heap.size + 1 + 1, 1, none⟩ = some (.int .i64 ft) := (HBel.out.cell (p := ⟨w.heap.size + 1 + 1, 1, none⟩) lf).trans (HF.out.cells 1)
              have hxb := badW_get HBr.out (List.mem_of_getElem? hx)
              obtain ⟨s, hs⟩ : ∃ s, colB 2 j (selRow 2 (brSel ats cs k ft zb) row') b = s := ⟨_, rfl⟩
              have hrun : 0 ≤ s ∧ s ≤ 3996 := by
                have h := colB_bd (m := 2) (k := j) (row := selRow 2 (brSel ats cs k ft zb) row') (fun x hx => badW_get (selRow_bad HBr.out) hx) b
                rw [← hs]; omega
              have HSet := Lib.hid (runS_set hlj hxs)
              have hsc : wr.cell? ⟨w3.heap.size, j, none⟩ = some (.int .i64 s) := by rw [HOw0.out.cellAt j (by omega), runS_get hlj, if_neg (by omega), hs]
              have hfr : wr.drew.frozen? ⟨w3.heap.size, j, none⟩ = false := HOwn.out.frozenAt j
              have hsd : wr.drew.cell? ⟨w3.heap.size, j, none⟩ = some (.int .i64 s) := hsc
              obtain ⟨hs1, hs2⟩ := HOwn.out.stored j (.int .i64 (s + x))
              rw [← hs, HSet.out] at hs1
              have HO9 : Hid ((wr.drew.setCell ⟨w3.heap.size, j, none⟩ (.int .i64 (s + x))).ownsRow w3.heap.size 3 1 (.slice (some ⟨w3.heap.size, 0, none⟩) 2 2) 2 (runS 2 b (j + 1) (selRow 2 (brSel ats cs k ft zb) row'))) := by rw [← hs]; exact hs1
              have HB9 : Hid (Below w3.heap.size w3 (wr.drew.setCell ⟨w3.heap.size, j, none⟩ (.int .i64 (s + x)))) := Below.setCell (p := ⟨w3.heap.size, j, none⟩) HBel.out.drew (Nat.le_refl _) _
              have n0 : (0 : Int) ≤ (b : Int) * 2 + j := by omega
              have n1 : (b : Int) * 2 + j < (yn : Int) := by omega
              have n2 : ((b : Int) * 2 + j).toNat = b * 2 + j := by omega
              have n3 : IntKind.i64.wrap ((b : Int) * 2) = (b : Int) * 2 := IntWalk.i64_in _ (by omega)
              have n4 : IntKind.i64.wrap ((b : Int) * 2 + j) = (b : Int) * 2 + j := IntWalk.i64_in _ (by omega)
              have n5 : (0 : Int) ≤ (j : Int) := Int.natCast_nonneg _
              have n6 : (j : Int) < 2 := by omega
              have k0 : (0 : Int) ≤ (k : Int) := Int.natCast_nonneg _
              have k1 : (k : Int) < (p : Int) := by omega
              have n7 : IntKind.i64.wrap (s + x) = s + x := IntWalk.i64_in _ (by omega)
              clear hc3 hx hxs hs hs1 hs2
              go_wp2_with fail
              go_still_tail 23, (by kernel_rfl)
              go_wp2_with fail
              clear n0 n1 n2 n3 n4 n5 n6 n7 k0 k1
              go_roundw
              case rel => exact ⟨j + 1, by omega, by go_num, HO9.out, HB9.out⟩
              case measure => simp [intOf]; omega
            · obtain rfl : j = 2 := by omega
              have HO9 := HOw0.out
              rw [runS_next] at HO9
              go_wp2_with fail
              go_roundw
              case rel => exact ⟨b + 1, by omega, by go_num, HO9, HBel.out⟩
              case measure => simp [intOf]; omega
        · have c0 : (zb == i) = false := beq_false_of_ne hzi
          have c1 : decide (zb = i) = false := decide_eq_false hzi
          have HO9 : Hid (u4.ownsRow w3.heap.size 3 1 (.slice (some ⟨w3.heap.size, 0, none⟩) 2 2) 2 (runS 2 (b + 1) 0 (selRow 2 (brSel ats cs k ft i) row'))) := by
            unfold Hid; rw [runS_skip fun j hj => ?_]; exact HO4.out
            obtain ⟨x, hx, hxs⟩ := sel_at (sel := brSel ats cs k ft i) hj hlb HRl.out
            rw [if_neg (by unfold brSel; rw [HZb.out]; simpa using hzi)] at hxs
            simp [List.getD, hxs]
          go_wp2_with fail
          clear c0 c1
          go_roundw
          case rel => exact ⟨b + 1, by omega, by go_num, HO9.out, HB4.out⟩
          case measure => simp [intOf]; omega
      · obtain rfl : b = nb := by omega
        go_wp2_with fail
        go_ret
        refine ⟨w3.heap.size, rfl, ?_, HAc.out.trans (HB3.out.mono hV)⟩
        rw [HBt.out, HRl.out, ← runS_all (by omega)]
        exact own_base HO3.out hV
  · skip
    have B0 := Below.refl w.heap.size w
    have s0 : w.heap.size ≤ w.heap.size := Nat.le_refl _
    go_enter Try.func78, Try.ntmps78
    have p_2 : Bx (w.alloc (.cells #[.slice A n c, .slice C 3 d] 40)) (w.heap.size) 40 #[.slice A n c, .slice C 3 d] := Bx.new _ _ _
    have B_2 := B0.alloc s0 (.cells #[.slice A n c, .slice C 3 d] 40)
    clear B0
    have cp_3 := p_2.cells
    have fp_3 := p_2.free
    clear cp_3 fp_3
    have p_4 := p_2.same (same_alloc (.cells #[.slice T q e0, .slice X p f0] 35) (by simp only [World.size_alloc]; omega))
    clear p_2
    have t_5 : Bx ((w.alloc (.cells #[.slice A n c, .slice C 3 d] 40)).alloc (.cells #[.slice T q e0, .slice X p f0] 35)) (w.heap.size + 1) 35 #[.slice T q e0, .slice X p f0] := by
      have h := Bx.new (w.alloc (.cells #[.slice A n c, .slice C 3 d] 40)) 35 #[.slice T q e0, .slice X p f0]
      simpa only [World.size_alloc] using h
    have B_5 := B_2.alloc (by simp only [World.size_alloc]; omega) (.cells #[.slice T q e0, .slice X p f0] 35)
    clear B_2
    have cp_6 := p_4.cells
    have fp_6 := p_4.free
    have ct_7 := t_5.cells
    have ft_7 := t_5.free
    clear cp_6 fp_6
    clear ct_7 ft_7
    have p_8 := p_4.same (same_alloc (.cells #[.int .i64 (k : Nat), .int .i64 ft] 55) (by simp only [World.size_alloc]; omega))
    clear p_4
    have t_8 := t_5.same (same_alloc (.cells #[.int .i64 (k : Nat), .int .i64 ft] 55) (by simp only [World.size_alloc]; omega))
    clear t_5
    have f_9 : Bx (((w.alloc (.cells #[.slice A n c, .slice C 3 d] 40)).alloc (.cells #[.slice T q e0, .slice X p f0] 35)).alloc (.cells #[.int .i64 (k : Nat), .int .i64 ft] 55)) (w.heap.size + 1 + 1) 55 #[.int .i64 (k : Nat), .int .i64 ft] := by
      have h := Bx.new ((w.alloc (.cells #[.slice A n c, .slice C 3 d] 40)).alloc (.cells #[.slice T q e0, .slice X p f0] 35)) 55 #[.int .i64 (k : Nat), .int .i64 ft]
      simpa only [World.size_alloc] using h
    have B_9 := B_5.alloc (by simp only [World.size_alloc]; omega) (.cells #[.int .i64 (k : Nat), .int .i64 ft] 55)
    clear B_5
    have cp_10 := p_8.cells
    have fp_10 := p_8.free
    have ct_11 := t_8.cells
    have ft_11 := t_8.free
    have cf_12 := f_9.cells
    have ff_12 := f_9.free
    go_wp2_with fail
    refine (sStatsOk_any _ _ _ _ _ _ _ ats cs _ _ _ _ _ _ _ ts xss _ (R.out.below B_9 (Nat.le_refl _)) (S.out.below B_9 (Nat.le_refl _))).mono ?_
    rw [H0.out]
    rintro e w1 ⟨rfl, b⟩
    clear cp_10 fp_10
    clear ct_11 ft_11
    clear cf_12 ff_12
    simp only [World.size_alloc] at b
    have t_13 := b.size
    simp only [World.size_alloc] at t_13
    have z_13 : w.heap.size ≤ w1.heap.size := by omega
    have p_14 := p_8.same (same_below b (by omega))
    clear p_8
    have t_14 := t_8.same (same_below b (by omega))
    clear t_8
    have f_14 := f_9.same (same_below b (by omega))
    clear f_9
    have B_13 := B_9.trans (b.mono (by omega))
    clear B_9 b
    have cp_15 := p_14.cells
    have fp_15 := p_14.free
    have ct_16 := t_14.cells
    have ft_16 := t_14.free
    have cf_17 := f_14.cells
    have ff_17 := f_14.free
    go_wp2_with fail
    refine (sForkOk_any _ _ _ _ _ _ _ ats cs (k : Nat) ft _ (R.out.below B_13 (Nat.le_refl _))).mono ?_
    rw [HFk.out]
    rintro e w2 ⟨rfl, b⟩
    clear cp_15 fp_15
    clear ct_16 ft_16
    clear cf_17 ff_17
    have t_18 := b.size
    have z_18 : w.heap.size ≤ w2.heap.size := by omega
    have p_19 := p_14.same (same_below b (by omega))
    clear p_14
    have t_19 := t_14.same (same_below b (by omega))
    clear t_14
    have f_19 := f_14.same (same_below b (by omega))
    clear f_14
    have B_18 := B_13.trans (b.mono (by omega))
    clear B_13 b
    have cp_20 := p_19.cells
    have fp_20 := p_19.free
    have ct_21 := t_19.cells
    have ft_21 := t_19.free
    have cf_22 := f_19.cells
    have ff_22 := f_19.free
    go_wp2_with fail
    refine (sBranches_any _ _ _ _ _ _ _ ats cs (k : Nat) ft _ (R.out.below B_18 (Nat.le_refl _))).mono ?_
    rw [HZ.out]
    rintro e w3 ⟨rfl, b⟩
    clear cp_20 fp_20
    clear ct_21 ft_21
    clear cf_22 ff_22
    have t_23 := b.size
    have z_23 : w.heap.size ≤ w3.heap.size := by omega
    have p_24 := p_19.same (same_below b (by omega))
    clear p_19
    have t_24 := t_19.same (same_below b (by omega))
    clear t_19
    have f_24 := f_19.same (same_below b (by omega))
    clear f_19
    have B_23 := B_18.trans (b.mono (by omega))
    clear B_18 b
    have cp_25 := p_24.cells
    have fp_25 := p_24.free
    have ct_26 := t_24.cells
    have ft_26 := t_24.free
    have cf_27 := f_24.cells
    have ff_27 := f_24.free
    go_wp2_with fail
    refine (l1In_any _ _ _ _).mono ?_
    rw [HI.out]
    rintro e w4 ⟨rfl, rfl⟩
    have HAc := Lib.hid B_23; have HP := Lib.hid p_24; have HTb := Lib.hid t_24; have HF := Lib.hid f_24; have lp := p_24.lt; have lt_ := t_24.lt; have lf := f_24.lt
    have R1 := Lib.hid (R.out.below B_23 (Nat.le_refl _)); have S1 := Lib.hid (S.out.below B_23 (Nat.le_refl _)); have hV := B_23.size
    have hkp : k < p := by have := (List.getElem?_eq_some_iff.1 HRow.out).1; rw [HX.out] at this; exact this
    have hkn : k < n := by have := (List.getElem?_eq_some_iff.1 HAa.out).1; rw [HL.out] at this; exact this
    go_wp2_with (at_make; refine wpList_make_full _ rfl _ _ 26 rfl w3.heap.size 3 i0 (Value.int .i64 0) 1 Try.underlying26 HJ.out HJ0.out HJ1.out .i64 .i64 _ _ 3 rfl rfl (by omega) (by omega) ?c1 ?c2 (Nat.le_refl _) ?_)
    case c1 => rw [HJ2.out]; omega
    case c2 => unfold maxLen; omega
    intro v1 hown hgrow
    have HB1 : Hid (Below w3.heap.size w3 v1) := (Below.refl _ _).grown hgrow (Nat.le_refl _) (fun k hk => by cases hk)
    have HO1 : Hid (v1.ownsRow w3.heap.size 3 1 (.slice (some ⟨w3.heap.size, 0, none⟩) 3 3) 3 (runS 3 0 0 (selRow 3 (brSel ats cs k ft i) row))) := by
      unfold Hid; rw [runS_zero, ← toList_madeCells_one]; simpa [Value.cells] using hown
    clear hown hgrow cp_25 fp_25 ct_26 ft_26 cf_27 ff_27
    obtain ⟨y, vs, hy, hv, hrd, hvl⟩ := S1.out.cel.get hkp
    obtain ⟨b2, o2, rfl, lb2, e2⟩ := S1.out.cel.head hkp hy
    obtain ⟨row', hrow', rfl⟩ := iss_get' hv
    obtain rfl := Option.some.inj (hrow'.symm.trans HRow.out)
    obtain ⟨h, a', bA, off, ha', hra, rfl, hbl, d0, d1, d2⟩ := R1.out.get hkn
    obtain rfl := Option.some.inj (ha'.symm.trans HAa.out)
    have HAC := Lib.hid hra; have HAB := Lib.hid (schB_get HSch.out ha')
    obtain ⟨ya, yn, yc⟩ := y
    simp only [List.length_map] at hvl hrd e2
    have HD0 := Lib.hid d0; have HD1 := Lib.hid d1; have HD2 := Lib.hid d2; have HE2 := Lib.hid e2; have HRd := Lib.hid hrd; have HRL := Lib.hid hvl
    clear hy hv hrow' ha' hra d0 d1 d2 hrd e2 hvl
    go_wp2_with fail
    go_loopw [10] (fun bi wr => ∃ b : Nat, b ≤ nb ∧ bi = .int .i64 b ∧ wr.ownsRow w3.heap.size 3 1 (.slice (some ⟨w3.heap.size, 0, none⟩) 3 3) 3 (runS 3 b 0 (selRow 3 (brSel ats cs k ft i) row')) ∧ Below w3.heap.size w3 wr) (fun bi _ => nb - (intOf bi).toNat)
    case atStart => exact ⟨0, Nat.zero_le _, rfl, HO1.out, HB1.out⟩
    case round =>
      obtain ⟨b, hb, rfl, hown, hbel⟩ := hrel
      have HBel := Lib.hid hbel; have HOwn := Lib.hid hown
      clear hbel hown
      have p0 : wr.cell? ⟨w.heap.size, 0, none⟩ = some (.slice (some ⟨bA, off, none⟩) n c) := (HBel.out.cell (p := ⟨w.heap.size, 0, none⟩) lp).trans (HP.out.cells 0)
      have p1 : wr.cell? ⟨w.heap.size, 1, none⟩ = some (.slice C 3 d) := (HBel.out.cell (p := ⟨w.heap.size, 1, none⟩) lp).trans (HP.out.cells 1)
      have t1 : wr.cell? ⟨w.heap.size + 1, 1, none⟩ = some (.slice (some ⟨b2, o2, none⟩) p f0) := (HBel.out.cell (p := ⟨w.heap.size + 1, 1, none⟩) lt_).trans (HTb.out.cells 1)
      have q0 : wr.cell? ⟨w.heap.size + 1 + 1, 0, none⟩ = some (.int .i64 (k : Nat)) := (HBel.out.cell (p := ⟨w.heap.size + 1 + 1, 0, none⟩) lf).trans (HF.out.cells 0)
      have q1 : wr.cell? ⟨w.heap.size + 1 + 1, 1, none⟩ = some (.int .i64 ft) := (HBel.out.cell (p := ⟨w.heap.size + 1 + 1, 1, none⟩) lf).trans (HF.out.cells 1)
      have f0_ : wr.cell? ⟨bA, off + k * 3, none⟩ = some (.string a'.nm) := (HBel.out.cell (p := ⟨bA, off + k * 3, none⟩) hbl).trans HD0.out
      have f1_ : wr.cell? ⟨bA, off + k * 3 + 1, none⟩ = some (.slice h.1.1 h.1.2.1 h.1.2.2) := (HBel.out.cell (p := ⟨bA, off + k * 3 + 1, none⟩) hbl).trans HD1.out
      have f2_ : wr.cell? ⟨bA, off + k * 3 + 2, none⟩ = some (.slice h.2.1 h.2.2.1 h.2.2.2) := (HBel.out.cell (p := ⟨bA, off + k * 3 + 2, none⟩) hbl).trans HD2.out
      have k0 : (0 : Int) ≤ (k : Int) := Int.natCast_nonneg _
      have k1 : (k : Int) < (n : Int) := by omega
      go_wp2_with fail
      refine (sBins_any a' h _ (HAC.out.below HBel.out (Nat.le_refl _)) HAB.out).mono ?_
      rw [HNB.out]
      rintro e u3 ⟨rfl, b3⟩
      have HO3 := Lib.hid (own_kept HOwn.out b3)
      have HB3 := Lib.hid (HBel.out.trans (b3.mono HBel.out.size))
      clear b3 p0 p1 t1 q0 q1 f0_ f1_ f2_ HOwn HBel k0 k1
      by_cases hlb : b < nb
      · have hlb' : (b : Int) < (nb : Int) := by omega
        have p0 : u3.cell? ⟨w.heap.size, 0, none⟩ = some (.slice (some ⟨bA, off, none⟩) n c) := (HB3.out.cell (p := ⟨w.heap.size, 0, none⟩) lp).trans (HP.out.cells 0)
        have p1 : u3.cell? ⟨w.heap.size, 1, none⟩ = some (.slice C 3 d) := (HB3.out.cell (p := ⟨w.heap.size, 1, none⟩) lp).trans (HP.out.cells 1)
        have t1 : u3.cell? ⟨w.heap.size + 1, 1, none⟩ = some (.slice (some ⟨b2, o2, none⟩) p f0) := (HB3.out.cell (p := ⟨w.heap.size + 1, 1, none⟩) lt_).trans (HTb.out.cells 1)
        have q0 : u3.cell? ⟨w.heap.size + 1 + 1, 0, none⟩ = some (.int .i64 (k : Nat)) := (HB3.out.cell (p := ⟨w.heap.size + 1 + 1, 0, none⟩) lf).trans (HF.out.cells 0)
        have q1 : u3.cell? ⟨w.heap.size + 1 + 1, 1, none⟩ = some (.int .i64 ft) := (HB3.out.cell (p := ⟨w.heap.size + 1 + 1, 1, none⟩) lf).trans (HF.out.cells 1)
        obtain ⟨zb, hzb'⟩ : ∃ zb, boI ats cs k ft (b : Nat) = zb := ⟨_, rfl⟩
        have HZb := Lib.hid hzb'
        clear hzb'
        go_wp2_with fail
        refine (sBranchOf_any _ _ _ _ _ _ _ ats cs _ _ _ _ (R.out.below (HAc.out.trans (HB3.out.mono hV)) (Nat.le_refl _))).mono ?_
        rw [HZb.out]
        rintro e u4 ⟨rfl, b4⟩
        have HO4 := Lib.hid (own_kept HO3.out b4)
        have HB4 := Lib.hid (HB3.out.trans (b4.mono HB3.out.size))
        clear b4 p0 p1 t1 q0 q1 HO3 HB3
        by_cases hzi : zb = i
        · subst hzi
          go_wp2_with fail
          go_loopw [11] (fun ji wr => ∃ j : Nat, j ≤ 3 ∧ ji = .int .i64 j ∧ wr.ownsRow w3.heap.size 3 1 (.slice (some ⟨w3.heap.size, 0, none⟩) 3 3) 3 (runS 3 b j (selRow 3 (brSel ats cs k ft zb) row')) ∧ Below w3.heap.size w3 wr) (fun ji _ => 3 - (intOf ji).toNat)
          case atStart => exact ⟨0, Nat.zero_le _, rfl, HO4.out, HB4.out⟩
          case round =>
            obtain ⟨j, hj, rfl, hown, hbel⟩ := hrel
            have HBel := Lib.hid hbel; have HOwn := Lib.hid (own_kept hown (Below.refl wr.heap.size wr).drew)
            have HOw0 := Lib.hid hown
            clear hbel hown
            by_cases hlj : j < 3
            · obtain ⟨x, hx, hxs⟩ := sel_at (sel := brSel ats cs k ft zb) hlj hlb HRl.out
              rw [if_pos (by unfold brSel; exact decide_eq_true HZb.out)] at hxs
              have hidx : b * 3 + j < yn := by have := HRL.out; have h2 := HRl.out; omega
              obtain ⟨b3, o3, rfl, lb3, hc3⟩ := HRd.out.ex (show 0 < yn by omega)
              have hcell : wr.cell? ⟨b3, o3 + (b * 3 + j), none⟩ = some (.int .i64 x) := (HBel.out.cell (p := ⟨b3, o3 + (b * 3 + j), none⟩) lb3).trans (hc3 _ _ (by simp [hx]))
              have g2 : wr.cell? ⟨b2, o2 + k, none⟩ = some (.slice (some ⟨b3, o3, none⟩) yn yc) := (HBel.out.cell (p := ⟨b2, o2 + k, none⟩) lb2).trans HE2.out
              have p0 : wr.cell? ⟨w.heap.size, 0, none⟩ = some (.slice (some ⟨bA, off, none⟩) n c) := (HBel.out.cell (p := ⟨w.heap.size, 0, none⟩) lp).trans (HP.out.cells 0)
              have p1 : wr.cell? ⟨w.heap.size, 1, none⟩ = some (.slice C 3 d) := (HBel.out.cell (p := ⟨w.heap.size, 1, none⟩) lp).trans (HP.out.cells 1)
              have t1 : wr.cell? ⟨w.heap.size + 1, 1, none⟩ = some (.slice (some ⟨b2, o2, none⟩) p f0) := (HBel.out.cell (p := ⟨w.heap.size + 1, 1, none⟩) lt_).trans (HTb.out.cells 1)
              have q0 : wr.cell? ⟨w.heap.size + 1 + 1, 0, none⟩ = some (.int .i64 (k : Nat)) := (HBel.out.cell (p := ⟨w.heap.size + 1 + 1, 0, none⟩) lf).trans (HF.out.cells 0)
              have q1 : wr.cell? ⟨w.heap.size + 1 + 1, 1, none⟩ = some (.int .i64 ft) := (HBel.out.cell (p := ⟨w.heap.size + 1 + 1, 1, none⟩) lf).trans (HF.out.cells 1)
              have hxb := badW_get HBr.out (List.mem_of_getElem? hx)
              obtain ⟨s, hs⟩ : ∃ s, colB 3 j (selRow 3 (brSel ats cs k ft zb) row') b = s := ⟨_, rfl⟩
              have hrun : 0 ≤ s ∧ s ≤ 3996 := by
                have h := colB_bd (m := 3) (k := j) (row := selRow 3 (brSel ats cs k ft zb) row') (fun x hx => badW_get (selRow_bad HBr.out) hx) b
                rw [← hs]; omega
              have HSet := Lib.hid (runS_set hlj hxs)
              have hsc : wr.cell? ⟨w3.heap.size, j, none⟩ = some (.int .i64 s) := by rw [HOw0.out.cellAt j (by omega), runS_get hlj, if_neg (by omega), hs]
              have hfr : wr.drew.frozen? ⟨w3.heap.size, j, none⟩ = false := HOwn.out.frozenAt j
              have hsd : wr.drew.cell? ⟨w3.heap.size, j, none⟩ = some (.int .i64 s) := hsc
              obtain ⟨hs1, hs2⟩ := HOwn.out.stored j (.int .i64 (s + x))
              rw [← hs, HSet.out] at hs1
              have HO9 : Hid ((wr.drew.setCell ⟨w3.heap.size, j, none⟩ (.int .i64 (s + x))).ownsRow w3.heap.size 3 1 (.slice (some ⟨w3.heap.size, 0, none⟩) 3 3) 3 (runS 3 b (j + 1) (selRow 3 (brSel ats cs k ft zb) row'))) := by rw [← hs]; exact hs1
              have HB9 : Hid (Below w3.heap.size w3 (wr.drew.setCell ⟨w3.heap.size, j, none⟩ (.int .i64 (s + x)))) := Below.setCell (p := ⟨w3.heap.size, j, none⟩) HBel.out.drew (Nat.le_refl _) _
              have n0 : (0 : Int) ≤ (b : Int) * 3 + j := by omega
              have n1 : (b : Int) * 3 + j < (yn : Int) := by omega
              have n2 : ((b : Int) * 3 + j).toNat = b * 3 + j := by omega
              have n3 : IntKind.i64.wrap ((b : Int) * 3) = (b : Int) * 3 := IntWalk.i64_in _ (by omega)
              have n4 : IntKind.i64.wrap ((b : Int) * 3 + j) = (b : Int) * 3 + j := IntWalk.i64_in _ (by omega)
              have n5 : (0 : Int) ≤ (j : Int) := Int.natCast_nonneg _
              have n6 : (j : Int) < 3 := by omega
              have k0 : (0 : Int) ≤ (k : Int) := Int.natCast_nonneg _
              have k1 : (k : Int) < (p : Int) := by omega
              have n7 : IntKind.i64.wrap (s + x) = s + x := IntWalk.i64_in _ (by omega)
              clear hc3 hx hxs hs hs1 hs2
              go_wp2_with fail
              go_still_tail 23, (by kernel_rfl)
              go_wp2_with fail
              clear n0 n1 n2 n3 n4 n5 n6 n7 k0 k1
              go_roundw
              case rel => exact ⟨j + 1, by omega, by go_num, HO9.out, HB9.out⟩
              case measure => simp [intOf]; omega
            · obtain rfl : j = 3 := by omega
              have HO9 := HOw0.out
              rw [runS_next] at HO9
              go_wp2_with fail
              go_roundw
              case rel => exact ⟨b + 1, by omega, by go_num, HO9, HBel.out⟩
              case measure => simp [intOf]; omega
        · have c0 : (zb == i) = false := beq_false_of_ne hzi
          have c1 : decide (zb = i) = false := decide_eq_false hzi
          have HO9 : Hid (u4.ownsRow w3.heap.size 3 1 (.slice (some ⟨w3.heap.size, 0, none⟩) 3 3) 3 (runS 3 (b + 1) 0 (selRow 3 (brSel ats cs k ft i) row'))) := by
            unfold Hid; rw [runS_skip fun j hj => ?_]; exact HO4.out
            obtain ⟨x, hx, hxs⟩ := sel_at (sel := brSel ats cs k ft i) hj hlb HRl.out
            rw [if_neg (by unfold brSel; rw [HZb.out]; simpa using hzi)] at hxs
            simp [List.getD, hxs]
          go_wp2_with fail
          clear c0 c1
          go_roundw
          case rel => exact ⟨b + 1, by omega, by go_num, HO9.out, HB4.out⟩
          case measure => simp [intOf]; omega
      · obtain rfl : b = nb := by omega
        go_wp2_with fail
        go_ret
        refine ⟨w3.heap.size, rfl, ?_, HAc.out.trans (HB3.out.mono hV)⟩
        rw [HBt.out, HRl.out, ← runS_all (by omega)]
        exact own_base HO3.out hV

end Go.Proofs.Ytchkmcikpamdeaa
