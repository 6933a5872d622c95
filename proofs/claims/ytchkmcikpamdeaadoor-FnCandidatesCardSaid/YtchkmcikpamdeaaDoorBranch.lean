/-
  Branches and BranchOf of both packages.
-/
import Derived.Test.YtchkmcikpamdeaaDoorFork
namespace Go.Proofs.YtchkmcikpamdeaaDoor
open Go.RowKit
set_option linter.unusedSimpArgs false
set_option linter.unusedVariables false

set_option maxHeartbeats 4000000 in
theorem iBranches_any (A C : Option Addr) (n c m d : Nat) (hs : List AH) (ats : List AD) (cs : List ByteArray) (fa ft : Int) (w : World) (r : Sch w A C n m d hs ats cs) :
    Calls Tryd.prog 18 #[.agg #[.slice A n c, .slice C m d], .agg #[.int .i64 fa, .int .i64 ft]] w fun e w' => e = .returned (.int .i64 (brI ats cs fa ft)) ∧ Below w.heap.size w w' := by
  have R := Lib.hid r
  have HL := Lib.hid r.lenA
  have hn := r.hn
  clear r
  cases h0 : forkB ats cs fa ft
  · have H0 := Lib.hid h0
    have HV : Hid (brI ats cs fa ft = 0) := by unfold Hid brI; rw [h0]; rfl
    clear h0
    have B0 := Below.refl w.heap.size w
    have s0 : w.heap.size ≤ w.heap.size := Nat.le_refl _
    go_enter Tryd.func18, Tryd.ntmps18
    have p_2 : Bx (w.alloc (.cells #[.slice A n c, .slice C m d] 32)) (w.heap.size) 32 #[.slice A n c, .slice C m d] := Bx.new _ _ _
    have B_2 := B0.alloc s0 (.cells #[.slice A n c, .slice C m d] 32)
    clear B0
    have cp_3 := p_2.cells
    have fp_3 := p_2.free
    clear cp_3 fp_3
    have p_4 := p_2.same (same_alloc (.cells #[.int .i64 fa, .int .i64 ft] 34) (by simp only [World.size_alloc]; omega))
    clear p_2
    have q_5 : Bx ((w.alloc (.cells #[.slice A n c, .slice C m d] 32)).alloc (.cells #[.int .i64 fa, .int .i64 ft] 34)) (w.heap.size + 1) 34 #[.int .i64 fa, .int .i64 ft] := by
      have h := Bx.new (w.alloc (.cells #[.slice A n c, .slice C m d] 32)) 34 #[.int .i64 fa, .int .i64 ft]
      simpa only [World.size_alloc] using h
    have B_5 := B_2.alloc (by simp only [World.size_alloc]; omega) (.cells #[.int .i64 fa, .int .i64 ft] 34)
    clear B_2
    have cp_6 := p_4.cells
    have fp_6 := p_4.free
    have cq_7 := q_5.cells
    have fq_7 := q_5.free
    go_wp2_with fail
    refine (iForkOk_any _ C n c m d hs ats cs _ _ _ (R.out.below B_5 (Nat.le_refl _))).mono ?_
    rw [H0.out]
    rintro e w1 ⟨rfl, b1⟩
    clear cp_6 fp_6
    clear cq_7 fq_7
    simp only [World.size_alloc] at b1
    have t_8 := b1.size
    simp only [World.size_alloc] at t_8
    have z_8 : w.heap.size ≤ w1.heap.size := by omega
    have p_9 := p_4.same (same_below b1 (by omega))
    clear p_4
    have q_9 := q_5.same (same_below b1 (by omega))
    clear q_5
    have B_8 := B_5.trans (b1.mono (by omega))
    clear B_5 b1
    have cp_10 := p_9.cells
    have fp_10 := p_9.free
    have cq_11 := q_9.cells
    have fq_11 := q_9.free
    go_wp2_with fail
    go_ret
    exact ⟨by rw [HV.out]; rfl, B_8⟩
  · obtain ⟨h1, k, a0, rfl, ha0, hk, h3⟩ := forkB_yes h0
    have H1 := Lib.hid h1
    have H0 := Lib.hid h0
    rw [HL.out] at hk
    clear h1 ha0 h3
    obtain ⟨h, a, b, off, ha, hra, rfl, hbl, d0, d1, d2⟩ := R.out.get hk
    have hzb := binsI_bd hra
    obtain ⟨l1, l2⟩ := rdA_len hra.rd
    have hcc := hra.c
    rw [l1] at hcc
    have HA := Lib.hid ha; have HRA := Lib.hid hra; have D0 := Lib.hid d0; have D1 := Lib.hid d1; have D2 := Lib.hid d2; have HL1 := Lib.hid l1
    obtain ⟨z, hz⟩ : ∃ z, binsI a = z := ⟨_, rfl⟩
    have HZ := Lib.hid hz
    rw [hz] at hzb
    have n0 : (0 : Int) ≤ (k : Int) := Int.natCast_nonneg _
    have n1 : (k : Int) < (n : Int) := by omega
    clear ha hra d0 d1 d2 l1 l2 hz
    have HAB := Lib.hid (schB_get H1.out HA.out)
    have HAt : Hid (atA ats (k : Nat) = a) := atA_get HA.out
    obtain ⟨⟨ca, cn, cc⟩, ⟨va, vn, vc⟩⟩ := h
    simp only at hcc HL1 D1 D2
    by_cases hft : ft = -1
    · subst hft
      have HV : Hid (brI ats cs (k : Nat) (-1) = z) := by unfold Hid brI; rw [h0, HAt.out, HZ.out]; rfl
      clear h0
      have B0 := Below.refl w.heap.size w
      have s0 : w.heap.size ≤ w.heap.size := Nat.le_refl _
      go_enter Tryd.func18, Tryd.ntmps18
      have p_2 : Bx (w.alloc (.cells #[.slice (some ⟨b, off, none⟩) n c, .slice C m d] 32)) (w.heap.size) 32 #[.slice (some ⟨b, off, none⟩) n c, .slice C m d] := Bx.new _ _ _
      have B_2 := B0.alloc s0 (.cells #[.slice (some ⟨b, off, none⟩) n c, .slice C m d] 32)
      clear B0
      have cp_3 := p_2.cells
      have fp_3 := p_2.free
      clear cp_3 fp_3
      have p_4 := p_2.same (same_alloc (.cells #[.int .i64 (k : Nat), .int .i64 (-1)] 34) (by simp only [World.size_alloc]; omega))
      clear p_2
      have q_5 : Bx ((w.alloc (.cells #[.slice (some ⟨b, off, none⟩) n c, .slice C m d] 32)).alloc (.cells #[.int .i64 (k : Nat), .int .i64 (-1)] 34)) (w.heap.size + 1) 34 #[.int .i64 (k : Nat), .int .i64 (-1)] := by
        have h := Bx.new (w.alloc (.cells #[.slice (some ⟨b, off, none⟩) n c, .slice C m d] 32)) 34 #[.int .i64 (k : Nat), .int .i64 (-1)]
        simpa only [World.size_alloc] using h
      have B_5 := B_2.alloc (by simp only [World.size_alloc]; omega) (.cells #[.int .i64 (k : Nat), .int .i64 (-1)] 34)
      clear B_2
      have cp_6 := p_4.cells
      have fp_6 := p_4.free
      have cq_7 := q_5.cells
      have fq_7 := q_5.free
      go_wp2_with fail
      refine (iForkOk_any _ C n c m d hs ats cs _ _ _ (R.out.below B_5 (Nat.le_refl _))).mono ?_
      rw [H0.out]
      rintro e w1 ⟨rfl, b1⟩
      clear cp_6 fp_6
      clear cq_7 fq_7
      simp only [World.size_alloc] at b1
      have t_8 := b1.size
      simp only [World.size_alloc] at t_8
      have z_8 : w.heap.size ≤ w1.heap.size := by omega
      have p_9 := p_4.same (same_below b1 (by omega))
      clear p_4
      have q_9 := q_5.same (same_below b1 (by omega))
      clear q_5
      have B_8 := B_5.trans (b1.mono (by omega))
      clear B_5 b1
      have cp_10 := p_9.cells
      have fp_10 := p_9.free
      have cq_11 := q_9.cells
      have fq_11 := q_9.free
      have f0_12 : w1.cell? ⟨b, off + k * 3, none⟩ = some (.string a.nm) := (B_8.cell (p := ⟨b, off + k * 3, none⟩) hbl).trans D0.out
      have f1_12 : w1.cell? ⟨b, off + k * 3 + 1, none⟩ = some (.slice ca cn cc) := (B_8.cell (p := ⟨b, off + k * 3 + 1, none⟩) hbl).trans D1.out
      have f2_12 : w1.cell? ⟨b, off + k * 3 + 2, none⟩ = some (.slice va vn vc) := (B_8.cell (p := ⟨b, off + k * 3 + 2, none⟩) hbl).trans D2.out
      go_wp2_with fail
      refine (ibins_any a ((ca, cn, cc), (va, vn, vc)) _ (HRA.out.below B_8 (Nat.le_refl _))).mono ?_
      rw [HZ.out]
      rintro e w2 ⟨rfl, b1⟩
      clear cp_10 fp_10
      clear cq_11 fq_11
      have t_13 := b1.size
      have z_13 : w.heap.size ≤ w2.heap.size := by omega
      have p_14 := p_9.same (same_below b1 (by omega))
      clear p_9
      have q_14 := q_9.same (same_below b1 (by omega))
      clear q_9
      have B_13 := B_8.trans (b1.mono (by omega))
      clear B_8 b1
      have cp_15 := p_14.cells
      have fp_15 := p_14.free
      have cq_16 := q_14.cells
      have fq_16 := q_14.free
      go_wp2_with fail
      go_ret
      exact ⟨by rw [HV.out]; rfl, B_13⟩
    · have HV : Hid (brI ats cs (k : Nat) ft = 2) := by unfold Hid brI; rw [h0, if_neg hft]; rfl
      clear h0
      have B0 := Below.refl w.heap.size w
      have s0 : w.heap.size ≤ w.heap.size := Nat.le_refl _
      go_enter Tryd.func18, Tryd.ntmps18
      have p_2 : Bx (w.alloc (.cells #[.slice (some ⟨b, off, none⟩) n c, .slice C m d] 32)) (w.heap.size) 32 #[.slice (some ⟨b, off, none⟩) n c, .slice C m d] := Bx.new _ _ _
      have B_2 := B0.alloc s0 (.cells #[.slice (some ⟨b, off, none⟩) n c, .slice C m d] 32)
      clear B0
      have cp_3 := p_2.cells
      have fp_3 := p_2.free
      clear cp_3 fp_3
      have p_4 := p_2.same (same_alloc (.cells #[.int .i64 (k : Nat), .int .i64 ft] 34) (by simp only [World.size_alloc]; omega))
      clear p_2
      have q_5 : Bx ((w.alloc (.cells #[.slice (some ⟨b, off, none⟩) n c, .slice C m d] 32)).alloc (.cells #[.int .i64 (k : Nat), .int .i64 ft] 34)) (w.heap.size + 1) 34 #[.int .i64 (k : Nat), .int .i64 ft] := by
        have h := Bx.new (w.alloc (.cells #[.slice (some ⟨b, off, none⟩) n c, .slice C m d] 32)) 34 #[.int .i64 (k : Nat), .int .i64 ft]
        simpa only [World.size_alloc] using h
      have B_5 := B_2.alloc (by simp only [World.size_alloc]; omega) (.cells #[.int .i64 (k : Nat), .int .i64 ft] 34)
      clear B_2
      have cp_6 := p_4.cells
      have fp_6 := p_4.free
      have cq_7 := q_5.cells
      have fq_7 := q_5.free
      go_wp2_with fail
      refine (iForkOk_any _ C n c m d hs ats cs _ _ _ (R.out.below B_5 (Nat.le_refl _))).mono ?_
      rw [H0.out]
      rintro e w1 ⟨rfl, b1⟩
      clear cp_6 fp_6
      clear cq_7 fq_7
      simp only [World.size_alloc] at b1
      have t_8 := b1.size
      simp only [World.size_alloc] at t_8
      have z_8 : w.heap.size ≤ w1.heap.size := by omega
      have p_9 := p_4.same (same_below b1 (by omega))
      clear p_4
      have q_9 := q_5.same (same_below b1 (by omega))
      clear q_5
      have B_8 := B_5.trans (b1.mono (by omega))
      clear B_5 b1
      have cp_10 := p_9.cells
      have fp_10 := p_9.free
      have cq_11 := q_9.cells
      have fq_11 := q_9.free
      have f0_12 : w1.cell? ⟨b, off + k * 3, none⟩ = some (.string a.nm) := (B_8.cell (p := ⟨b, off + k * 3, none⟩) hbl).trans D0.out
      have f1_12 : w1.cell? ⟨b, off + k * 3 + 1, none⟩ = some (.slice ca cn cc) := (B_8.cell (p := ⟨b, off + k * 3 + 1, none⟩) hbl).trans D1.out
      have f2_12 : w1.cell? ⟨b, off + k * 3 + 2, none⟩ = some (.slice va vn vc) := (B_8.cell (p := ⟨b, off + k * 3 + 2, none⟩) hbl).trans D2.out
      go_wp2_with fail
      go_ret
      exact ⟨by rw [HV.out]; rfl, B_8⟩

end Go.Proofs.YtchkmcikpamdeaaDoor
