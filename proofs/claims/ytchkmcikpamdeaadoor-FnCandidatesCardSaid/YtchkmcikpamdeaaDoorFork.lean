/-
  ForkOk of both packages.
-/
import Derived.Test.YtchkmcikpamdeaaDoorSchOk
namespace Go.Proofs.YtchkmcikpamdeaaDoor
open Go.RowKit
set_option linter.unusedSimpArgs false
set_option linter.unusedVariables false

def noAD : AD := ⟨ByteArray.empty, [], []⟩
def atA (ats : List AD) (fa : Int) : AD := ats.getD fa.toNat noAD
/-- The last place where an attribute may be forked. -/
def lastI (a : AD) : Int := if 0 < a.cuts.length then binsI a - 2 else binsI a - 1
def forkB (ats : List AD) (cs : List ByteArray) (fa ft : Int) : Bool := schB ats cs && inB fa 0 ((ats.length : Int) - 1) && inB ft (-1) (lastI (atA ats fa))
def brI (ats : List AD) (cs : List ByteArray) (fa ft : Int) : Int := if forkB ats cs fa ft then (if ft = -1 then binsI (atA ats fa) else 2) else 0
def boB (ats : List AD) (cs : List ByteArray) (fa ft b : Int) : Bool := forkB ats cs fa ft && inB b 0 (binsI (atA ats fa) - 1)
def sideI (a : AD) (ft b : Int) : Int := if ft = -1 then b else if 0 < a.cuts.length then (if ft < b then 1 else 0) else (if b = ft then 0 else 1)
def boI (ats : List AD) (cs : List ByteArray) (fa ft b : Int) : Int := if boB ats cs fa ft b then sideI (atA ats fa) ft b else -1
theorem atA_get {ats : List AD} {k : Nat} {a : AD} (h : ats[k]? = some a) : atA ats (k : Nat) = a := by simp [atA, List.getD, h]
theorem forkB_no1 {ats : List AD} {cs : List ByteArray} {fa ft : Int} (h : schB ats cs = false) : forkB ats cs fa ft = false := by simp [forkB, h]
theorem forkB_no2 {ats : List AD} {cs : List ByteArray} {fa ft : Int} (h : inB fa 0 ((ats.length : Int) - 1) = false) : forkB ats cs fa ft = false := by simp [forkB, h]
theorem forkB_at {ats : List AD} {cs : List ByteArray} {k : Nat} {ft : Int} {a : AD} (h1 : schB ats cs = true) (h2 : inB (k : Nat) 0 ((ats.length : Int) - 1) = true) (ha : ats[k]? = some a) : forkB ats cs (k : Nat) ft = inB ft (-1) (lastI a) := by
  unfold forkB; rw [h1, h2, atA_get ha]; rfl
theorem forkB_yes {ats : List AD} {cs : List ByteArray} {fa ft : Int} (h : forkB ats cs fa ft = true) : schB ats cs = true ∧ ∃ (k : Nat) (a : AD), fa = k ∧ ats[k]? = some a ∧ k < ats.length ∧ inB ft (-1) (lastI a) = true := by
  unfold forkB at h
  simp only [Bool.and_eq_true] at h
  obtain ⟨⟨h1, h2⟩, h3⟩ := h
  have := inB_iff.1 h2
  obtain ⟨k, rfl⟩ := Int.eq_ofNat_of_zero_le this.1
  have hk : k < ats.length := by omega
  rw [atA_get (List.getElem?_eq_getElem hk)] at h3
  exact ⟨h1, k, _, rfl, List.getElem?_eq_getElem hk, hk, h3⟩
theorem schB_get {ats : List AD} {cs : List ByteArray} (h : schB ats cs = true) {k : Nat} {a : AD} (ha : ats[k]? = some a) : attrB a = true := by
  cases hb : attrB a
  · rw [schB_attr ha hb] at h; cases h
  · rfl
theorem binsI_bd {w : World} {a : AD} {h : AH} (r : AttrC w a h) : 0 ≤ binsI a ∧ binsI a ≤ 1048577 := by
  have := r.c; have := r.v; unfold binsI; split <;> omega

set_option maxHeartbeats 4000000 in
theorem iForkOk_any (A C : Option Addr) (n c m d : Nat) (hs : List AH) (ats : List AD) (cs : List ByteArray) (fa ft : Int) (w : World) (r : Sch w A C n m d hs ats cs) :
    Calls Tryd.prog 16 #[.agg #[.slice A n c, .slice C m d], .agg #[.int .i64 fa, .int .i64 ft]] w fun e w' => e = .returned (.bool (forkB ats cs fa ft)) ∧ Below w.heap.size w w' := by
  have R := Lib.hid r
  have HL := Lib.hid r.lenA
  have hn := r.hn
  clear r
  cases h1 : schB ats cs
  · have H1 := Lib.hid h1
    have HV := Lib.hid (forkB_no1 (fa := fa) (ft := ft) h1)
    clear h1
    have B0 := Below.refl w.heap.size w
    have s0 : w.heap.size ≤ w.heap.size := Nat.le_refl _
    go_enter Tryd.func16, Tryd.ntmps16
    have p_2 : Bx (w.alloc (.cells #[.slice A n c, .slice C m d] 32)) (w.heap.size) 32 #[.slice A n c, .slice C m d] := Bx.new _ _ _
    have B_2 := B0.alloc s0 (.cells #[.slice A n c, .slice C m d] 32)
    clear B0
    have cp_3 := p_2.cells
    have fp_3 := p_2.free
    clear cp_3 fp_3
    have p_4 := p_2.same (same_alloc (.cells #[.int .i64 fa, .int .i64 ft] 34) (by simp only [World.size_alloc]; omega))
    clear p_2
    have q_5 : Bx ((w.alloc (.cells #[.slice A n c, .slice C m d] 32)).alloc (.cells #[.int .i64 fa, .int .i64 ft] 34)) (w.heap.size + 1) 34 #[.int .i64 fa, .int .i64 ft] := by
      have h := Bx.new (w.alloc (.cells #[.slice A n c, .slice C m d] 32)) 34 #[.int .i64 fa, .int .i64 ft]
      simpa only [World.size_alloc] using h
    have B_5 := B_2.alloc (by simp only [World.size_alloc]; omega) (.cells #[.int .i64 fa, .int .i64 ft] 34)
    clear B_2
    have cp_6 := p_4.cells
    have fp_6 := p_4.free
    have cq_7 := q_5.cells
    have fq_7 := q_5.free
    go_wp2_with fail
    refine (iSchemaOk_any _ C n c m d hs ats cs _ (R.out.below B_5 (Nat.le_refl _))).mono ?_
    rw [H1.out]
    rintro e w1 ⟨rfl, b⟩
    clear cp_6 fp_6
    clear cq_7 fq_7
    simp only [World.size_alloc] at b
    have t_8 := b.size
    simp only [World.size_alloc] at t_8
    have z_8 : w.heap.size ≤ w1.heap.size := by omega
    have p_9 := p_4.same (same_below b (by omega))
    clear p_4
    have q_9 := q_5.same (same_below b (by omega))
    clear q_5
    have B_8 := B_5.trans (b.mono (by omega))
    clear B_5 b
    have cp_10 := p_9.cells
    have fp_10 := p_9.free
    have cq_11 := q_9.cells
    have fq_11 := q_9.free
    go_wp2_with fail
    go_ret
    exact ⟨by rw [HV.out]; rfl, B_8⟩
  · have H1 := Lib.hid h1
    clear h1
    cases h2 : inB fa 0 ((n : Int) - 1)
    · have H2 := Lib.hid h2
      have HV := Lib.hid (forkB_no2 (cs := cs) (ft := ft) (by rw [HL.out]; exact h2 : inB fa 0 ((ats.length : Int) - 1) = false))
      clear h2
      have B0 := Below.refl w.heap.size w
      have s0 : w.heap.size ≤ w.heap.size := Nat.le_refl _
      go_enter Tryd.func16, Tryd.ntmps16
      have p_2 : Bx (w.alloc (.cells #[.slice A n c, .slice C m d] 32)) (w.heap.size) 32 #[.slice A n c, .slice C m d] := Bx.new _ _ _
      have B_2 := B0.alloc s0 (.cells #[.slice A n c, .slice C m d] 32)
      clear B0
      have cp_3 := p_2.cells
      have fp_3 := p_2.free
      clear cp_3 fp_3
      have p_4 := p_2.same (same_alloc (.cells #[.int .i64 fa, .int .i64 ft] 34) (by simp only [World.size_alloc]; omega))
      clear p_2
      have q_5 : Bx ((w.alloc (.cells #[.slice A n c, .slice C m d] 32)).alloc (.cells #[.int .i64 fa, .int .i64 ft] 34)) (w.heap.size + 1) 34 #[.int .i64 fa, .int .i64 ft] := by
        have h := Bx.new (w.alloc (.cells #[.slice A n c, .slice C m d] 32)) 34 #[.int .i64 fa, .int .i64 ft]
        simpa only [World.size_alloc] using h
      have B_5 := B_2.alloc (by simp only [World.size_alloc]; omega) (.cells #[.int .i64 fa, .int .i64 ft] 34)
      clear B_2
      have cp_6 := p_4.cells
      have fp_6 := p_4.free
      have cq_7 := q_5.cells
      have fq_7 := q_5.free
      go_wp2_with fail
      refine (iSchemaOk_any _ C n c m d hs ats cs _ (R.out.below B_5 (Nat.le_refl _))).mono ?_
      rw [H1.out]
      rintro e w1 ⟨rfl, b⟩
      clear cp_6 fp_6
      clear cq_7 fq_7
      simp only [World.size_alloc] at b
      have t_8 := b.size
      simp only [World.size_alloc] at t_8
      have z_8 : w.heap.size ≤ w1.heap.size := by omega
      have p_9 := p_4.same (same_below b (by omega))
      clear p_4
      have q_9 := q_5.same (same_below b (by omega))
      clear q_5
      have B_8 := B_5.trans (b.mono (by omega))
      clear B_5 b
      have cp_10 := p_9.cells
      have fp_10 := p_9.free
      have cq_11 := q_9.cells
      have fq_11 := q_9.free
      go_wp2_with fail
      refine (within_any _ _ _ _).mono ?_
      rw [H2.out]
      rintro e w2 ⟨rfl, rfl⟩
      go_wp2_with fail
      go_ret
      exact ⟨by rw [HV.out]; rfl, B_8⟩
    · have H2 := Lib.hid h2
      have hfa := inB_iff.1 h2
      obtain ⟨k, rfl⟩ := Int.eq_ofNat_of_zero_le hfa.1
      have hk : k < n := by omega
      clear h2 hfa
      obtain ⟨h, a, b, off, ha, hra, rfl, hbl, d0, d1, d2⟩ := R.out.get hk
      have hzb := binsI_bd hra
      obtain ⟨l1, l2⟩ := rdA_len hra.rd
      have hcc := hra.c
      rw [l1] at hcc
      have HA := Lib.hid ha; have HRA := Lib.hid hra; have D0 := Lib.hid d0; have D1 := Lib.hid d1; have D2 := Lib.hid d2; have HL1 := Lib.hid l1
      obtain ⟨z, hz⟩ : ∃ z, binsI a = z := ⟨_, rfl⟩
      have HZ := Lib.hid hz
      rw [hz] at hzb
      have n0 : (0 : Int) ≤ (k : Int) := Int.natCast_nonneg _
      have n1 : (k : Int) < (n : Int) := by omega
      clear ha hra d0 d1 d2 l1 l2 hz
      have HF := Lib.hid (forkB_at (ft := ft) H1.out (by rw [HL.out]; exact H2.out) HA.out)
      have HAB := Lib.hid (schB_get H1.out HA.out)
      obtain ⟨⟨ca, cn, cc⟩, ⟨va, vn, vc⟩⟩ := h
      simp only at hcc HL1 D1 D2
      by_cases hp : 0 < cn
      · have hp' : (0 : Int) < (cn : Int) := by omega
        have HLast : Hid (lastI a = z - 2) := by unfold Hid lastI; rw [HL1.out, if_pos hp, HZ.out]
        obtain ⟨y, h3⟩ : ∃ y, inB ft (-1) (z - 2) = y := ⟨_, rfl⟩
        have H3 := Lib.hid h3
        have HV : Hid (forkB ats cs (k : Nat) ft = y) := HF.out.trans (by rw [HLast.out]; exact h3)
        clear h3
        have B0 := Below.refl w.heap.size w
        have s0 : w.heap.size ≤ w.heap.size := Nat.le_refl _
        go_enter Tryd.func16, Tryd.ntmps16
        have p_2 : Bx (w.alloc (.cells #[.slice (some ⟨b, off, none⟩) n c, .slice C m d] 32)) (w.heap.size) 32 #[.slice (some ⟨b, off, none⟩) n c, .slice C m d] := Bx.new _ _ _
        have B_2 := B0.alloc s0 (.cells #[.slice (some ⟨b, off, none⟩) n c, .slice C m d] 32)
        clear B0
        have cp_3 := p_2.cells
        have fp_3 := p_2.free
        clear cp_3 fp_3
        have p_4 := p_2.same (same_alloc (.cells #[.int .i64 (k : Nat), .int .i64 ft] 34) (by simp only [World.size_alloc]; omega))
        clear p_2
        have q_5 : Bx ((w.alloc (.cells #[.slice (some ⟨b, off, none⟩) n c, .slice C m d] 32)).alloc (.cells #[.int .i64 (k : Nat), .int .i64 ft] 34)) (w.heap.size + 1) 34 #[.int .i64 (k : Nat), .int .i64 ft] := by
          have h := Bx.new (w.alloc (.cells #[.slice (some ⟨b, off, none⟩) n c, .slice C m d] 32)) 34 #[.int .i64 (k : Nat), .int .i64 ft]
          simpa only [World.size_alloc] using h
        have B_5 := B_2.alloc (by simp only [World.size_alloc]; omega) (.cells #[.int .i64 (k : Nat), .int .i64 ft] 34)
        clear B_2
        have cp_6 := p_4.cells
        have fp_6 := p_4.free
        have cq_7 := q_5.cells
        have fq_7 := q_5.free
        go_wp2_with fail
        refine (iSchemaOk_any _ C n c m d hs ats cs _ (R.out.below B_5 (Nat.le_refl _))).mono ?_
        rw [H1.out]
        rintro e w1 ⟨rfl, b⟩
        clear cp_6 fp_6
        clear cq_7 fq_7
        simp only [World.size_alloc] at b
        have t_8 := b.size
        simp only [World.size_alloc] at t_8
        have z_8 : w.heap.size ≤ w1.heap.size := by omega
        have p_9 := p_4.same (same_below b (by omega))
        clear p_4
        have q_9 := q_5.same (same_below b (by omega))
        clear q_5
        have B_8 := B_5.trans (b.mono (by omega))
        clear B_5 b
        have cp_10 := p_9.cells
        have fp_10 := p_9.free
        have cq_11 := q_9.cells
        have fq_11 := q_9.free
        go_wp2_with fail
        refine (within_any _ _ _ _).mono ?_
        rw [H2.out]
        rintro e w2 ⟨rfl, rfl⟩
        have f0_12 : w1.cell? ⟨b, off + k * 3, none⟩ = some (.string a.nm) := (B_8.cell (p := ⟨b, off + k * 3, none⟩) hbl).trans D0.out
        have f1_12 : w1.cell? ⟨b, off + k * 3 + 1, none⟩ = some (.slice ca cn cc) := (B_8.cell (p := ⟨b, off + k * 3 + 1, none⟩) hbl).trans D1.out
        have f2_12 : w1.cell? ⟨b, off + k * 3 + 2, none⟩ = some (.slice va vn vc) := (B_8.cell (p := ⟨b, off + k * 3 + 2, none⟩) hbl).trans D2.out
        go_wp2_with fail
        clear cp_10 fp_10
        clear cq_11 fq_11
        have p_13 := p_9.same (same_alloc (.cells #[.string a.nm, .slice ca cn cc, .slice va vn vc] 52) (by omega))
        clear p_9
        have q_13 := q_9.same (same_alloc (.cells #[.string a.nm, .slice ca cn cc, .slice va vn vc] 52) (by omega))
        clear q_9
        have t_14 : Bx (w1.alloc (.cells #[.string a.nm, .slice ca cn cc, .slice va vn vc] 52)) (w1.heap.size) 52 #[.string a.nm, .slice ca cn cc, .slice va vn vc] := Bx.new _ _ _
        have B_14 := B_8.alloc z_8 (.cells #[.string a.nm, .slice ca cn cc, .slice va vn vc] 52)
        clear B_8
        have cp_15 := p_13.cells
        have fp_15 := p_13.free
        have cq_16 := q_13.cells
        have fq_16 := q_13.free
        have ct_17 := t_14.cells
        have ft_17 := t_14.free
        clear f0_12 f1_12 f2_12
        refine (ibins_any a ((ca, cn, cc), (va, vn, vc)) _ (HRA.out.below B_14 (Nat.le_refl _))).mono ?_
        rw [HZ.out]
        rintro e w2 ⟨rfl, b⟩
        clear cp_15 fp_15
        clear cq_16 fq_16
        clear ct_17 ft_17
        simp only [World.size_alloc] at b
        have t_18 := b.size
        simp only [World.size_alloc] at t_18
        have z_18 : w.heap.size ≤ w2.heap.size := by omega
        have p_19 := p_13.same (same_below b (by omega))
        clear p_13
        have q_19 := q_13.same (same_below b (by omega))
        clear q_13
        have t_19 := t_14.same (same_below b (by omega))
        clear t_14
        have B_18 := B_14.trans (b.mono (by omega))
        clear B_14 b
        have cp_20 := p_19.cells
        have fp_20 := p_19.free
        have cq_21 := q_19.cells
        have fq_21 := q_19.free
        have ct_22 := t_19.cells
        have ft_22 := t_19.free
        go_wp2_with fail
        refine (within_any _ _ _ _).mono ?_
        rw [show z - 1 - 1 = z - 2 by omega, H3.out]
        rintro e w3 ⟨rfl, rfl⟩
        go_wp2_with fail
        go_ret
        exact ⟨by rw [HV.out]; rfl, B_18⟩
      · obtain rfl : cn = 0 := by omega
        have HLast : Hid (lastI a = z - 1) := by unfold Hid lastI; rw [HL1.out, if_neg (by omega), HZ.out]
        obtain ⟨y, h3⟩ : ∃ y, inB ft (-1) (z - 1) = y := ⟨_, rfl⟩
        have H3 := Lib.hid h3
        have HV : Hid (forkB ats cs (k : Nat) ft = y) := HF.out.trans (by rw [HLast.out]; exact h3)
        clear h3
        have B0 := Below.refl w.heap.size w
        have s0 : w.heap.size ≤ w.heap.size := Nat.le_refl _
        go_enter Tryd.func16, Tryd.ntmps16
        have p_2 : Bx (w.alloc (.cells #[.slice (some ⟨b, off, none⟩) n c, .slice C m d] 32)) (w.heap.size) 32 #[.slice (some ⟨b, off, none⟩) n c, .slice C m d] := Bx.new _ _ _
        have B_2 := B0.alloc s0 (.cells #[.slice (some ⟨b, off, none⟩) n c, .slice C m d] 32)
        clear B0
        have cp_3 := p_2.cells
        have fp_3 := p_2.free
        clear cp_3 fp_3
        have p_4 := p_2.same (same_alloc (.cells #[.int .i64 (k : Nat), .int .i64 ft] 34) (by simp only [World.size_alloc]; omega))
        clear p_2
        have q_5 : Bx ((w.alloc (.cells #[.slice (some ⟨b, off, none⟩) n c, .slice C m d] 32)).alloc (.cells #[.int .i64 (k : Nat), .int .i64 ft] 34)) (w.heap.size + 1) 34 #[.int .i64 (k : Nat), .int .i64 ft] := by
          have h := Bx.new (w.alloc (.cells #[.slice (some ⟨b, off, none⟩) n c, .slice C m d] 32)) 34 #[.int .i64 (k : Nat), .int .i64 ft]
          simpa only [World.size_alloc] using h
        have B_5 := B_2.alloc (by simp only [World.size_alloc]; omega) (.cells #[.int .i64 (k : Nat), .int .i64 ft] 34)
        clear B_2
        have cp_6 := p_4.cells
        have fp_6 := p_4.free
        have cq_7 := q_5.cells
        have fq_7 := q_5.free
        go_wp2_with fail
        refine (iSchemaOk_any _ C n c m d hs ats cs _ (R.out.below B_5 (Nat.le_refl _))).mono ?_
        rw [H1.out]
        rintro e w1 ⟨rfl, b⟩
        clear cp_6 fp_6
        clear cq_7 fq_7
        simp only [World.size_alloc] at b
        have t_8 := b.size
        simp only [World.size_alloc] at t_8
        have z_8 : w.heap.size ≤ w1.heap.size := by omega
        have p_9 := p_4.same (same_below b (by omega))
        clear p_4
        have q_9 := q_5.same (same_below b (by omega))
        clear q_5
        have B_8 := B_5.trans (b.mono (by omega))
        clear B_5 b
        have cp_10 := p_9.cells
        have fp_10 := p_9.free
        have cq_11 := q_9.cells
        have fq_11 := q_9.free
        go_wp2_with fail
        refine (within_any _ _ _ _).mono ?_
        rw [H2.out]
        rintro e w2 ⟨rfl, rfl⟩
        have f0_12 : w1.cell? ⟨b, off + k * 3, none⟩ = some (.string a.nm) := (B_8.cell (p := ⟨b, off + k * 3, none⟩) hbl).trans D0.out
        have f1_12 : w1.cell? ⟨b, off + k * 3 + 1, none⟩ = some (.slice ca 0 cc) := (B_8.cell (p := ⟨b, off + k * 3 + 1, none⟩) hbl).trans D1.out
        have f2_12 : w1.cell? ⟨b, off + k * 3 + 2, none⟩ = some (.slice va vn vc) := (B_8.cell (p := ⟨b, off + k * 3 + 2, none⟩) hbl).trans D2.out
        go_wp2_with fail
        clear cp_10 fp_10
        clear cq_11 fq_11
        have p_13 := p_9.same (same_alloc (.cells #[.string a.nm, .slice ca 0 cc, .slice va vn vc] 52) (by omega))
        clear p_9
        have q_13 := q_9.same (same_alloc (.cells #[.string a.nm, .slice ca 0 cc, .slice va vn vc] 52) (by omega))
        clear q_9
        have t_14 : Bx (w1.alloc (.cells #[.string a.nm, .slice ca 0 cc, .slice va vn vc] 52)) (w1.heap.size) 52 #[.string a.nm, .slice ca 0 cc, .slice va vn vc] := Bx.new _ _ _
        have B_14 := B_8.alloc z_8 (.cells #[.string a.nm, .slice ca 0 cc, .slice va vn vc] 52)
        clear B_8
        have cp_15 := p_13.cells
        have fp_15 := p_13.free
        have cq_16 := q_13.cells
        have fq_16 := q_13.free
        have ct_17 := t_14.cells
        have ft_17 := t_14.free
        clear f0_12 f1_12 f2_12
        refine (ibins_any a ((ca, 0, cc), (va, vn, vc)) _ (HRA.out.below B_14 (Nat.le_refl _))).mono ?_
        rw [HZ.out]
        rintro e w2 ⟨rfl, b⟩
        clear cp_15 fp_15
        clear cq_16 fq_16
        clear ct_17 ft_17
        simp only [World.size_alloc] at b
        have t_18 := b.size
        simp only [World.size_alloc] at t_18
        have z_18 : w.heap.size ≤ w2.heap.size := by omega
        have p_19 := p_13.same (same_below b (by omega))
        clear p_13
        have q_19 := q_13.same (same_below b (by omega))
        clear q_13
        have t_19 := t_14.same (same_below b (by omega))
        clear t_14
        have B_18 := B_14.trans (b.mono (by omega))
        clear B_14 b
        have cp_20 := p_19.cells
        have fp_20 := p_19.free
        have cq_21 := q_19.cells
        have fq_21 := q_19.free
        have ct_22 := t_19.cells
        have ft_22 := t_19.free
        go_wp2_with fail
        refine (within_any _ _ _ _).mono ?_
        rw [H3.out]
        rintro e w3 ⟨rfl, rfl⟩
        go_wp2_with fail
        go_ret
        exact ⟨by rw [HV.out]; rfl, B_18⟩

set_option maxHeartbeats 4000000 in
theorem sForkOk_any (A C : Option Addr) (n c m d : Nat) (hs : List AH) (ats : List AD) (cs : List ByteArray) (fa ft : Int) (w : World) (r : Sch w A C n m d hs ats cs) :
    Calls Tryd.prog 21 #[.agg #[.slice A n c, .slice C m d], .agg #[.int .i64 fa, .int .i64 ft]] w fun e w' => e = .returned (.bool (forkB ats cs fa ft)) ∧ Below w.heap.size w w' := by
  have R := Lib.hid r
  have HL := Lib.hid r.lenA
  have hn := r.hn
  clear r
  cases h1 : schB ats cs
  · have H1 := Lib.hid h1
    have HV := Lib.hid (forkB_no1 (fa := fa) (ft := ft) h1)
    clear h1
    have B0 := Below.refl w.heap.size w
    have s0 : w.heap.size ≤ w.heap.size := Nat.le_refl _
    go_enter Tryd.func21, Tryd.ntmps21
    have p_2 : Bx (w.alloc (.cells #[.slice A n c, .slice C m d] 32)) (w.heap.size) 32 #[.slice A n c, .slice C m d] := Bx.new _ _ _
    have B_2 := B0.alloc s0 (.cells #[.slice A n c, .slice C m d] 32)
    clear B0
    have cp_3 := p_2.cells
    have fp_3 := p_2.free
    clear cp_3 fp_3
    have p_4 := p_2.same (same_alloc (.cells #[.int .i64 fa, .int .i64 ft] 34) (by simp only [World.size_alloc]; omega))
    clear p_2
    have q_5 : Bx ((w.alloc (.cells #[.slice A n c, .slice C m d] 32)).alloc (.cells #[.int .i64 fa, .int .i64 ft] 34)) (w.heap.size + 1) 34 #[.int .i64 fa, .int .i64 ft] := by
      have h := Bx.new (w.alloc (.cells #[.slice A n c, .slice C m d] 32)) 34 #[.int .i64 fa, .int .i64 ft]
      simpa only [World.size_alloc] using h
    have B_5 := B_2.alloc (by simp only [World.size_alloc]; omega) (.cells #[.int .i64 fa, .int .i64 ft] 34)
    clear B_2
    have cp_6 := p_4.cells
    have fp_6 := p_4.free
    have cq_7 := q_5.cells
    have fq_7 := q_5.free
    go_wp2_with fail
    refine (sSchemaOk_any _ C n c m d hs ats cs _ (R.out.below B_5 (Nat.le_refl _))).mono ?_
    rw [H1.out]
    rintro e w1 ⟨rfl, b⟩
    clear cp_6 fp_6
    clear cq_7 fq_7
    simp only [World.size_alloc] at b
    have t_8 := b.size
    simp only [World.size_alloc] at t_8
    have z_8 : w.heap.size ≤ w1.heap.size := by omega
    have p_9 := p_4.same (same_below b (by omega))
    clear p_4
    have q_9 := q_5.same (same_below b (by omega))
    clear q_5
    have B_8 := B_5.trans (b.mono (by omega))
    clear B_5 b
    have cp_10 := p_9.cells
    have fp_10 := p_9.free
    have cq_11 := q_9.cells
    have fq_11 := q_9.free
    go_wp2_with fail
    go_ret
    exact ⟨by rw [HV.out]; rfl, B_8⟩
  · have H1 := Lib.hid h1
    clear h1
    cases h2 : inB fa 0 ((n : Int) - 1)
    · have H2 := Lib.hid h2
      have HV := Lib.hid (forkB_no2 (cs := cs) (ft := ft) (by rw [HL.out]; exact h2 : inB fa 0 ((ats.length : Int) - 1) = false))
      clear h2
      have B0 := Below.refl w.heap.size w
      have s0 : w.heap.size ≤ w.heap.size := Nat.le_refl _
      go_enter Tryd.func21, Tryd.ntmps21
      have p_2 : Bx (w.alloc (.cells #[.slice A n c, .slice C m d] 32)) (w.heap.size) 32 #[.slice A n c, .slice C m d] := Bx.new _ _ _
      have B_2 := B0.alloc s0 (.cells #[.slice A n c, .slice C m d] 32)
      clear B0
      have cp_3 := p_2.cells
      have fp_3 := p_2.free
      clear cp_3 fp_3
      have p_4 := p_2.same (same_alloc (.cells #[.int .i64 fa, .int .i64 ft] 34) (by simp only [World.size_alloc]; omega))
      clear p_2
      have q_5 : Bx ((w.alloc (.cells #[.slice A n c, .slice C m d] 32)).alloc (.cells #[.int .i64 fa, .int .i64 ft] 34)) (w.heap.size + 1) 34 #[.int .i64 fa, .int .i64 ft] := by
        have h := Bx.new (w.alloc (.cells #[.slice A n c, .slice C m d] 32)) 34 #[.int .i64 fa, .int .i64 ft]
        simpa only [World.size_alloc] using h
      have B_5 := B_2.alloc (by simp only [World.size_alloc]; omega) (.cells #[.int .i64 fa, .int .i64 ft] 34)
      clear B_2
      have cp_6 := p_4.cells
      have fp_6 := p_4.free
      have cq_7 := q_5.cells
      have fq_7 := q_5.free
      go_wp2_with fail
      refine (sSchemaOk_any _ C n c m d hs ats cs _ (R.out.below B_5 (Nat.le_refl _))).mono ?_
      rw [H1.out]
      rintro e w1 ⟨rfl, b⟩
      clear cp_6 fp_6
      clear cq_7 fq_7
      simp only [World.size_alloc] at b
      have t_8 := b.size
      simp only [World.size_alloc] at t_8
      have z_8 : w.heap.size ≤ w1.heap.size := by omega
      have p_9 := p_4.same (same_below b (by omega))
      clear p_4
      have q_9 := q_5.same (same_below b (by omega))
      clear q_5
      have B_8 := B_5.trans (b.mono (by omega))
      clear B_5 b
      have cp_10 := p_9.cells
      have fp_10 := p_9.free
      have cq_11 := q_9.cells
      have fq_11 := q_9.free
      go_wp2_with fail
      refine (l1In_any _ _ _ _).mono ?_
      rw [H2.out]
      rintro e w2 ⟨rfl, rfl⟩
      go_wp2_with fail
      go_ret
      exact ⟨by rw [HV.out]; rfl, B_8⟩
    · have H2 := Lib.hid h2
      have hfa := inB_iff.1 h2
      obtain ⟨k, rfl⟩ := Int.eq_ofNat_of_zero_le hfa.1
      have hk : k < n := by omega
      clear h2 hfa
      obtain ⟨h, a, b, off, ha, hra, rfl, hbl, d0, d1, d2⟩ := R.out.get hk
      have hzb := binsI_bd hra
      obtain ⟨l1, l2⟩ := rdA_len hra.rd
      have hcc := hra.c
      rw [l1] at hcc
      have HA := Lib.hid ha; have HRA := Lib.hid hra; have D0 := Lib.hid d0; have D1 := Lib.hid d1; have D2 := Lib.hid d2; have HL1 := Lib.hid l1
      obtain ⟨z, hz⟩ : ∃ z, binsI a = z := ⟨_, rfl⟩
      have HZ := Lib.hid hz
      rw [hz] at hzb
      have n0 : (0 : Int) ≤ (k : Int) := Int.natCast_nonneg _
      have n1 : (k : Int) < (n : Int) := by omega
      clear ha hra d0 d1 d2 l1 l2 hz
      have HF := Lib.hid (forkB_at (ft := ft) H1.out (by rw [HL.out]; exact H2.out) HA.out)
      have HAB := Lib.hid (schB_get H1.out HA.out)
      obtain ⟨⟨ca, cn, cc⟩, ⟨va, vn, vc⟩⟩ := h
      simp only at hcc HL1 D1 D2
      by_cases hp : 0 < cn
      · have hp' : (0 : Int) < (cn : Int) := by omega
        have HLast : Hid (lastI a = z - 2) := by unfold Hid lastI; rw [HL1.out, if_pos hp, HZ.out]
        obtain ⟨y, h3⟩ : ∃ y, inB ft (-1) (z - 2) = y := ⟨_, rfl⟩
        have H3 := Lib.hid h3
        have HV : Hid (forkB ats cs (k : Nat) ft = y) := HF.out.trans (by rw [HLast.out]; exact h3)
        clear h3
        have B0 := Below.refl w.heap.size w
        have s0 : w.heap.size ≤ w.heap.size := Nat.le_refl _
        go_enter Tryd.func21, Tryd.ntmps21
        have p_2 : Bx (w.alloc (.cells #[.slice (some ⟨b, off, none⟩) n c, .slice C m d] 32)) (w.heap.size) 32 #[.slice (some ⟨b, off, none⟩) n c, .slice C m d] := Bx.new _ _ _
        have B_2 := B0.alloc s0 (.cells #[.slice (some ⟨b, off, none⟩) n c, .slice C m d] 32)
        clear B0
        have cp_3 := p_2.cells
        have fp_3 := p_2.free
        clear cp_3 fp_3
        have p_4 := p_2.same (same_alloc (.cells #[.int .i64 (k : Nat), .int .i64 ft] 34) (by simp only [World.size_alloc]; omega))
        clear p_2
        have q_5 : Bx ((w.alloc (.cells #[.slice (some ⟨b, off, none⟩) n c, .slice C m d] 32)).alloc (.cells #[.int .i64 (k : Nat), .int .i64 ft] 34)) (w.heap.size + 1) 34 #[.int .i64 (k : Nat), .int .i64 ft] := by
          have h := Bx.new (w.alloc (.cells #[.slice (some ⟨b, off, none⟩) n c, .slice C m d] 32)) 34 #[.int .i64 (k : Nat), .int .i64 ft]
          simpa only [World.size_alloc] using h
        have B_5 := B_2.alloc (by simp only [World.size_alloc]; omega) (.cells #[.int .i64 (k : Nat), .int .i64 ft] 34)
        clear B_2
        have cp_6 := p_4.cells
        have fp_6 := p_4.free
        have cq_7 := q_5.cells
        have fq_7 := q_5.free
        go_wp2_with fail
        refine (sSchemaOk_any _ C n c m d hs ats cs _ (R.out.below B_5 (Nat.le_refl _))).mono ?_
        rw [H1.out]
        rintro e w1 ⟨rfl, b⟩
        clear cp_6 fp_6
        clear cq_7 fq_7
        simp only [World.size_alloc] at b
        have t_8 := b.size
        simp only [World.size_alloc] at t_8
        have z_8 : w.heap.size ≤ w1.heap.size := by omega
        have p_9 := p_4.same (same_below b (by omega))
        clear p_4
        have q_9 := q_5.same (same_below b (by omega))
        clear q_5
        have B_8 := B_5.trans (b.mono (by omega))
        clear B_5 b
        have cp_10 := p_9.cells
        have fp_10 := p_9.free
        have cq_11 := q_9.cells
        have fq_11 := q_9.free
        go_wp2_with fail
        refine (l1In_any _ _ _ _).mono ?_
        rw [H2.out]
        rintro e w2 ⟨rfl, rfl⟩
        have f0_12 : w1.cell? ⟨b, off + k * 3, none⟩ = some (.string a.nm) := (B_8.cell (p := ⟨b, off + k * 3, none⟩) hbl).trans D0.out
        have f1_12 : w1.cell? ⟨b, off + k * 3 + 1, none⟩ = some (.slice ca cn cc) := (B_8.cell (p := ⟨b, off + k * 3 + 1, none⟩) hbl).trans D1.out
        have f2_12 : w1.cell? ⟨b, off + k * 3 + 2, none⟩ = some (.slice va vn vc) := (B_8.cell (p := ⟨b, off + k * 3 + 2, none⟩) hbl).trans D2.out
        go_wp2_with fail
        have lb : b < w1.heap.size := Nat.lt_of_lt_of_le hbl B_8.size
        have K0 : Hid (w1.cell? ⟨b, off + k * 3, none⟩ = some (.string a.nm)) := f0_12
        have K1 : Hid (w1.cell? ⟨b, off + k * 3 + 1, none⟩ = some (.slice ca cn cc)) := f1_12
        have K2 : Hid (w1.cell? ⟨b, off + k * 3 + 2, none⟩ = some (.slice va vn vc)) := f2_12
        clear f0_12 f1_12 f2_12
        have HRA2 := Lib.hid (HRA.out.below B_8 (Nat.le_refl _))
        have lp_13 := p_9.lt
        have dp0_13 : Hid (w1.cell? ⟨w.heap.size, 0, none⟩ = some (.slice (some ⟨b, off, none⟩) n c)) := p_9.cells 0
        have dp1_13 : Hid (w1.cell? ⟨w.heap.size, 1, none⟩ = some (.slice C m d)) := p_9.cells 1
        have lq_13 := q_9.lt
        have dq0_13 : Hid (w1.cell? ⟨w.heap.size + 1, 0, none⟩ = some (.int .i64 (k : Nat))) := q_9.cells 0
        have dq1_13 : Hid (w1.cell? ⟨w.heap.size + 1, 1, none⟩ = some (.int .i64 ft)) := q_9.cells 1
        clear cp_10 fp_10
        clear cq_11 fq_11
        have HA_13 := Lib.hid B_8
        go_region_held3 (fun w' => w'.cell? ⟨w.heap.size, 0, none⟩ = some (.slice (some ⟨b, off, none⟩) n c) ∧ w'.cell? ⟨w.heap.size, 1, none⟩ = some (.slice C m d) ∧ w'.cell? ⟨w.heap.size + 1, 0, none⟩ = some (.int .i64 (k : Nat)) ∧ w'.cell? ⟨w.heap.size + 1, 1, none⟩ = some (.int .i64 ft) ∧ w'.cell? ⟨b, off + k * 3, none⟩ = some (.string a.nm) ∧ w'.cell? ⟨b, off + k * 3 + 1, none⟩ = some (.slice ca cn cc) ∧ w'.cell? ⟨b, off + k * 3 + 2, none⟩ = some (.slice va vn vc) ∧ Below w1.heap.size w1 w')
          (first
            | exact ⟨dp0_13.out, dp1_13.out, dq0_13.out, dq1_13.out, K0.out, K1.out, K2.out, (Below.refl _ _).drew⟩
            | exact ⟨(Below.cell (p := ⟨w.heap.size, 0, none⟩) b7 lp_13).trans dp0_13.out, (Below.cell (p := ⟨w.heap.size, 1, none⟩) b7 lp_13).trans dp1_13.out, (Below.cell (p := ⟨w.heap.size + 1, 0, none⟩) b7 lq_13).trans dq0_13.out, (Below.cell (p := ⟨w.heap.size + 1, 1, none⟩) b7 lq_13).trans dq1_13.out, (Below.cell (p := ⟨b, off + k * 3, none⟩) b7 lb).trans K0.out, (Below.cell (p := ⟨b, off + k * 3 + 1, none⟩) b7 lb).trans K1.out, (Below.cell (p := ⟨b, off + k * 3 + 2, none⟩) b7 lb).trans K2.out, b7⟩)
          (first
            | (go_at_call 39; go_split_ands; refine (lift (W0 := w1) (B := w1.heap.size) (sBins_any a ((ca, cn, cc), (va, vn, vc)) _ (HRA2.out.below (by assumption) (Nat.le_refl _)) HAB.out) (by assumption) (Nat.le_refl _)).mono ?_; rw [HZ.out]; rintro e w2 ⟨rfl, b7⟩)
            | (go_at_call 34; refine (l1In_any _ _ _ _).mono ?_; rw [show IntKind.i64.wrap (z - 2) = z - 2 from IntWalk.i64_in _ (by omega), H3.out]; rintro e w' ⟨rfl, rfl⟩))
        have t_13 := b7.size
        have z_13 : w.heap.size ≤ w2.heap.size := by omega
        have p_14 := p_9.same (same_below b7 (by omega))
        clear p_9
        have q_14 := q_9.same (same_below b7 (by omega))
        clear q_9
        have B_13 := B_8.trans (b7.mono (by omega))
        clear B_8 b7
        have cp_15 := p_14.cells
        have fp_15 := p_14.free
        have cq_16 := q_14.cells
        have fq_16 := q_14.free
        go_wp2_with fail
        go_ret
        exact ⟨by rw [HV.out]; rfl, B_13⟩
      · obtain rfl : cn = 0 := by omega
        have HLast : Hid (lastI a = z - 1) := by unfold Hid lastI; rw [HL1.out, if_neg (by omega), HZ.out]
        obtain ⟨y, h3⟩ : ∃ y, inB ft (-1) (z - 1) = y := ⟨_, rfl⟩
        have H3 := Lib.hid h3
        have HV : Hid (forkB ats cs (k : Nat) ft = y) := HF.out.trans (by rw [HLast.out]; exact h3)
        clear h3
        have B0 := Below.refl w.heap.size w
        have s0 : w.heap.size ≤ w.heap.size := Nat.le_refl _
        go_enter Tryd.func21, Tryd.ntmps21
        have p_2 : Bx (w.alloc (.cells #[.slice (some ⟨b, off, none⟩) n c, .slice C m d] 32)) (w.heap.size) 32 #[.slice (some ⟨b, off, none⟩) n c, .slice C m d] := Bx.new _ _ _
        have B_2 := B0.alloc s0 (.cells #[.slice (some ⟨b, off, none⟩) n c, .slice C m d] 32)
        clear B0
        have cp_3 := p_2.cells
        have fp_3 := p_2.free
        clear cp_3 fp_3
        have p_4 := p_2.same (same_alloc (.cells #[.int .i64 (k : Nat), .int .i64 ft] 34) (by simp only [World.size_alloc]; omega))
        clear p_2
        have q_5 : Bx ((w.alloc (.cells #[.slice (some ⟨b, off, none⟩) n c, .slice C m d] 32)).alloc (.cells #[.int .i64 (k : Nat), .int .i64 ft] 34)) (w.heap.size + 1) 34 #[.int .i64 (k : Nat), .int .i64 ft] := by
          have h := Bx.new (w.alloc (.cells #[.slice (some ⟨b, off, none⟩) n c, .slice C m d] 32)) 34 #[.int .i64 (k : Nat), .int .i64 ft]
          simpa only [World.size_alloc] using h
        have B_5 := B_2.alloc (by simp only [World.size_alloc]; omega) (.cells #[.int .i64 (k : Nat), .int .i64 ft] 34)
        clear B_2
        have cp_6 := p_4.cells
        have fp_6 := p_4.free
        have cq_7 := q_5.cells
        have fq_7 := q_5.free
        go_wp2_with fail
        refine (sSchemaOk_any _ C n c m d hs ats cs _ (R.out.below B_5 (Nat.le_refl _))).mono ?_
        rw [H1.out]
        rintro e w1 ⟨rfl, b⟩
        clear cp_6 fp_6
        clear cq_7 fq_7
        simp only [World.size_alloc] at b
        have t_8 := b.size
        simp only [World.size_alloc] at t_8
        have z_8 : w.heap.size ≤ w1.heap.size := by omega
        have p_9 := p_4.same (same_below b (by omega))
        clear p_4
        have q_9 := q_5.same (same_below b (by omega))
        clear q_5
        have B_8 := B_5.trans (b.mono (by omega))
        clear B_5 b
        have cp_10 := p_9.cells
        have fp_10 := p_9.free
        have cq_11 := q_9.cells
        have fq_11 := q_9.free
        go_wp2_with fail
        refine (l1In_any _ _ _ _).mono ?_
        rw [H2.out]
        rintro e w2 ⟨rfl, rfl⟩
        have f0_12 : w1.cell? ⟨b, off + k * 3, none⟩ = some (.string a.nm) := (B_8.cell (p := ⟨b, off + k * 3, none⟩) hbl).trans D0.out
        have f1_12 : w1.cell? ⟨b, off + k * 3 + 1, none⟩ = some (.slice ca 0 cc) := (B_8.cell (p := ⟨b, off + k * 3 + 1, none⟩) hbl).trans D1.out
        have f2_12 : w1.cell? ⟨b, off + k * 3 + 2, none⟩ = some (.slice va vn vc) := (B_8.cell (p := ⟨b, off + k * 3 + 2, none⟩) hbl).trans D2.out
        go_wp2_with fail
        have lb : b < w1.heap.size := Nat.lt_of_lt_of_le hbl B_8.size
        have K0 : Hid (w1.cell? ⟨b, off + k * 3, none⟩ = some (.string a.nm)) := f0_12
        have K1 : Hid (w1.cell? ⟨b, off + k * 3 + 1, none⟩ = some (.slice ca 0 cc)) := f1_12
        have K2 : Hid (w1.cell? ⟨b, off + k * 3 + 2, none⟩ = some (.slice va vn vc)) := f2_12
        clear f0_12 f1_12 f2_12
        have HRA2 := Lib.hid (HRA.out.below B_8 (Nat.le_refl _))
        have lp_13 := p_9.lt
        have dp0_13 : Hid (w1.cell? ⟨w.heap.size, 0, none⟩ = some (.slice (some ⟨b, off, none⟩) n c)) := p_9.cells 0
        have dp1_13 : Hid (w1.cell? ⟨w.heap.size, 1, none⟩ = some (.slice C m d)) := p_9.cells 1
        have lq_13 := q_9.lt
        have dq0_13 : Hid (w1.cell? ⟨w.heap.size + 1, 0, none⟩ = some (.int .i64 (k : Nat))) := q_9.cells 0
        have dq1_13 : Hid (w1.cell? ⟨w.heap.size + 1, 1, none⟩ = some (.int .i64 ft)) := q_9.cells 1
        clear cp_10 fp_10
        clear cq_11 fq_11
        have HA_13 := Lib.hid B_8
        go_region_held3 (fun w' => w'.cell? ⟨w.heap.size, 0, none⟩ = some (.slice (some ⟨b, off, none⟩) n c) ∧ w'.cell? ⟨w.heap.size, 1, none⟩ = some (.slice C m d) ∧ w'.cell? ⟨w.heap.size + 1, 0, none⟩ = some (.int .i64 (k : Nat)) ∧ w'.cell? ⟨w.heap.size + 1, 1, none⟩ = some (.int .i64 ft) ∧ w'.cell? ⟨b, off + k * 3, none⟩ = some (.string a.nm) ∧ w'.cell? ⟨b, off + k * 3 + 1, none⟩ = some (.slice ca 0 cc) ∧ w'.cell? ⟨b, off + k * 3 + 2, none⟩ = some (.slice va vn vc) ∧ Below w1.heap.size w1 w')
          (first
            | exact ⟨dp0_13.out, dp1_13.out, dq0_13.out, dq1_13.out, K0.out, K1.out, K2.out, (Below.refl _ _).drew⟩
            | exact ⟨(Below.cell (p := ⟨w.heap.size, 0, none⟩) b7 lp_13).trans dp0_13.out, (Below.cell (p := ⟨w.heap.size, 1, none⟩) b7 lp_13).trans dp1_13.out, (Below.cell (p := ⟨w.heap.size + 1, 0, none⟩) b7 lq_13).trans dq0_13.out, (Below.cell (p := ⟨w.heap.size + 1, 1, none⟩) b7 lq_13).trans dq1_13.out, (Below.cell (p := ⟨b, off + k * 3, none⟩) b7 lb).trans K0.out, (Below.cell (p := ⟨b, off + k * 3 + 1, none⟩) b7 lb).trans K1.out, (Below.cell (p := ⟨b, off + k * 3 + 2, none⟩) b7 lb).trans K2.out, b7⟩)
          (first
            | (go_at_call 39; go_split_ands; refine (lift (W0 := w1) (B := w1.heap.size) (sBins_any a ((ca, 0, cc), (va, vn, vc)) _ (HRA2.out.below (by assumption) (Nat.le_refl _)) HAB.out) (by assumption) (Nat.le_refl _)).mono ?_; rw [HZ.out]; rintro e w2 ⟨rfl, b7⟩)
            | (go_at_call 34; refine (l1In_any _ _ _ _).mono ?_; rw [show IntKind.i64.wrap (z - 1) = z - 1 from IntWalk.i64_in _ (by omega), H3.out]; rintro e w' ⟨rfl, rfl⟩))
        have t_13 := b7.size
        have z_13 : w.heap.size ≤ w2.heap.size := by omega
        have p_14 := p_9.same (same_below b7 (by omega))
        clear p_9
        have q_14 := q_9.same (same_below b7 (by omega))
        clear q_9
        have B_13 := B_8.trans (b7.mono (by omega))
        clear B_8 b7
        have cp_15 := p_14.cells
        have fp_15 := p_14.free
        have cq_16 := q_14.cells
        have fq_16 := q_14.free
        go_wp2_with fail
        go_ret
        exact ⟨by rw [HV.out]; rfl, B_13⟩

end Go.Proofs.YtchkmcikpamdeaaDoor
