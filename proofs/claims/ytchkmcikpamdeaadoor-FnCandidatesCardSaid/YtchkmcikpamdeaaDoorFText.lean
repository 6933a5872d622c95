/-
  ForkText of both packages: the attribute's name, what is asked of it, and the value.
-/
import Derived.Test.YtchkmcikpamdeaaDoorFork
import Derived.Test.YtchkmcikpamdeaaDoorDig
import Derived.Test.YtchkmcikpamdeaaDoorShelfD
import Derived.Lib.AppendIntMem
import Derived.Deep.RegionHeld3
import Derived.BigRegion
import Derived.Deep.DeepCutAuto
import Derived.Deep.CutBlock
import Derived.BigQuiet
namespace Go.Proofs.YtchkmcikpamdeaaDoor
open Go.RowKit
set_option linter.unusedSimpArgs false
set_option linter.unusedVariables false
abbrev Tab (w : World) : Prop := Lib.TabIs Tryd.prog w "internal/strconv.uint64pow10" .u64 Lib.pow10Tab
theorem Tab.below {w w' : World} (h : Tab w) (hb : Below w.heap.size w w') : Tab w' := Lib.tabBelow_of_tabIs h w' hb
theorem iDigits_any (n : Int) (h0 : -1000000 ≤ n) (h1 : n ≤ 1000000) (w : World) (ht : Tab w) :
    Calls Tryd.prog 25 #[.int .i64 n] w fun e w' => e = .returned (.string ⟨(Lib.itoa n).toArray⟩) ∧ Below w.heap.size w w' := by
  go_enter Tryd.func25, Tryd.ntmps25
  go_wp2_with fail
  refine (Tryd.strconv_Itoa n (by omega) (by omega) w ht).mono ?_
  rintro e w1 ⟨rfl, k, os, rfl⟩
  have HB := Lib.hid (Lib.below_grow w.heap.size w (Nat.le_refl _) k os)
  obtain ⟨S, hS⟩ : ∃ S, (⟨(Lib.itoa n).toArray⟩ : ByteArray) = S := ⟨_, rfl⟩
  obtain ⟨w1, hw⟩ : ∃ w1, Go.Sort.grow (w.drewN k) os = w1 := ⟨_, rfl⟩
  rw [hw] at HB ⊢
  rw [hS]
  have HSS := Lib.hid hS
  clear hw hS
  go_wp2_with fail
  go_ret
  exact ⟨by rw [HSS.out]; rfl, HB.out⟩
/-- The text behind the name. -/
def ftA (a : AD) (ft : Int) : ByteArray := if ft = -1 then a.nm ++ ⟨#[42]⟩ else if 0 < a.cuts.length then a.nm ++ ⟨#[60, 61]⟩ ++ ⟨(Lib.itoa (a.cuts.getD ft.toNat 0)).toArray⟩ else a.nm ++ ⟨#[61]⟩ ++ a.vals.getD ft.toNat ByteArray.empty
def ftS (ats : List AD) (cs : List ByteArray) (fa ft : Int) : ByteArray := if forkB ats cs fa ft = true then ftA (atA ats fa) ft else ⟨#[]⟩
theorem word_size {s : ByteArray} (h : wordB s = true) : s.size ≤ 8 := by
  unfold wordB at h
  simp only [Bool.and_eq_true] at h
  have := inB_iff.1 h.1; omega
theorem nm_size {a : AD} (h : attrB a = true) : a.nm.size ≤ 8 := by
  unfold attrB at h
  simp only [Bool.and_eq_true] at h
  exact word_size h.1
theorem ft_cut {a : AD} {t : Nat} (h : attrB a = true) (hl : inB (t : Nat) (-1) (lastI a) = true) (hp : 0 < a.cuts.length) : ∃ x, a.cuts[t]? = some x ∧ t < a.cuts.length ∧ -10000 ≤ x ∧ x ≤ 10000 := by
  have h1 := inB_iff.1 hl
  unfold lastI binsI at h1
  rw [if_pos hp, if_pos hp] at h1
  have ht : t < a.cuts.length := by omega
  refine ⟨a.cuts[t], List.getElem?_eq_getElem ht, ht, ?_⟩
  unfold attrB at h
  simp only [Bool.and_eq_true] at h
  have h2 := h.2
  rw [if_neg (by omega)] at h2
  simp only [Bool.and_eq_true] at h2
  have h3 := h2.2
  unfold cutsB at h3
  simp only [Bool.and_eq_true, List.all_eq_true] at h3
  have := inB_iff.1 (h3.2 _ (List.getElem_mem ht))
  omega
theorem ft_val {a : AD} {t : Nat} (h : attrB a = true) (hl : inB (t : Nat) (-1) (lastI a) = true) (hp : a.cuts.length = 0) : ∃ s, a.vals[t]? = some s ∧ t < a.vals.length ∧ s.size ≤ 8 := by
  have h1 := inB_iff.1 hl
  unfold lastI binsI at h1
  rw [if_neg (by omega), if_neg (by omega)] at h1
  have ht : t < a.vals.length := by omega
  refine ⟨a.vals[t], List.getElem?_eq_getElem ht, ht, ?_⟩
  unfold attrB at h
  simp only [Bool.and_eq_true] at h
  have h2 := h.2
  rw [if_pos hp] at h2
  simp only [Bool.and_eq_true] at h2
  have h3 := allB_iff.1 h2.2 t ht
  simp only [Bool.and_eq_true] at h3
  have h4 := h3.1
  rw [show a.vals.getD t ByteArray.empty = a.vals[t] by simp [List.getD, ht]] at h4
  exact word_size h4
theorem itoa_size {x : Int} (h0 : -1000000 ≤ x) (h1 : x ≤ 1000000) : (⟨(Lib.itoa x).toArray⟩ : ByteArray).size ≤ 21 := Lib.itoa_length_le x (by omega) (by omega)

set_option maxRecDepth 20000 in
set_option maxHeartbeats 8000000 in
theorem sForkText_any (A C : Option Addr) (n c m d : Nat) (hs : List AH) (ats : List AD) (cs : List ByteArray) (fa ft : Int) (w : World) (r : Sch w A C n m d hs ats cs) :
    Calls Tryd.prog 6 #[.agg #[.slice A n c, .slice C m d], .agg #[.int .i64 fa, .int .i64 ft]] w fun e w' => e = .returned (.string (ftS ats cs fa ft)) ∧ Below w.heap.size w w' := by
  have R := Lib.hid r
  have HL := Lib.hid r.lenA
  have hn := r.hn
  clear r
  cases h0 : forkB ats cs fa ft
  · have H0 := Lib.hid h0
    have HV : Hid (ftS ats cs fa ft = ⟨#[]⟩) := by unfold Hid ftS; rw [h0]; rfl
    clear h0
    have B0 := Below.refl w.heap.size w
    have s0 : w.heap.size ≤ w.heap.size := Nat.le_refl _
    go_enter Tryd.func6, Tryd.ntmps6
    have p_2 : Bx (w.alloc (.cells #[.slice A n c, .slice C m d] 32)) (w.heap.size) 32 #[.slice A n c, .slice C m d] := Bx.new _ _ _
    have B_2 := B0.alloc s0 (.cells #[.slice A n c, .slice C m d] 32)
    clear B0
    have cp_3 := p_2.cells
    have fp_3 := p_2.free
    clear cp_3 fp_3
    have p_4 := p_2.same (same_alloc (.cells #[.int .i64 fa, .int .i64 ft] 34) (by simp only [World.size_alloc]; omega))
    clear p_2
    have q_5 : Bx ((w.alloc (.cells #[.slice A n c, .slice C m d] 32)).alloc (.cells #[.int .i64 fa, .int .i64 ft] 34)) (w.heap.size + 1) 34 #[.int .i64 fa, .int .i64 ft] := by
      have h := Bx.new (w.alloc (.cells #[.slice A n c, .slice C m d] 32)) 34 #[.int .i64 fa, .int .i64 ft]
      simpa only [World.size_alloc] using h
    have B_5 := B_2.alloc (by simp only [World.size_alloc]; omega) (.cells #[.int .i64 fa, .int .i64 ft] 34)
    clear B_2
    have cp_6 := p_4.cells
    have fp_6 := p_4.free
    have cq_7 := q_5.cells
    have fq_7 := q_5.free
    go_wp2_with fail
    refine (sForkOk_any _ C n c m d hs ats cs _ _ _ (R.out.below B_5 (Nat.le_refl _))).mono ?_
    rw [H0.out]
    rintro e w1 ⟨rfl, b1⟩
    clear cp_6 fp_6
    clear cq_7 fq_7
    simp only [World.size_alloc] at b1
    have t_8 := b1.size
    simp only [World.size_alloc] at t_8
    have z_8 : w.heap.size ≤ w1.heap.size := by omega
    have p_9 := p_4.same (same_below b1 (by omega))
    clear p_4
    have q_9 := q_5.same (same_below b1 (by omega))
    clear q_5
    have B_8 := B_5.trans (b1.mono (by omega))
    clear B_5 b1
    have cp_10 := p_9.cells
    have fp_10 := p_9.free
    have cq_11 := q_9.cells
    have fq_11 := q_9.free
    go_wp2_with fail
    go_ret
    exact ⟨by rw [HV.out]; rfl, B_8⟩
  · obtain ⟨h1, k, a0, rfl, ha0, hk, h3⟩ := forkB_yes h0
    have H0 := Lib.hid h0
    rw [HL.out] at hk
    clear h0
    obtain ⟨h, a, b, off, ha, hra, rfl, hbl, d0, d1, d2⟩ := R.out.get hk
    obtain rfl : a0 = a := Option.some.inj (ha0.symm.trans ha)
    obtain ⟨l1, l2⟩ := rdA_len hra.rd
    have HA := Lib.hid ha; have HRA := Lib.hid hra; have D0 := Lib.hid d0; have D1 := Lib.hid d1; have D2 := Lib.hid d2; have HL1 := Lib.hid l1; have HL2 := Lib.hid l2; have H3 := Lib.hid h3
    have n0 : (0 : Int) ≤ (k : Int) := Int.natCast_nonneg _
    have n1 : (k : Int) < (n : Int) := by omega
    have HAB := Lib.hid (schB_get h1 ha)
    have hnm := nm_size HAB.out
    have HAt : Hid (atA ats (k : Nat) = a0) := atA_get ha
    obtain ⟨nm, hnmv⟩ : ∃ nm, a0.nm = nm := ⟨_, rfl⟩
    have HNm := Lib.hid hnmv
    rw [hnmv] at hnm d0 D0
    clear ha hra d0 d1 d2 l1 l2 h1 ha0 h3 hnmv
    have hcv := HRA.out.c; have hvv := HRA.out.v
    obtain ⟨⟨ca, cn, cc⟩, ⟨va, vn, vc⟩⟩ := h
    simp only at HL1 HL2 D1 D2
    rw [HL1.out] at hcv; rw [HL2.out] at hvv
    by_cases hft : ft = -1
    · subst hft
      have HV : Hid (ftS ats cs (k : Nat) (-1) = nm ++ ⟨#[42]⟩) := by unfold Hid ftS ftA; rw [H0.out, if_pos rfl, HAt.out, if_pos rfl, HNm.out]
      have hsz : ¬ 9223372036854775807 < nm.size + 1 := by omega
      have B0 := Below.refl w.heap.size w
      have s0 : w.heap.size ≤ w.heap.size := Nat.le_refl _
      go_enter Tryd.func6, Tryd.ntmps6
      have p_2 : Bx (w.alloc (.cells #[.slice (some ⟨b, off, none⟩) n c, .slice C m d] 32)) (w.heap.size) 32 #[.slice (some ⟨b, off, none⟩) n c, .slice C m d] := Bx.new _ _ _
      have B_2 := B0.alloc s0 (.cells #[.slice (some ⟨b, off, none⟩) n c, .slice C m d] 32)
      clear B0
      have cp_3 := p_2.cells
      have fp_3 := p_2.free
      clear cp_3 fp_3
      have p_4 := p_2.same (same_alloc (.cells #[.int .i64 (k : Nat), .int .i64 (-1)] 34) (by simp only [World.size_alloc]; omega))
      clear p_2
      have q_5 : Bx ((w.alloc (.cells #[.slice (some ⟨b, off, none⟩) n c, .slice C m d] 32)).alloc (.cells #[.int .i64 (k : Nat), .int .i64 (-1)] 34)) (w.heap.size + 1) 34 #[.int .i64 (k : Nat), .int .i64 (-1)] := by
        have h := Bx.new (w.alloc (.cells #[.slice (some ⟨b, off, none⟩) n c, .slice C m d] 32)) 34 #[.int .i64 (k : Nat), .int .i64 (-1)]
        simpa only [World.size_alloc] using h
      have B_5 := B_2.alloc (by simp only [World.size_alloc]; omega) (.cells #[.int .i64 (k : Nat), .int .i64 (-1)] 34)
      clear B_2
      have cp_6 := p_4.cells
      have fp_6 := p_4.free
      have cq_7 := q_5.cells
      have fq_7 := q_5.free
      go_wp2_with fail
      refine (sForkOk_any _ C n c m d hs ats cs _ _ _ (R.out.below B_5 (Nat.le_refl _))).mono ?_
      rw [H0.out]
      rintro e w1 ⟨rfl, b1⟩
      clear cp_6 fp_6
      clear cq_7 fq_7
      simp only [World.size_alloc] at b1
      have t_8 := b1.size
      simp only [World.size_alloc] at t_8
      have z_8 : w.heap.size ≤ w1.heap.size := by omega
      have p_9 := p_4.same (same_below b1 (by omega))
      clear p_4
      have q_9 := q_5.same (same_below b1 (by omega))
      clear q_5
      have B_8 := B_5.trans (b1.mono (by omega))
      clear B_5 b1
      have cp_10 := p_9.cells
      have fp_10 := p_9.free
      have cq_11 := q_9.cells
      have fq_11 := q_9.free
      have f0_12 : w1.cell? ⟨b, off + k * 3, none⟩ = some (.string nm) := (B_8.cell (p := ⟨b, off + k * 3, none⟩) hbl).trans D0.out
      have f1_12 : w1.cell? ⟨b, off + k * 3 + 1, none⟩ = some (.slice ca cn cc) := (B_8.cell (p := ⟨b, off + k * 3 + 1, none⟩) hbl).trans D1.out
      have f2_12 : w1.cell? ⟨b, off + k * 3 + 2, none⟩ = some (.slice va vn vc) := (B_8.cell (p := ⟨b, off + k * 3 + 2, none⟩) hbl).trans D2.out
      go_upto_region 4 with fail
      clear f0_12 f1_12 f2_12
      clear cp_10 fp_10
      clear cq_11 fq_11
      have p_13 := p_9.same (same_alloc (.cells #[.string nm, .slice ca cn cc, .slice va vn vc] 52) (by omega))
      clear p_9
      have q_13 := q_9.same (same_alloc (.cells #[.string nm, .slice ca cn cc, .slice va vn vc] 52) (by omega))
      clear q_9
      have ab_14 : Bx (w1.alloc (.cells #[.string nm, .slice ca cn cc, .slice va vn vc] 52)) (w1.heap.size) 52 #[.string nm, .slice ca cn cc, .slice va vn vc] := Bx.new _ _ _
      have B_14 := B_8.alloc z_8 (.cells #[.string nm, .slice ca cn cc, .slice va vn vc] 52)
      clear B_8
      have cp_15 := p_13.cells
      have fp_15 := p_13.free
      have cq_16 := q_13.cells
      have fq_16 := q_13.free
      have cab_17 := ab_14.cells
      have fab_17 := ab_14.free
      go_wp2_with fail
      go_ret
      exact ⟨by rw [HV.out]; rfl, B_14⟩
    · have hft0 : 0 ≤ ft := by have := inB_iff.1 H3.out; omega
      obtain ⟨t, rfl⟩ := Int.eq_ofNat_of_zero_le hft0
      clear hft0 hft
      by_cases hp : 0 < cn
      · skip
        have B0 := Below.refl w.heap.size w
        have s0 : w.heap.size ≤ w.heap.size := Nat.le_refl _
        go_enter Tryd.func6, Tryd.ntmps6
        have p_2 : Bx (w.alloc (.cells #[.slice (some ⟨b, off, none⟩) n c, .slice C m d] 32)) (w.heap.size) 32 #[.slice (some ⟨b, off, none⟩) n c, .slice C m d] := Bx.new _ _ _
        have B_2 := B0.alloc s0 (.cells #[.slice (some ⟨b, off, none⟩) n c, .slice C m d] 32)
        clear B0
        have cp_3 := p_2.cells
        have fp_3 := p_2.free
        clear cp_3 fp_3
        have p_4 := p_2.same (same_alloc (.cells #[.int .i64 (k : Nat), .int .i64 (t : Nat)] 34) (by simp only [World.size_alloc]; omega))
        clear p_2
        have q_5 : Bx ((w.alloc (.cells #[.slice (some ⟨b, off, none⟩) n c, .slice C m d] 32)).alloc (.cells #[.int .i64 (k : Nat), .int .i64 (t : Nat)] 34)) (w.heap.size + 1) 34 #[.int .i64 (k : Nat), .int .i64 (t : Nat)] := by
          have h := Bx.new (w.alloc (.cells #[.slice (some ⟨b, off, none⟩) n c, .slice C m d] 32)) 34 #[.int .i64 (k : Nat), .int .i64 (t : Nat)]
          simpa only [World.size_alloc] using h
        have B_5 := B_2.alloc (by simp only [World.size_alloc]; omega) (.cells #[.int .i64 (k : Nat), .int .i64 (t : Nat)] 34)
        clear B_2
        have cp_6 := p_4.cells
        have fp_6 := p_4.free
        have cq_7 := q_5.cells
        have fq_7 := q_5.free
        go_wp2_with fail
        refine (sForkOk_any _ C n c m d hs ats cs _ _ _ (R.out.below B_5 (Nat.le_refl _))).mono ?_
        rw [H0.out]
        rintro e w1 ⟨rfl, b1⟩
        clear cp_6 fp_6
        clear cq_7 fq_7
        simp only [World.size_alloc] at b1
        have t_8 := b1.size
        simp only [World.size_alloc] at t_8
        have z_8 : w.heap.size ≤ w1.heap.size := by omega
        have p_9 := p_4.same (same_below b1 (by omega))
        clear p_4
        have q_9 := q_5.same (same_below b1 (by omega))
        clear q_5
        have B_8 := B_5.trans (b1.mono (by omega))
        clear B_5 b1
        have cp_10 := p_9.cells
        have fp_10 := p_9.free
        have cq_11 := q_9.cells
        have fq_11 := q_9.free
        have f0_12 : w1.cell? ⟨b, off + k * 3, none⟩ = some (.string nm) := (B_8.cell (p := ⟨b, off + k * 3, none⟩) hbl).trans D0.out
        have f1_12 : w1.cell? ⟨b, off + k * 3 + 1, none⟩ = some (.slice ca cn cc) := (B_8.cell (p := ⟨b, off + k * 3 + 1, none⟩) hbl).trans D1.out
        have f2_12 : w1.cell? ⟨b, off + k * 3 + 2, none⟩ = some (.slice va vn vc) := (B_8.cell (p := ⟨b, off + k * 3 + 2, none⟩) hbl).trans D2.out
        go_upto_region 4 with fail
        clear f0_12 f1_12 f2_12
        clear cp_10 fp_10
        clear cq_11 fq_11
        have p_13 := p_9.same (same_alloc (.cells #[.string nm, .slice ca cn cc, .slice va vn vc] 52) (by omega))
        clear p_9
        have q_13 := q_9.same (same_alloc (.cells #[.string nm, .slice ca cn cc, .slice va vn vc] 52) (by omega))
        clear q_9
        have ab_14 : Bx (w1.alloc (.cells #[.string nm, .slice ca cn cc, .slice va vn vc] 52)) (w1.heap.size) 52 #[.string nm, .slice ca cn cc, .slice va vn vc] := Bx.new _ _ _
        have B_14 := B_8.alloc z_8 (.cells #[.string nm, .slice ca cn cc, .slice va vn vc] 52)
        clear B_8
        have cp_15 := p_13.cells
        have fp_15 := p_13.free
        have cq_16 := q_13.cells
        have fq_16 := q_13.free
        have cab_17 := ab_14.cells
        have fab_17 := ab_14.free
        have e1 : ((t : Int) == -1) = false := beq_false_of_ne (by omega)
        have e2 : ¬ (t : Int) = -1 := by omega
        have e3 : decide ((t : Int) = -1) = false := decide_eq_false e2
        have k1 : (0 : Int) < (cn : Int) := by omega
        have k2 : decide (0 < cn) = true := decide_eq_true hp
        go_upto_region 7 with fail
        clear cp_15 fp_15
        clear cq_16 fq_16
        clear cab_17 fab_17
        obtain ⟨v18, hv18⟩ : ∃ v18, v18 = (w1.alloc (.cells #[.string nm, .slice ca cn cc, .slice va vn vc] 52)) := ⟨_, rfl⟩
        have zv18 : w1.heap.size + 1 ≤ v18.heap.size := by rw [hv18]; simp
        rw [← hv18] at p_13 q_13 ab_14 B_14 ⊢
        clear hv18
        have HAbx := Lib.hid ab_14; have HQbx := Lib.hid q_13; have HAc := Lib.hid B_14; have HHP := Lib.hid p_13
        have la := ab_14.lt; have lq := q_13.lt; have hzv := B_14.size
        clear ab_14 q_13 B_14 p_13
        obtain ⟨x, hx, htl, hx0, hx1⟩ := ft_cut HAB.out H3.out (by rw [HL1.out]; exact hp)
        obtain ⟨cb, co, rfl, hcb, hcc⟩ := (HRA.out.below HAc.out (Nat.le_refl _)).rd.cuts.ex hp
        have hcell := hcc t (.int .i64 x) (by rw [List.getElem?_map, hx]; rfl)
        rw [HL1.out] at htl
        have n2 : (0 : Int) ≤ (t : Int) := Int.natCast_nonneg _
        have n3 : (t : Int) < (cn : Int) := by omega
        have HV : Hid (ftS ats cs (k : Nat) (t : Nat) = nm ++ ⟨#[60, 61]⟩ ++ ⟨(Lib.itoa x).toArray⟩) := by unfold Hid ftS ftA; rw [H0.out, if_pos rfl, HAt.out, if_neg (by omega), HL1.out, if_pos hp, HNm.out]; simp [List.getD, hx]
        have hsz := itoa_size (x := x) (by omega) (by omega)
        obtain ⟨DG, hDG⟩ : ∃ DG, (⟨(Lib.itoa x).toArray⟩ : ByteArray) = DG := ⟨_, rfl⟩
        rw [hDG] at hsz
        have HDG := Lib.hid hDG
        have z1 : ¬ 9223372036854775807 < nm.size + 2 := by omega
        obtain ⟨NM2, hN2⟩ : ∃ NM2, nm ++ ⟨#[60, 61]⟩ = NM2 := ⟨_, rfl⟩
        have hs2 : NM2.size = nm.size + 2 := by rw [← hN2, ByteArray.size_append]; rfl
        have z2 : ¬ 9223372036854775807 < NM2.size + DG.size := by omega
        have HN2 := Lib.hid hN2
        rw [hDG, hN2] at HV
        have HC := Lib.hid hcell
        clear hx hcell hcc hDG hs2 hsz hcb e1 e2 e3 k1 k2
        have HCb : Hid (cb < v18.heap.size) := World.block_lt_of_cell? _ ⟨cb, co + t, none⟩ HC.out
        have HKe : Hid (∀ w' : World, Below v18.heap.size v18 w' → w'.cell? ⟨w1.heap.size, 0, none⟩ = some (.string nm) ∧ w'.cell? ⟨w1.heap.size, 1, none⟩ = some (.slice (some ⟨cb, co, none⟩) cn cc) ∧ w'.cell? ⟨w.heap.size + 1, 1, none⟩ = some (.int .i64 (t : Nat)) ∧ w'.cell? ⟨cb, co + t, none⟩ = some (.int .i64 x)) := fun w' hk => by
          have e1 := HAbx.out.same (same_below hk la)
          have e2 := HQbx.out.same (same_below hk lq)
          exact ⟨e1.cells 0, e1.cells 1, e2.cells 1, (hk.cell (p := ⟨cb, co + t, none⟩) (HCb.out)).trans HC.out⟩
        have HDr : Hid (Below v18.heap.size v18 v18.drew) := (Below.refl _ _).drew
        refine wp_region_held_drew (S := fun w' => w'.cell? ⟨w1.heap.size, 0, none⟩ = some (.string nm) ∧ w'.cell? ⟨w1.heap.size, 1, none⟩ = some (.slice (some ⟨cb, co, none⟩) cn cc) ∧ w'.cell? ⟨w.heap.size + 1, 1, none⟩ = some (.int .i64 (t : Nat)) ∧ w'.cell? ⟨cb, co + t, none⟩ = some (.int .i64 x)) (by kernel_rfl) (HKe.out _ HDr.out) ?_
        intro hS; (try dsimp only at hS)
        refine wpAnyH_take (i := 0) (v := ?v1x) rfl (by kernel_rfl) (by kernel_rfl) (by kernel_rfl) (fun _ _ _ h => h) (Or.inl ⟨by rfl, ?hy1x⟩) hS ?rest1x
        case hy1x => (intro w' hSw; (try dsimp only at hSw); go_simp; (try (with_reducible rfl)))
        (try simp only [Act.put, List.setIfInBounds_toArray, List.set_cons_zero, List.set_cons_succ, List.getElem_toArray, List.getElem_cons_succ, List.getElem_cons_zero])
        refine wpAnyH_take (i := 1) (v := ?v2x) rfl (by kernel_rfl) (by kernel_rfl) (by kernel_rfl) (fun _ _ _ h => h) (Or.inl ⟨by rfl, ?hy2x⟩) hS ?rest2x
        case hy2x => (intro w' hSw; (try dsimp only at hSw); go_simp; (try (with_reducible rfl)))
        (try simp only [Act.put, List.setIfInBounds_toArray, List.set_cons_zero, List.set_cons_succ, List.getElem_toArray, List.getElem_cons_succ, List.getElem_cons_zero])
        refine wpAnyH_take (i := 2) (v := ?v3x) rfl (by kernel_rfl) (by kernel_rfl) (by kernel_rfl) (fun _ _ _ h => h) (Or.inl ⟨by rfl, ?hy3x⟩) hS ?rest3x
        case hy3x => (intro w' hSw; (try dsimp only at hSw); go_simp; (try (with_reducible rfl)))
        (try simp only [Act.put, List.setIfInBounds_toArray, List.set_cons_zero, List.set_cons_succ, List.getElem_toArray, List.getElem_cons_succ, List.getElem_cons_zero])
        refine wpAnyH_take (i := 3) (v := ?v4x) rfl (by kernel_rfl) (by kernel_rfl) (by kernel_rfl) (fun _ _ _ h => h) (Or.inl ⟨by rfl, ?hy4x⟩) hS ?rest4x
        case hy4x => (intro w' hSw; (try dsimp only at hSw); go_simp; (try (with_reducible rfl)))
        (try simp only [Act.put, List.setIfInBounds_toArray, List.set_cons_zero, List.set_cons_succ, List.getElem_toArray, List.getElem_cons_succ, List.getElem_cons_zero])
        refine wpAnyH_take (i := 4) (v := ?v5x) rfl (by kernel_rfl) (by kernel_rfl) (by kernel_rfl) (fun _ _ _ h => h) (Or.inl ⟨by rfl, ?hy5x⟩) hS ?rest5x
        case hy5x => (intro w' hSw; (try dsimp only at hSw); go_simp; (try (with_reducible rfl)))
        (try simp only [Act.put, List.setIfInBounds_toArray, List.set_cons_zero, List.set_cons_succ, List.getElem_toArray, List.getElem_cons_succ, List.getElem_cons_zero])
        refine wpAnyH_take (i := 5) (v := ?v6x) rfl (by kernel_rfl) (by kernel_rfl) (by kernel_rfl) (fun _ _ _ h => h) (Or.inl ⟨by rfl, ?hy6x⟩) hS ?rest6x
        case hy6x => (intro w' hSw; (try dsimp only at hSw); go_simp; (try (with_reducible rfl)))
        (try simp only [Act.put, List.setIfInBounds_toArray, List.set_cons_zero, List.set_cons_succ, List.getElem_toArray, List.getElem_cons_succ, List.getElem_cons_zero])
        refine wpAnyH_take (i := 6) (v := ?v7x) rfl (by kernel_rfl) (by kernel_rfl) (by kernel_rfl) (fun _ _ _ h => h) (Or.inl ⟨by rfl, ?hy7x⟩) hS ?rest7x
        case hy7x => (intro w' hSw; (try dsimp only at hSw); go_simp; (try (with_reducible rfl)))
        (try simp only [Act.put, List.setIfInBounds_toArray, List.set_cons_zero, List.set_cons_succ, List.getElem_toArray, List.getElem_cons_succ, List.getElem_cons_zero])
        refine wpAnyH_take (i := 7) (v := ?v8x) rfl (by kernel_rfl) (by kernel_rfl) (by kernel_rfl) (fun _ _ _ h => h) (Or.inl ⟨by rfl, ?hy8x⟩) hS ?rest8x
        case hy8x => (intro w' hSw; (try dsimp only at hSw); go_simp; (try (with_reducible rfl)))
        (try simp only [Act.put, List.setIfInBounds_toArray, List.set_cons_zero, List.set_cons_succ, List.getElem_toArray, List.getElem_cons_succ, List.getElem_cons_zero])
        refine wpAnyH_take (i := 8) (v := ?v9x) rfl (by kernel_rfl) (by kernel_rfl) (by kernel_rfl) (fun _ _ _ h => h) (Or.inl ⟨by rfl, ?hy9x⟩) hS ?rest9x
        case hy9x => (intro w' hSw; (try dsimp only at hSw); go_simp; (try (with_reducible rfl)))
        (try simp only [Act.put, List.setIfInBounds_toArray, List.set_cons_zero, List.set_cons_succ, List.getElem_toArray, List.getElem_cons_succ, List.getElem_cons_zero])
        refine wpAnyH_ready (rs := [9]) (by kernel_rfl) (by simp) ?_
        refine AllReadyH.cons rfl (fun K hK => ?_) AllReadyH.nil
        (try dsimp only [List.getElem_toArray, List.getElem_cons_succ, List.getElem_cons_zero])
        (go_simp; (refine (sDigits_any x (by omega) (by omega) _).mono ?_); rw [HDG.out]; rintro e q3 ⟨rfl, b3⟩; dsimp only)
        have hB3 : Below v18.heap.size v18 q3 := HDr.out.trans (b3.mono (Nat.le_refl _))
        refine hK.out _ _ (HKe.out _ hB3) (fun hS9 => ?_)
        clear hK K hS; have hS := hS9; clear hS9; (try dsimp only at hS)
        (try simp only [Act.put, List.setIfInBounds_toArray, List.set_cons_zero, List.set_cons_succ, List.getElem_toArray, List.getElem_cons_succ, List.getElem_cons_zero])
        refine wpAnyH_take (i := 10) (v := ?v10x) rfl (by kernel_rfl) (by kernel_rfl) (by kernel_rfl) (fun _ _ _ h => h) (Or.inl ⟨by rfl, ?hy10x⟩) hS ?rest10x
        case hy10x => (intro w' hSw; (try dsimp only at hSw); go_simp; (try (with_reducible rfl)))
        (try simp only [Act.put, List.setIfInBounds_toArray, List.set_cons_zero, List.set_cons_succ, List.getElem_toArray, List.getElem_cons_succ, List.getElem_cons_zero])
        refine wpAnyH_take (i := 11) (v := ?v11x) rfl (by kernel_rfl) (by kernel_rfl) (by kernel_rfl) (fun _ _ _ h => h) (Or.inl ⟨by rfl, ?hy11x⟩) hS ?rest11x
        case hy11x => (intro w' hSw; (try dsimp only at hSw); go_simp; (try (with_reducible rfl)))
        (try simp only [Act.put, List.setIfInBounds_toArray, List.set_cons_zero, List.set_cons_succ, List.getElem_toArray, List.getElem_cons_succ, List.getElem_cons_zero])
        refine wpAnyH_done (by kernel_rfl) ?_ _
        go_wp2_with fail
        go_ret
        exact ⟨by rw [HV.out]; rfl, HAc.out.trans (hB3.mono hzv)⟩
      · obtain rfl : cn = 0 := by omega
        have B0 := Below.refl w.heap.size w
        have s0 : w.heap.size ≤ w.heap.size := Nat.le_refl _
        go_enter Tryd.func6, Tryd.ntmps6
        have p_2 : Bx (w.alloc (.cells #[.slice (some ⟨b, off, none⟩) n c, .slice C m d] 32)) (w.heap.size) 32 #[.slice (some ⟨b, off, none⟩) n c, .slice C m d] := Bx.new _ _ _
        have B_2 := B0.alloc s0 (.cells #[.slice (some ⟨b, off, none⟩) n c, .slice C m d] 32)
        clear B0
        have cp_3 := p_2.cells
        have fp_3 := p_2.free
        clear cp_3 fp_3
        have p_4 := p_2.same (same_alloc (.cells #[.int .i64 (k : Nat), .int .i64 (t : Nat)] 34) (by simp only [World.size_alloc]; omega))
        clear p_2
        have q_5 : Bx ((w.alloc (.cells #[.slice (some ⟨b, off, none⟩) n c, .slice C m d] 32)).alloc (.cells #[.int .i64 (k : Nat), .int .i64 (t : Nat)] 34)) (w.heap.size + 1) 34 #[.int .i64 (k : Nat), .int .i64 (t : Nat)] := by
          have h := Bx.new (w.alloc (.cells #[.slice (some ⟨b, off, none⟩) n c, .slice C m d] 32)) 34 #[.int .i64 (k : Nat), .int .i64 (t : Nat)]
          simpa only [World.size_alloc] using h
        have B_5 := B_2.alloc (by simp only [World.size_alloc]; omega) (.cells #[.int .i64 (k : Nat), .int .i64 (t : Nat)] 34)
        clear B_2
        have cp_6 := p_4.cells
        have fp_6 := p_4.free
        have cq_7 := q_5.cells
        have fq_7 := q_5.free
        go_wp2_with fail
        refine (sForkOk_any _ C n c m d hs ats cs _ _ _ (R.out.below B_5 (Nat.le_refl _))).mono ?_
        rw [H0.out]
        rintro e w1 ⟨rfl, b1⟩
        clear cp_6 fp_6
        clear cq_7 fq_7
        simp only [World.size_alloc] at b1
        have t_8 := b1.size
        simp only [World.size_alloc] at t_8
        have z_8 : w.heap.size ≤ w1.heap.size := by omega
        have p_9 := p_4.same (same_below b1 (by omega))
        clear p_4
        have q_9 := q_5.same (same_below b1 (by omega))
        clear q_5
        have B_8 := B_5.trans (b1.mono (by omega))
        clear B_5 b1
        have cp_10 := p_9.cells
        have fp_10 := p_9.free
        have cq_11 := q_9.cells
        have fq_11 := q_9.free
        have f0_12 : w1.cell? ⟨b, off + k * 3, none⟩ = some (.string nm) := (B_8.cell (p := ⟨b, off + k * 3, none⟩) hbl).trans D0.out
        have f1_12 : w1.cell? ⟨b, off + k * 3 + 1, none⟩ = some (.slice ca 0 cc) := (B_8.cell (p := ⟨b, off + k * 3 + 1, none⟩) hbl).trans D1.out
        have f2_12 : w1.cell? ⟨b, off + k * 3 + 2, none⟩ = some (.slice va vn vc) := (B_8.cell (p := ⟨b, off + k * 3 + 2, none⟩) hbl).trans D2.out
        go_upto_region 4 with fail
        clear f0_12 f1_12 f2_12
        clear cp_10 fp_10
        clear cq_11 fq_11
        have p_13 := p_9.same (same_alloc (.cells #[.string nm, .slice ca 0 cc, .slice va vn vc] 52) (by omega))
        clear p_9
        have q_13 := q_9.same (same_alloc (.cells #[.string nm, .slice ca 0 cc, .slice va vn vc] 52) (by omega))
        clear q_9
        have ab_14 : Bx (w1.alloc (.cells #[.string nm, .slice ca 0 cc, .slice va vn vc] 52)) (w1.heap.size) 52 #[.string nm, .slice ca 0 cc, .slice va vn vc] := Bx.new _ _ _
        have B_14 := B_8.alloc z_8 (.cells #[.string nm, .slice ca 0 cc, .slice va vn vc] 52)
        clear B_8
        have cp_15 := p_13.cells
        have fp_15 := p_13.free
        have cq_16 := q_13.cells
        have fq_16 := q_13.free
        have cab_17 := ab_14.cells
        have fab_17 := ab_14.free
        have e1 : ((t : Int) == -1) = false := beq_false_of_ne (by omega)
        have e2 : ¬ (t : Int) = -1 := by omega
        have e3 : decide ((t : Int) = -1) = false := decide_eq_false e2
        have k1 : ¬ (0 : Int) < (0 : Int) := by omega
        go_upto_region 8 with fail
        clear cp_15 fp_15
        clear cq_16 fq_16
        clear cab_17 fab_17
        obtain ⟨v18, hv18⟩ : ∃ v18, v18 = (w1.alloc (.cells #[.string nm, .slice ca 0 cc, .slice va vn vc] 52)) := ⟨_, rfl⟩
        have zv18 : w1.heap.size + 1 ≤ v18.heap.size := by rw [hv18]; simp
        rw [← hv18] at p_13 q_13 ab_14 B_14 ⊢
        clear hv18
        have HAbx := Lib.hid ab_14; have HQbx := Lib.hid q_13; have HAc := Lib.hid B_14; have HHP := Lib.hid p_13
        have la := ab_14.lt; have lq := q_13.lt; have hzv := B_14.size
        clear ab_14 q_13 B_14 p_13
        obtain ⟨sv, hx, htl, hsz⟩ := ft_val HAB.out H3.out HL1.out
        rw [HL2.out] at htl
        obtain ⟨vb, vo, rfl, hvb, hvc⟩ := (HRA.out.below HAc.out (Nat.le_refl _)).rd.vals.ex (by show 0 < vn; omega)
        have hcell := hvc t (.string sv) (by rw [List.getElem?_map, hx]; rfl)
        have n2 : (0 : Int) ≤ (t : Int) := Int.natCast_nonneg _
        have n3 : (t : Int) < (vn : Int) := by omega
        have HV : Hid (ftS ats cs (k : Nat) (t : Nat) = nm ++ ⟨#[61]⟩ ++ sv) := by unfold Hid ftS ftA; rw [H0.out, if_pos rfl, HAt.out, if_neg (by omega), HL1.out, if_neg (by omega), HNm.out]; simp [List.getD, hx]
        have z1 : ¬ 9223372036854775807 < nm.size + 1 := by omega
        obtain ⟨NM2, hN2⟩ : ∃ NM2, nm ++ ⟨#[61]⟩ = NM2 := ⟨_, rfl⟩
        have hs2 : NM2.size = nm.size + 1 := by rw [← hN2, ByteArray.size_append]; rfl
        have z2 : ¬ 9223372036854775807 < NM2.size + sv.size := by omega
        have HN2 := Lib.hid hN2
        rw [hN2] at HV
        have HC := Lib.hid hcell; have HX := Lib.hid hx; have HVc := Lib.hid hvc
        clear hx hcell hvc hs2 hsz hvb e1 e2 e3 k1
        have HCb : Hid (vb < v18.heap.size) := World.block_lt_of_cell? _ ⟨vb, vo + t, none⟩ HC.out
        have HKe : Hid (∀ w' : World, Below v18.heap.size v18 w' → w'.cell? ⟨w1.heap.size, 0, none⟩ = some (.string nm) ∧ w'.cell? ⟨w1.heap.size, 2, none⟩ = some (.slice (some ⟨vb, vo, none⟩) vn vc) ∧ w'.cell? ⟨w.heap.size + 1, 1, none⟩ = some (.int .i64 (t : Nat)) ∧ w'.cell? ⟨vb, vo + t, none⟩ = some (.string sv)) := fun w' hk => by
          have e1 := HAbx.out.same (same_below hk la)
          have e2 := HQbx.out.same (same_below hk lq)
          exact ⟨e1.cells 0, e1.cells 2, e2.cells 1, (hk.cell (p := ⟨vb, vo + t, none⟩) (HCb.out)).trans HC.out⟩
        have HDr : Hid (Below v18.heap.size v18 v18.drew) := (Below.refl _ _).drew
        refine wp_region_held_drew (S := fun w' => w'.cell? ⟨w1.heap.size, 0, none⟩ = some (.string nm) ∧ w'.cell? ⟨w1.heap.size, 2, none⟩ = some (.slice (some ⟨vb, vo, none⟩) vn vc) ∧ w'.cell? ⟨w.heap.size + 1, 1, none⟩ = some (.int .i64 (t : Nat)) ∧ w'.cell? ⟨vb, vo + t, none⟩ = some (.string sv)) (by kernel_rfl) (HKe.out _ HDr.out) ?_
        intro hS; (try dsimp only at hS)
        refine wpAnyH_take (i := 0) (v := ?v12x) rfl (by kernel_rfl) (by kernel_rfl) (by kernel_rfl) (fun _ _ _ h => h) (Or.inl ⟨by rfl, ?hy12x⟩) hS ?rest12x
        case hy12x => (intro w' hSw; (try dsimp only at hSw); go_simp; (try (with_reducible rfl)))
        (try simp only [Act.put, List.setIfInBounds_toArray, List.set_cons_zero, List.set_cons_succ, List.getElem_toArray, List.getElem_cons_succ, List.getElem_cons_zero])
        refine wpAnyH_take (i := 1) (v := ?v13x) rfl (by kernel_rfl) (by kernel_rfl) (by kernel_rfl) (fun _ _ _ h => h) (Or.inl ⟨by rfl, ?hy13x⟩) hS ?rest13x
        case hy13x => (intro w' hSw; (try dsimp only at hSw); go_simp; (try (with_reducible rfl)))
        (try simp only [Act.put, List.setIfInBounds_toArray, List.set_cons_zero, List.set_cons_succ, List.getElem_toArray, List.getElem_cons_succ, List.getElem_cons_zero])
        refine wpAnyH_take (i := 2) (v := ?v14x) rfl (by kernel_rfl) (by kernel_rfl) (by kernel_rfl) (fun _ _ _ h => h) (Or.inl ⟨by rfl, ?hy14x⟩) hS ?rest14x
        case hy14x => (intro w' hSw; (try dsimp only at hSw); go_simp; (try (with_reducible rfl)))
        (try simp only [Act.put, List.setIfInBounds_toArray, List.set_cons_zero, List.set_cons_succ, List.getElem_toArray, List.getElem_cons_succ, List.getElem_cons_zero])
        refine wpAnyH_take (i := 3) (v := ?v15x) rfl (by kernel_rfl) (by kernel_rfl) (by kernel_rfl) (fun _ _ _ h => h) (Or.inl ⟨by rfl, ?hy15x⟩) hS ?rest15x
        case hy15x => (intro w' hSw; (try dsimp only at hSw); go_simp; (try (with_reducible rfl)))
        (try simp only [Act.put, List.setIfInBounds_toArray, List.set_cons_zero, List.set_cons_succ, List.getElem_toArray, List.getElem_cons_succ, List.getElem_cons_zero])
        refine wpAnyH_take (i := 4) (v := ?v16x) rfl (by kernel_rfl) (by kernel_rfl) (by kernel_rfl) (fun _ _ _ h => h) (Or.inl ⟨by rfl, ?hy16x⟩) hS ?rest16x
        case hy16x => (intro w' hSw; (try dsimp only at hSw); go_simp; (try (with_reducible rfl)))
        (try simp only [Act.put, List.setIfInBounds_toArray, List.set_cons_zero, List.set_cons_succ, List.getElem_toArray, List.getElem_cons_succ, List.getElem_cons_zero])
        refine wpAnyH_take (i := 5) (v := ?v17x) rfl (by kernel_rfl) (by kernel_rfl) (by kernel_rfl) (fun _ _ _ h => h) (Or.inl ⟨by rfl, ?hy17x⟩) hS ?rest17x
        case hy17x => (intro w' hSw; (try dsimp only at hSw); go_simp; (try (with_reducible rfl)))
        (try simp only [Act.put, List.setIfInBounds_toArray, List.set_cons_zero, List.set_cons_succ, List.getElem_toArray, List.getElem_cons_succ, List.getElem_cons_zero])
        refine wpAnyH_take (i := 6) (v := ?v18x) rfl (by kernel_rfl) (by kernel_rfl) (by kernel_rfl) (fun _ _ _ h => h) (Or.inl ⟨by rfl, ?hy18x⟩) hS ?rest18x
        case hy18x => (intro w' hSw; (try dsimp only at hSw); go_simp; (try (with_reducible rfl)))
        (try simp only [Act.put, List.setIfInBounds_toArray, List.set_cons_zero, List.set_cons_succ, List.getElem_toArray, List.getElem_cons_succ, List.getElem_cons_zero])
        refine wpAnyH_take (i := 7) (v := ?v19x) rfl (by kernel_rfl) (by kernel_rfl) (by kernel_rfl) (fun _ _ _ h => h) (Or.inl ⟨by rfl, ?hy19x⟩) hS ?rest19x
        case hy19x => (intro w' hSw; (try dsimp only at hSw); go_simp; (try (with_reducible rfl)))
        (try simp only [Act.put, List.setIfInBounds_toArray, List.set_cons_zero, List.set_cons_succ, List.getElem_toArray, List.getElem_cons_succ, List.getElem_cons_zero])
        refine wpAnyH_take (i := 8) (v := ?v20x) rfl (by kernel_rfl) (by kernel_rfl) (by kernel_rfl) (fun _ _ _ h => h) (Or.inl ⟨by rfl, ?hy20x⟩) hS ?rest20x
        case hy20x => (intro w' hSw; (try dsimp only at hSw); go_simp; (try (with_reducible rfl)))
        (try simp only [Act.put, List.setIfInBounds_toArray, List.set_cons_zero, List.set_cons_succ, List.getElem_toArray, List.getElem_cons_succ, List.getElem_cons_zero])
        refine wpAnyH_take (i := 9) (v := ?v21x) rfl (by kernel_rfl) (by kernel_rfl) (by kernel_rfl) (fun _ _ _ h => h) (Or.inl ⟨by rfl, ?hy21x⟩) hS ?rest21x
        case hy21x => (intro w' hSw; (try dsimp only at hSw); go_simp; (try (with_reducible rfl)))
        (try simp only [Act.put, List.setIfInBounds_toArray, List.set_cons_zero, List.set_cons_succ, List.getElem_toArray, List.getElem_cons_succ, List.getElem_cons_zero])
        refine wpAnyH_take (i := 10) (v := ?v22x) rfl (by kernel_rfl) (by kernel_rfl) (by kernel_rfl) (fun _ _ _ h => h) (Or.inl ⟨by rfl, ?hy22x⟩) hS ?rest22x
        case hy22x => (intro w' hSw; (try dsimp only at hSw); go_simp; (try (with_reducible rfl)))
        (try simp only [Act.put, List.setIfInBounds_toArray, List.set_cons_zero, List.set_cons_succ, List.getElem_toArray, List.getElem_cons_succ, List.getElem_cons_zero])
        refine wpAnyH_done (by kernel_rfl) ?_ _
        go_wp2_with fail
        go_ret
        exact ⟨by rw [HV.out]; rfl, HAc.out.trans (HDr.out.mono hzv)⟩

set_option maxRecDepth 20000 in
set_option maxHeartbeats 8000000 in
theorem iForkText_any (A C : Option Addr) (n c m d : Nat) (hs : List AH) (ats : List AD) (cs : List ByteArray) (fa ft : Int) (w : World) (r : Sch w A C n m d hs ats cs) (htab : Tab w) :
    Calls Tryd.prog 9 #[.agg #[.slice A n c, .slice C m d], .agg #[.int .i64 fa, .int .i64 ft]] w fun e w' => e = .returned (.string (ftS ats cs fa ft)) ∧ Below w.heap.size w w' := by
  have R := Lib.hid r
  have HL := Lib.hid r.lenA
  have hn := r.hn
  clear r
  have HTb := Lib.hid htab
  clear htab
  cases h0 : forkB ats cs fa ft
  · have H0 := Lib.hid h0
    have HV : Hid (ftS ats cs fa ft = ⟨#[]⟩) := by unfold Hid ftS; rw [h0]; rfl
    clear h0
    have B0 := Below.refl w.heap.size w
    have s0 : w.heap.size ≤ w.heap.size := Nat.le_refl _
    go_enter Tryd.func9, Tryd.ntmps9
    have p_2 : Bx (w.alloc (.cells #[.slice A n c, .slice C m d] 32)) (w.heap.size) 32 #[.slice A n c, .slice C m d] := Bx.new _ _ _
    have B_2 := B0.alloc s0 (.cells #[.slice A n c, .slice C m d] 32)
    clear B0
    have cp_3 := p_2.cells
    have fp_3 := p_2.free
    clear cp_3 fp_3
    have p_4 := p_2.same (same_alloc (.cells #[.int .i64 fa, .int .i64 ft] 34) (by simp only [World.size_alloc]; omega))
    clear p_2
    have q_5 : Bx ((w.alloc (.cells #[.slice A n c, .slice C m d] 32)).alloc (.cells #[.int .i64 fa, .int .i64 ft] 34)) (w.heap.size + 1) 34 #[.int .i64 fa, .int .i64 ft] := by
      have h := Bx.new (w.alloc (.cells #[.slice A n c, .slice C m d] 32)) 34 #[.int .i64 fa, .int .i64 ft]
      simpa only [World.size_alloc] using h
    have B_5 := B_2.alloc (by simp only [World.size_alloc]; omega) (.cells #[.int .i64 fa, .int .i64 ft] 34)
    clear B_2
    have cp_6 := p_4.cells
    have fp_6 := p_4.free
    have cq_7 := q_5.cells
    have fq_7 := q_5.free
    go_wp2_with fail
    refine (iForkOk_any _ C n c m d hs ats cs _ _ _ (R.out.below B_5 (Nat.le_refl _))).mono ?_
    rw [H0.out]
    rintro e w1 ⟨rfl, b1⟩
    clear cp_6 fp_6
    clear cq_7 fq_7
    simp only [World.size_alloc] at b1
    have t_8 := b1.size
    simp only [World.size_alloc] at t_8
    have z_8 : w.heap.size ≤ w1.heap.size := by omega
    have p_9 := p_4.same (same_below b1 (by omega))
    clear p_4
    have q_9 := q_5.same (same_below b1 (by omega))
    clear q_5
    have B_8 := B_5.trans (b1.mono (by omega))
    clear B_5 b1
    have cp_10 := p_9.cells
    have fp_10 := p_9.free
    have cq_11 := q_9.cells
    have fq_11 := q_9.free
    go_wp2_with fail
    go_ret
    exact ⟨by rw [HV.out]; rfl, B_8⟩
  · obtain ⟨h1, k, a0, rfl, ha0, hk, h3⟩ := forkB_yes h0
    have H0 := Lib.hid h0
    rw [HL.out] at hk
    clear h0
    obtain ⟨h, a, b, off, ha, hra, rfl, hbl, d0, d1, d2⟩ := R.out.get hk
    obtain rfl : a0 = a := Option.some.inj (ha0.symm.trans ha)
    obtain ⟨l1, l2⟩ := rdA_len hra.rd
    have HA := Lib.hid ha; have HRA := Lib.hid hra; have D0 := Lib.hid d0; have D1 := Lib.hid d1; have D2 := Lib.hid d2; have HL1 := Lib.hid l1; have HL2 := Lib.hid l2; have H3 := Lib.hid h3
    have n0 : (0 : Int) ≤ (k : Int) := Int.natCast_nonneg _
    have n1 : (k : Int) < (n : Int) := by omega
    have HAB := Lib.hid (schB_get h1 ha)
    have hnm := nm_size HAB.out
    have HAt : Hid (atA ats (k : Nat) = a0) := atA_get ha
    obtain ⟨nm, hnmv⟩ : ∃ nm, a0.nm = nm := ⟨_, rfl⟩
    have HNm := Lib.hid hnmv
    rw [hnmv] at hnm d0 D0
    clear ha hra d0 d1 d2 l1 l2 h1 ha0 h3 hnmv
    have hcv := HRA.out.c; have hvv := HRA.out.v
    obtain ⟨⟨ca, cn, cc⟩, ⟨va, vn, vc⟩⟩ := h
    simp only at HL1 HL2 D1 D2
    rw [HL1.out] at hcv; rw [HL2.out] at hvv
    by_cases hft : ft = -1
    · subst hft
      have HV : Hid (ftS ats cs (k : Nat) (-1) = nm ++ ⟨#[42]⟩) := by unfold Hid ftS ftA; rw [H0.out, if_pos rfl, HAt.out, if_pos rfl, HNm.out]
      have hsz : ¬ 9223372036854775807 < nm.size + 1 := by omega
      have B0 := Below.refl w.heap.size w
      have s0 : w.heap.size ≤ w.heap.size := Nat.le_refl _
      go_enter Tryd.func9, Tryd.ntmps9
      have p_2 : Bx (w.alloc (.cells #[.slice (some ⟨b, off, none⟩) n c, .slice C m d] 32)) (w.heap.size) 32 #[.slice (some ⟨b, off, none⟩) n c, .slice C m d] := Bx.new _ _ _
      have B_2 := B0.alloc s0 (.cells #[.slice (some ⟨b, off, none⟩) n c, .slice C m d] 32)
      clear B0
      have cp_3 := p_2.cells
      have fp_3 := p_2.free
      clear cp_3 fp_3
      have p_4 := p_2.same (same_alloc (.cells #[.int .i64 (k : Nat), .int .i64 (-1)] 34) (by simp only [World.size_alloc]; omega))
      clear p_2
      have q_5 : Bx ((w.alloc (.cells #[.slice (some ⟨b, off, none⟩) n c, .slice C m d] 32)).alloc (.cells #[.int .i64 (k : Nat), .int .i64 (-1)] 34)) (w.heap.size + 1) 34 #[.int .i64 (k : Nat), .int .i64 (-1)] := by
        have h := Bx.new (w.alloc (.cells #[.slice (some ⟨b, off, none⟩) n c, .slice C m d] 32)) 34 #[.int .i64 (k : Nat), .int .i64 (-1)]
        simpa only [World.size_alloc] using h
      have B_5 := B_2.alloc (by simp only [World.size_alloc]; omega) (.cells #[.int .i64 (k : Nat), .int .i64 (-1)] 34)
      clear B_2
      have cp_6 := p_4.cells
      have fp_6 := p_4.free
      have cq_7 := q_5.cells
      have fq_7 := q_5.free
      go_wp2_with fail
      refine (iForkOk_any _ C n c m d hs ats cs _ _ _ (R.out.below B_5 (Nat.le_refl _))).mono ?_
      rw [H0.out]
      rintro e w1 ⟨rfl, b1⟩
      clear cp_6 fp_6
      clear cq_7 fq_7
      simp only [World.size_alloc] at b1
      have t_8 := b1.size
      simp only [World.size_alloc] at t_8
      have z_8 : w.heap.size ≤ w1.heap.size := by omega
      have p_9 := p_4.same (same_below b1 (by omega))
      clear p_4
      have q_9 := q_5.same (same_below b1 (by omega))
      clear q_5
      have B_8 := B_5.trans (b1.mono (by omega))
      clear B_5 b1
      have cp_10 := p_9.cells
      have fp_10 := p_9.free
      have cq_11 := q_9.cells
      have fq_11 := q_9.free
      have f0_12 : w1.cell? ⟨b, off + k * 3, none⟩ = some (.string nm) := (B_8.cell (p := ⟨b, off + k * 3, none⟩) hbl).trans D0.out
      have f1_12 : w1.cell? ⟨b, off + k * 3 + 1, none⟩ = some (.slice ca cn cc) := (B_8.cell (p := ⟨b, off + k * 3 + 1, none⟩) hbl).trans D1.out
      have f2_12 : w1.cell? ⟨b, off + k * 3 + 2, none⟩ = some (.slice va vn vc) := (B_8.cell (p := ⟨b, off + k * 3 + 2, none⟩) hbl).trans D2.out
      go_upto_region 4 with fail
      clear f0_12 f1_12 f2_12
      clear cp_10 fp_10
      clear cq_11 fq_11
      have p_13 := p_9.same (same_alloc (.cells #[.string nm, .slice ca cn cc, .slice va vn vc] 52) (by omega))
      clear p_9
      have q_13 := q_9.same (same_alloc (.cells #[.string nm, .slice ca cn cc, .slice va vn vc] 52) (by omega))
      clear q_9
      have ab_14 : Bx (w1.alloc (.cells #[.string nm, .slice ca cn cc, .slice va vn vc] 52)) (w1.heap.size) 52 #[.string nm, .slice ca cn cc, .slice va vn vc] := Bx.new _ _ _
      have B_14 := B_8.alloc z_8 (.cells #[.string nm, .slice ca cn cc, .slice va vn vc] 52)
      clear B_8
      have cp_15 := p_13.cells
      have fp_15 := p_13.free
      have cq_16 := q_13.cells
      have fq_16 := q_13.free
      have cab_17 := ab_14.cells
      have fab_17 := ab_14.free
      go_wp2_with fail
      go_ret
      exact ⟨by rw [HV.out]; rfl, B_14⟩
    · have hft0 : 0 ≤ ft := by have := inB_iff.1 H3.out; omega
      obtain ⟨t, rfl⟩ := Int.eq_ofNat_of_zero_le hft0
      clear hft0 hft
      by_cases hp : 0 < cn
      · skip
        have B0 := Below.refl w.heap.size w
        have s0 : w.heap.size ≤ w.heap.size := Nat.le_refl _
        go_enter Tryd.func9, Tryd.ntmps9
        have p_2 : Bx (w.alloc (.cells #[.slice (some ⟨b, off, none⟩) n c, .slice C m d] 32)) (w.heap.size) 32 #[.slice (some ⟨b, off, none⟩) n c, .slice C m d] := Bx.new _ _ _
        have B_2 := B0.alloc s0 (.cells #[.slice (some ⟨b, off, none⟩) n c, .slice C m d] 32)
        clear B0
        have cp_3 := p_2.cells
        have fp_3 := p_2.free
        clear cp_3 fp_3
        have p_4 := p_2.same (same_alloc (.cells #[.int .i64 (k : Nat), .int .i64 (t : Nat)] 34) (by simp only [World.size_alloc]; omega))
        clear p_2
        have q_5 : Bx ((w.alloc (.cells #[.slice (some ⟨b, off, none⟩) n c, .slice C m d] 32)).alloc (.cells #[.int .i64 (k : Nat), .int .i64 (t : Nat)] 34)) (w.heap.size + 1) 34 #[.int .i64 (k : Nat), .int .i64 (t : Nat)] := by
          have h := Bx.new (w.alloc (.cells #[.slice (some ⟨b, off, none⟩) n c, .slice C m d] 32)) 34 #[.int .i64 (k : Nat), .int .i64 (t : Nat)]
          simpa only [World.size_alloc] using h
        have B_5 := B_2.alloc (by simp only [World.size_alloc]; omega) (.cells #[.int .i64 (k : Nat), .int .i64 (t : Nat)] 34)
        clear B_2
        have cp_6 := p_4.cells
        have fp_6 := p_4.free
        have cq_7 := q_5.cells
        have fq_7 := q_5.free
        go_wp2_with fail
        refine (iForkOk_any _ C n c m d hs ats cs _ _ _ (R.out.below B_5 (Nat.le_refl _))).mono ?_
        rw [H0.out]
        rintro e w1 ⟨rfl, b1⟩
        clear cp_6 fp_6
        clear cq_7 fq_7
        simp only [World.size_alloc] at b1
        have t_8 := b1.size
        simp only [World.size_alloc] at t_8
        have z_8 : w.heap.size ≤ w1.heap.size := by omega
        have p_9 := p_4.same (same_below b1 (by omega))
        clear p_4
        have q_9 := q_5.same (same_below b1 (by omega))
        clear q_5
        have B_8 := B_5.trans (b1.mono (by omega))
        clear B_5 b1
        have cp_10 := p_9.cells
        have fp_10 := p_9.free
        have cq_11 := q_9.cells
        have fq_11 := q_9.free
        have f0_12 : w1.cell? ⟨b, off + k * 3, none⟩ = some (.string nm) := (B_8.cell (p := ⟨b, off + k * 3, none⟩) hbl).trans D0.out
        have f1_12 : w1.cell? ⟨b, off + k * 3 + 1, none⟩ = some (.slice ca cn cc) := (B_8.cell (p := ⟨b, off + k * 3 + 1, none⟩) hbl).trans D1.out
        have f2_12 : w1.cell? ⟨b, off + k * 3 + 2, none⟩ = some (.slice va vn vc) := (B_8.cell (p := ⟨b, off + k * 3 + 2, none⟩) hbl).trans D2.out
        go_upto_region 4 with fail
        clear f0_12 f1_12 f2_12
        clear cp_10 fp_10
        clear cq_11 fq_11
        have p_13 := p_9.same (same_alloc (.cells #[.string nm, .slice ca cn cc, .slice va vn vc] 52) (by omega))
        clear p_9
        have q_13 := q_9.same (same_alloc (.cells #[.string nm, .slice ca cn cc, .slice va vn vc] 52) (by omega))
        clear q_9
        have ab_14 : Bx (w1.alloc (.cells #[.string nm, .slice ca cn cc, .slice va vn vc] 52)) (w1.heap.size) 52 #[.string nm, .slice ca cn cc, .slice va vn vc] := Bx.new _ _ _
        have B_14 := B_8.alloc z_8 (.cells #[.string nm, .slice ca cn cc, .slice va vn vc] 52)
        clear B_8
        have cp_15 := p_13.cells
        have fp_15 := p_13.free
        have cq_16 := q_13.cells
        have fq_16 := q_13.free
        have cab_17 := ab_14.cells
        have fab_17 := ab_14.free
        have e1 : ((t : Int) == -1) = false := beq_false_of_ne (by omega)
        have e2 : ¬ (t : Int) = -1 := by omega
        have e3 : decide ((t : Int) = -1) = false := decide_eq_false e2
        have k1 : (0 : Int) < (cn : Int) := by omega
        have k2 : decide (0 < cn) = true := decide_eq_true hp
        go_upto_region 7 with fail
        clear cp_15 fp_15
        clear cq_16 fq_16
        clear cab_17 fab_17
        obtain ⟨v18, hv18⟩ : ∃ v18, v18 = (w1.alloc (.cells #[.string nm, .slice ca cn cc, .slice va vn vc] 52)) := ⟨_, rfl⟩
        have zv18 : w1.heap.size + 1 ≤ v18.heap.size := by rw [hv18]; simp
        rw [← hv18] at p_13 q_13 ab_14 B_14 ⊢
        clear hv18
        have HAbx := Lib.hid ab_14; have HQbx := Lib.hid q_13; have HAc := Lib.hid B_14; have HHP := Lib.hid p_13
        have la := ab_14.lt; have lq := q_13.lt; have hzv := B_14.size
        clear ab_14 q_13 B_14 p_13
        obtain ⟨x, hx, htl, hx0, hx1⟩ := ft_cut HAB.out H3.out (by rw [HL1.out]; exact hp)
        obtain ⟨cb, co, rfl, hcb, hcc⟩ := (HRA.out.below HAc.out (Nat.le_refl _)).rd.cuts.ex hp
        have hcell := hcc t (.int .i64 x) (by rw [List.getElem?_map, hx]; rfl)
        rw [HL1.out] at htl
        have n2 : (0 : Int) ≤ (t : Int) := Int.natCast_nonneg _
        have n3 : (t : Int) < (cn : Int) := by omega
        have HV : Hid (ftS ats cs (k : Nat) (t : Nat) = nm ++ ⟨#[60, 61]⟩ ++ ⟨(Lib.itoa x).toArray⟩) := by unfold Hid ftS ftA; rw [H0.out, if_pos rfl, HAt.out, if_neg (by omega), HL1.out, if_pos hp, HNm.out]; simp [List.getD, hx]
        have hsz := itoa_size (x := x) (by omega) (by omega)
        obtain ⟨DG, hDG⟩ : ∃ DG, (⟨(Lib.itoa x).toArray⟩ : ByteArray) = DG := ⟨_, rfl⟩
        rw [hDG] at hsz
        have HDG := Lib.hid hDG
        have z1 : ¬ 9223372036854775807 < nm.size + 2 := by omega
        obtain ⟨NM2, hN2⟩ : ∃ NM2, nm ++ ⟨#[60, 61]⟩ = NM2 := ⟨_, rfl⟩
        have hs2 : NM2.size = nm.size + 2 := by rw [← hN2, ByteArray.size_append]; rfl
        have z2 : ¬ 9223372036854775807 < NM2.size + DG.size := by omega
        have HN2 := Lib.hid hN2
        rw [hDG, hN2] at HV
        have HC := Lib.hid hcell
        clear hx hcell hcc hDG hs2 hsz hcb e1 e2 e3 k1 k2
        have HCb : Hid (cb < v18.heap.size) := World.block_lt_of_cell? _ ⟨cb, co + t, none⟩ HC.out
        have HKe : Hid (∀ w' : World, Below v18.heap.size v18 w' → w'.cell? ⟨w1.heap.size, 0, none⟩ = some (.string nm) ∧ w'.cell? ⟨w1.heap.size, 1, none⟩ = some (.slice (some ⟨cb, co, none⟩) cn cc) ∧ w'.cell? ⟨w.heap.size + 1, 1, none⟩ = some (.int .i64 (t : Nat)) ∧ w'.cell? ⟨cb, co + t, none⟩ = some (.int .i64 x)) := fun w' hk => by
          have e1 := HAbx.out.same (same_below hk la)
          have e2 := HQbx.out.same (same_below hk lq)
          exact ⟨e1.cells 0, e1.cells 1, e2.cells 1, (hk.cell (p := ⟨cb, co + t, none⟩) (HCb.out)).trans HC.out⟩
        have HDr : Hid (Below v18.heap.size v18 v18.drew) := (Below.refl _ _).drew
        refine wp_region_held_drew (S := fun w' => w'.cell? ⟨w1.heap.size, 0, none⟩ = some (.string nm) ∧ w'.cell? ⟨w1.heap.size, 1, none⟩ = some (.slice (some ⟨cb, co, none⟩) cn cc) ∧ w'.cell? ⟨w.heap.size + 1, 1, none⟩ = some (.int .i64 (t : Nat)) ∧ w'.cell? ⟨cb, co + t, none⟩ = some (.int .i64 x)) (by kernel_rfl) (HKe.out _ HDr.out) ?_
        intro hS; (try dsimp only at hS)
        refine wpAnyH_take (i := 0) (v := ?v23x) rfl (by kernel_rfl) (by kernel_rfl) (by kernel_rfl) (fun _ _ _ h => h) (Or.inl ⟨by rfl, ?hy23x⟩) hS ?rest23x
        case hy23x => (intro w' hSw; (try dsimp only at hSw); go_simp; (try (with_reducible rfl)))
        (try simp only [Act.put, List.setIfInBounds_toArray, List.set_cons_zero, List.set_cons_succ, List.getElem_toArray, List.getElem_cons_succ, List.getElem_cons_zero])
        refine wpAnyH_take (i := 1) (v := ?v24x) rfl (by kernel_rfl) (by kernel_rfl) (by kernel_rfl) (fun _ _ _ h => h) (Or.inl ⟨by rfl, ?hy24x⟩) hS ?rest24x
        case hy24x => (intro w' hSw; (try dsimp only at hSw); go_simp; (try (with_reducible rfl)))
        (try simp only [Act.put, List.setIfInBounds_toArray, List.set_cons_zero, List.set_cons_succ, List.getElem_toArray, List.getElem_cons_succ, List.getElem_cons_zero])
        refine wpAnyH_take (i := 2) (v := ?v25x) rfl (by kernel_rfl) (by kernel_rfl) (by kernel_rfl) (fun _ _ _ h => h) (Or.inl ⟨by rfl, ?hy25x⟩) hS ?rest25x
        case hy25x => (intro w' hSw; (try dsimp only at hSw); go_simp; (try (with_reducible rfl)))
        (try simp only [Act.put, List.setIfInBounds_toArray, List.set_cons_zero, List.set_cons_succ, List.getElem_toArray, List.getElem_cons_succ, List.getElem_cons_zero])
        refine wpAnyH_take (i := 3) (v := ?v26x) rfl (by kernel_rfl) (by kernel_rfl) (by kernel_rfl) (fun _ _ _ h => h) (Or.inl ⟨by rfl, ?hy26x⟩) hS ?rest26x
        case hy26x => (intro w' hSw; (try dsimp only at hSw); go_simp; (try (with_reducible rfl)))
        (try simp only [Act.put, List.setIfInBounds_toArray, List.set_cons_zero, List.set_cons_succ, List.getElem_toArray, List.getElem_cons_succ, List.getElem_cons_zero])
        refine wpAnyH_take (i := 4) (v := ?v27x) rfl (by kernel_rfl) (by kernel_rfl) (by kernel_rfl) (fun _ _ _ h => h) (Or.inl ⟨by rfl, ?hy27x⟩) hS ?rest27x
        case hy27x => (intro w' hSw; (try dsimp only at hSw); go_simp; (try (with_reducible rfl)))
        (try simp only [Act.put, List.setIfInBounds_toArray, List.set_cons_zero, List.set_cons_succ, List.getElem_toArray, List.getElem_cons_succ, List.getElem_cons_zero])
        refine wpAnyH_take (i := 5) (v := ?v28x) rfl (by kernel_rfl) (by kernel_rfl) (by kernel_rfl) (fun _ _ _ h => h) (Or.inl ⟨by rfl, ?hy28x⟩) hS ?rest28x
        case hy28x => (intro w' hSw; (try dsimp only at hSw); go_simp; (try (with_reducible rfl)))
        (try simp only [Act.put, List.setIfInBounds_toArray, List.set_cons_zero, List.set_cons_succ, List.getElem_toArray, List.getElem_cons_succ, List.getElem_cons_zero])
        refine wpAnyH_take (i := 6) (v := ?v29x) rfl (by kernel_rfl) (by kernel_rfl) (by kernel_rfl) (fun _ _ _ h => h) (Or.inl ⟨by rfl, ?hy29x⟩) hS ?rest29x
        case hy29x => (intro w' hSw; (try dsimp only at hSw); go_simp; (try (with_reducible rfl)))
        (try simp only [Act.put, List.setIfInBounds_toArray, List.set_cons_zero, List.set_cons_succ, List.getElem_toArray, List.getElem_cons_succ, List.getElem_cons_zero])
        refine wpAnyH_take (i := 7) (v := ?v30x) rfl (by kernel_rfl) (by kernel_rfl) (by kernel_rfl) (fun _ _ _ h => h) (Or.inl ⟨by rfl, ?hy30x⟩) hS ?rest30x
        case hy30x => (intro w' hSw; (try dsimp only at hSw); go_simp; (try (with_reducible rfl)))
        (try simp only [Act.put, List.setIfInBounds_toArray, List.set_cons_zero, List.set_cons_succ, List.getElem_toArray, List.getElem_cons_succ, List.getElem_cons_zero])
        refine wpAnyH_take (i := 8) (v := ?v31x) rfl (by kernel_rfl) (by kernel_rfl) (by kernel_rfl) (fun _ _ _ h => h) (Or.inl ⟨by rfl, ?hy31x⟩) hS ?rest31x
        case hy31x => (intro w' hSw; (try dsimp only at hSw); go_simp; (try (with_reducible rfl)))
        (try simp only [Act.put, List.setIfInBounds_toArray, List.set_cons_zero, List.set_cons_succ, List.getElem_toArray, List.getElem_cons_succ, List.getElem_cons_zero])
        refine wpAnyH_ready (rs := [9]) (by kernel_rfl) (by simp) ?_
        refine AllReadyH.cons rfl (fun K hK => ?_) AllReadyH.nil
        (try dsimp only [List.getElem_toArray, List.getElem_cons_succ, List.getElem_cons_zero])
        (go_simp; (refine (iDigits_any x (by omega) (by omega) _ (HTb.out.below (HAc.out.trans (HDr.out.mono hzv)))).mono ?_); rw [HDG.out]; rintro e q3 ⟨rfl, b3⟩; dsimp only)
        have hB3 : Below v18.heap.size v18 q3 := HDr.out.trans (b3.mono (Nat.le_refl _))
        refine hK.out _ _ (HKe.out _ hB3) (fun hS9 => ?_)
        clear hK K hS; have hS := hS9; clear hS9; (try dsimp only at hS)
        (try simp only [Act.put, List.setIfInBounds_toArray, List.set_cons_zero, List.set_cons_succ, List.getElem_toArray, List.getElem_cons_succ, List.getElem_cons_zero])
        refine wpAnyH_take (i := 10) (v := ?v32x) rfl (by kernel_rfl) (by kernel_rfl) (by kernel_rfl) (fun _ _ _ h => h) (Or.inl ⟨by rfl, ?hy32x⟩) hS ?rest32x
        case hy32x => (intro w' hSw; (try dsimp only at hSw); go_simp; (try (with_reducible rfl)))
        (try simp only [Act.put, List.setIfInBounds_toArray, List.set_cons_zero, List.set_cons_succ, List.getElem_toArray, List.getElem_cons_succ, List.getElem_cons_zero])
        refine wpAnyH_take (i := 11) (v := ?v33x) rfl (by kernel_rfl) (by kernel_rfl) (by kernel_rfl) (fun _ _ _ h => h) (Or.inl ⟨by rfl, ?hy33x⟩) hS ?rest33x
        case hy33x => (intro w' hSw; (try dsimp only at hSw); go_simp; (try (with_reducible rfl)))
        (try simp only [Act.put, List.setIfInBounds_toArray, List.set_cons_zero, List.set_cons_succ, List.getElem_toArray, List.getElem_cons_succ, List.getElem_cons_zero])
        refine wpAnyH_done (by kernel_rfl) ?_ _
        go_wp2_with fail
        go_ret
        exact ⟨by rw [HV.out]; rfl, HAc.out.trans (hB3.mono hzv)⟩
      · obtain rfl : cn = 0 := by omega
        have B0 := Below.refl w.heap.size w
        have s0 : w.heap.size ≤ w.heap.size := Nat.le_refl _
        go_enter Tryd.func9, Tryd.ntmps9
        have p_2 : Bx (w.alloc (.cells #[.slice (some ⟨b, off, none⟩) n c, .slice C m d] 32)) (w.heap.size) 32 #[.slice (some ⟨b, off, none⟩) n c, .slice C m d] := Bx.new _ _ _
        have B_2 := B0.alloc s0 (.cells #[.slice (some ⟨b, off, none⟩) n c, .slice C m d] 32)
        clear B0
        have cp_3 := p_2.cells
        have fp_3 := p_2.free
        clear cp_3 fp_3
        have p_4 := p_2.same (same_alloc (.cells #[.int .i64 (k : Nat), .int .i64 (t : Nat)] 34) (by simp only [World.size_alloc]; omega))
        clear p_2
        have q_5 : Bx ((w.alloc (.cells #[.slice (some ⟨b, off, none⟩) n c, .slice C m d] 32)).alloc (.cells #[.int .i64 (k : Nat), .int .i64 (t : Nat)] 34)) (w.heap.size + 1) 34 #[.int .i64 (k : Nat), .int .i64 (t : Nat)] := by
          have h := Bx.new (w.alloc (.cells #[.slice (some ⟨b, off, none⟩) n c, .slice C m d] 32)) 34 #[.int .i64 (k : Nat), .int .i64 (t : Nat)]
          simpa only [World.size_alloc] using h
        have B_5 := B_2.alloc (by simp only [World.size_alloc]; omega) (.cells #[.int .i64 (k : Nat), .int .i64 (t : Nat)] 34)
        clear B_2
        have cp_6 := p_4.cells
        have fp_6 := p_4.free
        have cq_7 := q_5.cells
        have fq_7 := q_5.free
        go_wp2_with fail
        refine (iForkOk_any _ C n c m d hs ats cs _ _ _ (R.out.below B_5 (Nat.le_refl _))).mono ?_
        rw [H0.out]
        rintro e w1 ⟨rfl, b1⟩
        clear cp_6 fp_6
        clear cq_7 fq_7
        simp only [World.size_alloc] at b1
        have t_8 := b1.size
        simp only [World.size_alloc] at t_8
        have z_8 : w.heap.size ≤ w1.heap.size := by omega
        have p_9 := p_4.same (same_below b1 (by omega))
        clear p_4
        have q_9 := q_5.same (same_below b1 (by omega))
        clear q_5
        have B_8 := B_5.trans (b1.mono (by omega))
        clear B_5 b1
        have cp_10 := p_9.cells
        have fp_10 := p_9.free
        have cq_11 := q_9.cells
        have fq_11 := q_9.free
        have f0_12 : w1.cell? ⟨b, off + k * 3, none⟩ = some (.string nm) := (B_8.cell (p := ⟨b, off + k * 3, none⟩) hbl).trans D0.out
        have f1_12 : w1.cell? ⟨b, off + k * 3 + 1, none⟩ = some (.slice ca 0 cc) := (B_8.cell (p := ⟨b, off + k * 3 + 1, none⟩) hbl).trans D1.out
        have f2_12 : w1.cell? ⟨b, off + k * 3 + 2, none⟩ = some (.slice va vn vc) := (B_8.cell (p := ⟨b, off + k * 3 + 2, none⟩) hbl).trans D2.out
        go_upto_region 4 with fail
        clear f0_12 f1_12 f2_12
        clear cp_10 fp_10
        clear cq_11 fq_11
        have p_13 := p_9.same (same_alloc (.cells #[.string nm, .slice ca 0 cc, .slice va vn vc] 52) (by omega))
        clear p_9
        have q_13 := q_9.same (same_alloc (.cells #[.string nm, .slice ca 0 cc, .slice va vn vc] 52) (by omega))
        clear q_9
        have ab_14 : Bx (w1.alloc (.cells #[.string nm, .slice ca 0 cc, .slice va vn vc] 52)) (w1.heap.size) 52 #[.string nm, .slice ca 0 cc, .slice va vn vc] := Bx.new _ _ _
        have B_14 := B_8.alloc z_8 (.cells #[.string nm, .slice ca 0 cc, .slice va vn vc] 52)
        clear B_8
        have cp_15 := p_13.cells
        have fp_15 := p_13.free
        have cq_16 := q_13.cells
        have fq_16 := q_13.free
        have cab_17 := ab_14.cells
        have fab_17 := ab_14.free
        have e1 : ((t : Int) == -1) = false := beq_false_of_ne (by omega)
        have e2 : ¬ (t : Int) = -1 := by omega
        have e3 : decide ((t : Int) = -1) = false := decide_eq_false e2
        have k1 : ¬ (0 : Int) < (0 : Int) := by omega
        go_upto_region 8 with fail
        clear cp_15 fp_15
        clear cq_16 fq_16
        clear cab_17 fab_17
        obtain ⟨v18, hv18⟩ : ∃ v18, v18 = (w1.alloc (.cells #[.string nm, .slice ca 0 cc, .slice va vn vc] 52)) := ⟨_, rfl⟩
        have zv18 : w1.heap.size + 1 ≤ v18.heap.size := by rw [hv18]; simp
        rw [← hv18] at p_13 q_13 ab_14 B_14 ⊢
        clear hv18
        have HAbx := Lib.hid ab_14; have HQbx := Lib.hid q_13; have HAc := Lib.hid B_14; have HHP := Lib.hid p_13
        have la := ab_14.lt; have lq := q_13.lt; have hzv := B_14.size
        clear ab_14 q_13 B_14 p_13
        obtain ⟨sv, hx, htl, hsz⟩ := ft_val HAB.out H3.out HL1.out
        rw [HL2.out] at htl
        obtain ⟨vb, vo, rfl, hvb, hvc⟩ := (HRA.out.below HAc.out (Nat.le_refl _)).rd.vals.ex (by show 0 < vn; omega)
        have hcell := hvc t (.string sv) (by rw [List.getElem?_map, hx]; rfl)
        have n2 : (0 : Int) ≤ (t : Int) := Int.natCast_nonneg _
        have n3 : (t : Int) < (vn : Int) := by omega
        have HV : Hid (ftS ats cs (k : Nat) (t : Nat) = nm ++ ⟨#[61]⟩ ++ sv) := by unfold Hid ftS ftA; rw [H0.out, if_pos rfl, HAt.out, if_neg (by omega), HL1.out, if_neg (by omega), HNm.out]; simp [List.getD, hx]
        have z1 : ¬ 9223372036854775807 < nm.size + 1 := by omega
        obtain ⟨NM2, hN2⟩ : ∃ NM2, nm ++ ⟨#[61]⟩ = NM2 := ⟨_, rfl⟩
        have hs2 : NM2.size = nm.size + 1 := by rw [← hN2, ByteArray.size_append]; rfl
        have z2 : ¬ 9223372036854775807 < NM2.size + sv.size := by omega
        have HN2 := Lib.hid hN2
        rw [hN2] at HV
        have HC := Lib.hid hcell; have HX := Lib.hid hx; have HVc := Lib.hid hvc
        clear hx hcell hvc hs2 hsz hvb e1 e2 e3 k1
        have HCb : Hid (vb < v18.heap.size) := World.block_lt_of_cell? _ ⟨vb, vo + t, none⟩ HC.out
        have HKe : Hid (∀ w' : World, Below v18.heap.size v18 w' → w'.cell? ⟨w1.heap.size, 0, none⟩ = some (.string nm) ∧ w'.cell? ⟨w1.heap.size, 2, none⟩ = some (.slice (some ⟨vb, vo, none⟩) vn vc) ∧ w'.cell? ⟨w.heap.size + 1, 1, none⟩ = some (.int .i64 (t : Nat)) ∧ w'.cell? ⟨vb, vo + t, none⟩ = some (.string sv)) := fun w' hk => by
          have e1 := HAbx.out.same (same_below hk la)
          have e2 := HQbx.out.same (same_below hk lq)
          exact ⟨e1.cells 0, e1.cells 2, e2.cells 1, (hk.cell (p := ⟨vb, vo + t, none⟩) (HCb.out)).trans HC.out⟩
        have HDr : Hid (Below v18.heap.size v18 v18.drew) := (Below.refl _ _).drew
        refine wp_region_held_drew (S := fun w' => w'.cell? ⟨w1.heap.size, 0, none⟩ = some (.string nm) ∧ w'.cell? ⟨w1.heap.size, 2, none⟩ = some (.slice (some ⟨vb, vo, none⟩) vn vc) ∧ w'.cell? ⟨w.heap.size + 1, 1, none⟩ = some (.int .i64 (t : Nat)) ∧ w'.cell? ⟨vb, vo + t, none⟩ = some (.string sv)) (by kernel_rfl) (HKe.out _ HDr.out) ?_
        intro hS; (try dsimp only at hS)
        refine wpAnyH_take (i := 0) (v := ?v34x) rfl (by kernel_rfl) (by kernel_rfl) (by kernel_rfl) (fun _ _ _ h => h) (Or.inl ⟨by rfl, ?hy34x⟩) hS ?rest34x
        case hy34x => (intro w' hSw; (try dsimp only at hSw); go_simp; (try (with_reducible rfl)))
        (try simp only [Act.put, List.setIfInBounds_toArray, List.set_cons_zero, List.set_cons_succ, List.getElem_toArray, List.getElem_cons_succ, List.getElem_cons_zero])
        refine wpAnyH_take (i := 1) (v := ?v35x) rfl (by kernel_rfl) (by kernel_rfl) (by kernel_rfl) (fun _ _ _ h => h) (Or.inl ⟨by rfl, ?hy35x⟩) hS ?rest35x
        case hy35x => (intro w' hSw; (try dsimp only at hSw); go_simp; (try (with_reducible rfl)))
        (try simp only [Act.put, List.setIfInBounds_toArray, List.set_cons_zero, List.set_cons_succ, List.getElem_toArray, List.getElem_cons_succ, List.getElem_cons_zero])
        refine wpAnyH_take (i := 2) (v := ?v36x) rfl (by kernel_rfl) (by kernel_rfl) (by kernel_rfl) (fun _ _ _ h => h) (Or.inl ⟨by rfl, ?hy36x⟩) hS ?rest36x
        case hy36x => (intro w' hSw; (try dsimp only at hSw); go_simp; (try (with_reducible rfl)))
        (try simp only [Act.put, List.setIfInBounds_toArray, List.set_cons_zero, List.set_cons_succ, List.getElem_toArray, List.getElem_cons_succ, List.getElem_cons_zero])
        refine wpAnyH_take (i := 3) (v := ?v37x) rfl (by kernel_rfl) (by kernel_rfl) (by kernel_rfl) (fun _ _ _ h => h) (Or.inl ⟨by rfl, ?hy37x⟩) hS ?rest37x
        case hy37x => (intro w' hSw; (try dsimp only at hSw); go_simp; (try (with_reducible rfl)))
        (try simp only [Act.put, List.setIfInBounds_toArray, List.set_cons_zero, List.set_cons_succ, List.getElem_toArray, List.getElem_cons_succ, List.getElem_cons_zero])
        refine wpAnyH_take (i := 4) (v := ?v38x) rfl (by kernel_rfl) (by kernel_rfl) (by kernel_rfl) (fun _ _ _ h => h) (Or.inl ⟨by rfl, ?hy38x⟩) hS ?rest38x
        case hy38x => (intro w' hSw; (try dsimp only at hSw); go_simp; (try (with_reducible rfl)))
        (try simp only [Act.put, List.setIfInBounds_toArray, List.set_cons_zero, List.set_cons_succ, List.getElem_toArray, List.getElem_cons_succ, List.getElem_cons_zero])
        refine wpAnyH_take (i := 6) (v := ?v39x) rfl (by kernel_rfl) (by kernel_rfl) (by kernel_rfl) (fun _ _ _ h => h) (Or.inl ⟨by rfl, ?hy39x⟩) hS ?rest39x
        case hy39x => (intro w' hSw; (try dsimp only at hSw); go_simp; (try (with_reducible rfl)))
        (try simp only [Act.put, List.setIfInBounds_toArray, List.set_cons_zero, List.set_cons_succ, List.getElem_toArray, List.getElem_cons_succ, List.getElem_cons_zero])
        refine wpAnyH_take (i := 7) (v := ?v40x) rfl (by kernel_rfl) (by kernel_rfl) (by kernel_rfl) (fun _ _ _ h => h) (Or.inl ⟨by rfl, ?hy40x⟩) hS ?rest40x
        case hy40x => (intro w' hSw; (try dsimp only at hSw); go_simp; (try (with_reducible rfl)))
        (try simp only [Act.put, List.setIfInBounds_toArray, List.set_cons_zero, List.set_cons_succ, List.getElem_toArray, List.getElem_cons_succ, List.getElem_cons_zero])
        refine wpAnyH_ready (rs := [5]) (by kernel_rfl) (by simp) ?_
        refine AllReadyH.cons rfl (fun K hK => ?_) AllReadyH.nil
        (try dsimp only [List.getElem_toArray, List.getElem_cons_succ, List.getElem_cons_zero])
        (go_simp; (refine (Tryd.slices_Clone_string vb vo vn vc a0.vals _ (by rw [HL2.out]; exact Nat.le_refl _) (by omega) (fun j hj => (HDr.out.cell (p := ⟨vb, vo + j, none⟩) HCb.out).trans (HVc.out j _ (by simp [List.getD, hj])))).mono ?_); rintro e q3 ⟨v9, rfl, hown, -, b3⟩; obtain ⟨g7, cap7, rfl, hg1, hg2, hcap1, hcap2⟩ := own_form hown (by omega); dsimp only)
        have hB3 : Below v18.heap.size v18 q3 := HDr.out.trans (b3.mono (Nat.le_refl _))
        have hc9 : q3.cell? ⟨g7, t, none⟩ = some (.string sv) := by rw [hown.cellAt t (by omega)]; simp [HX.out, htl]
        have HC9 := Lib.hid hc9
        clear hown
        refine hK.out _ _ (HKe.out _ hB3) (fun hS9 => ?_)
        clear hK K hS; have hS := hS9; clear hS9; (try dsimp only at hS)
        (try simp only [Act.put, List.setIfInBounds_toArray, List.set_cons_zero, List.set_cons_succ, List.getElem_toArray, List.getElem_cons_succ, List.getElem_cons_zero])
        refine wpAnyH_take (i := 8) (v := ?v41x) rfl (by kernel_rfl) (by kernel_rfl) (by kernel_rfl) (fun _ _ _ h => h) (Or.inl ⟨by rfl, ?hy41x⟩) hS ?rest41x
        case hy41x => (intro w' hSw; (try dsimp only at hSw); go_simp; (try (with_reducible rfl)))
        (try simp only [Act.put, List.setIfInBounds_toArray, List.set_cons_zero, List.set_cons_succ, List.getElem_toArray, List.getElem_cons_succ, List.getElem_cons_zero])
        refine wpAnyH_ready (rs := [9]) (by kernel_rfl) (by simp) ?_
        refine AllReadyH.cons rfl (fun K hK => ?_) AllReadyH.nil
        (try dsimp only [List.getElem_toArray, List.getElem_cons_succ, List.getElem_cons_zero])
        go_simp
        refine hK.out _ _ (HKe.out _ hB3) (fun hS9 => ?_)
        clear hK K hS; have hS := hS9; clear hS9; (try dsimp only at hS)
        (try simp only [Act.put, List.setIfInBounds_toArray, List.set_cons_zero, List.set_cons_succ, List.getElem_toArray, List.getElem_cons_succ, List.getElem_cons_zero])
        refine wpAnyH_take (i := 10) (v := ?v42x) rfl (by kernel_rfl) (by kernel_rfl) (by kernel_rfl) (fun _ _ _ h => h) (Or.inl ⟨by rfl, ?hy42x⟩) hS ?rest42x
        case hy42x => (intro w' hSw; (try dsimp only at hSw); go_simp; (try (with_reducible rfl)))
        (try simp only [Act.put, List.setIfInBounds_toArray, List.set_cons_zero, List.set_cons_succ, List.getElem_toArray, List.getElem_cons_succ, List.getElem_cons_zero])
        refine wpAnyH_take (i := 11) (v := ?v43x) rfl (by kernel_rfl) (by kernel_rfl) (by kernel_rfl) (fun _ _ _ h => h) (Or.inl ⟨by rfl, ?hy43x⟩) hS ?rest43x
        case hy43x => (intro w' hSw; (try dsimp only at hSw); go_simp; (try (with_reducible rfl)))
        (try simp only [Act.put, List.setIfInBounds_toArray, List.set_cons_zero, List.set_cons_succ, List.getElem_toArray, List.getElem_cons_succ, List.getElem_cons_zero])
        refine wpAnyH_done (by kernel_rfl) ?_ _
        go_wp2_with fail
        go_ret
        exact ⟨by rw [HV.out]; rfl, HAc.out.trans (hB3.mono hzv)⟩

end Go.Proofs.YtchkmcikpamdeaaDoor
