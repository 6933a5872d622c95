/-
  Proved: laws.FnExactCandidates returns true for every schema, list of numbers and truth value. Conditions: none.
-/
import Derived.Test.YtgkefkbpdbokbaaForkS
import Derived.Test.YtgkefkbpdbokbaaMarkS
import Derived.Test.YtgkefkbpdbokbaaOpenSch
import Derived.Test.YtgkefkbpdbokbaaObj
namespace Go.Proofs.Ytgkefkbpdbokbaa
open Go.ChangeShapes Go.WideShapes Go.ChangeAt Go.RowKit Go.Deep
namespace LawCandidates
set_option linter.unusedSimpArgs false
set_option linter.unusedVariables false

/-- toSchema, read from an earlier world on: what it returns reads as the schema. -/
theorem to2 (A C : Option Addr) (n c m d : Nat) (hs : List AH) (ats : List AD) (cs : List ByteArray) (w W0 : World) (B : Nat) (r : RdSch w A C n m hs ats cs) (hn : n ≤ 1048576) (hb : asTot ats ≤ 1048576) (hm : m ≤ 1048576) (ok : ∀ a ∈ ats, ADok a) (cok : ∀ s ∈ cs, s.size ≤ 9223372036854775807) (hB : Below B W0 w) (hs' : B ≤ W0.heap.size) :
    Calls Try.prog 15 #[.agg #[.slice A n c, .slice C m d]] w fun e w' => (∃ g1 g2 gs, e = .returned (.agg #[.slice (some ⟨g1, 0, none⟩) n n, .slice (some ⟨g2, 0, none⟩) m m]) ∧ Sch w' (some ⟨g1, 0, none⟩) (some ⟨g2, 0, none⟩) n m m gs ats cs ∧ Below w.heap.size w w') ∧ Below B W0 w' :=
  lift ((toSchema_any A C n c m d hs ats cs w r hn hb hm).mono fun _ _ ⟨g1, g2, mid, gs, h1, h2, h3⟩ => ⟨⟨g1, g2, gs, h1, h2.sch hn hb hm ok cok, h3⟩, h3⟩) hB hs'

set_option maxHeartbeats 8000000 in
theorem walk (w : World) (A : Option Addr) (n c : Nat) (hs : List AH) (ats : List AD) (C : Option Addr) (m d : Nat) (cs : List ByteArray) (X : Option Addr) (q e0 : Nat) (xs : List Int) (two : Bool) (hl : n ≤ c) (hm : c ≤ maxLen) (hr : RdAS w A n hs ats) (hg : ∀ h ∈ hs, AHw h) (hx : ∀ a ∈ ats, ADw a) (hl2 : m ≤ d) (hm2 : d ≤ maxLen) (hr2 : Rd w C m (cs.map Value.string)) (hw2 : ∀ s ∈ cs, s.size ≤ maxLen) (hl3 : q ≤ e0) (hm3 : e0 ≤ maxLen) (hr3 : Rd w X q (xs.map (Value.int .i64))) (hw3 : ∀ z ∈ xs, (Lit.int .i64 z).wf = true) :
    Calls Try.prog 7 #[.agg #[.slice A n c, .slice C m d], .slice X q e0, .bool two] w fun e w' => e = .returned (.bool true) ∧ Below w.heap.size w w' := by
  unfold maxLen at hm hm2
  have HRS : Hid (RdSch w A C n m hs ats cs) := ⟨hr, hr2⟩
  have HOk : Hid (∀ a ∈ ats, ADok a) := fun a ha => ⟨by have := (hx a ha).1; unfold maxLen at this; omega, fun s hs => by have := (hx a ha).2.2 s hs; unfold maxLen at this; omega⟩
  have HHs : Hid (∀ h ∈ hs, AHok h) := fun h hh => ⟨by have := (hg h hh).1; unfold maxLen at this; omega, by have := (hg h hh).2; unfold maxLen at this; omega⟩
  have HCs : Hid (∀ s ∈ cs, s.size ≤ 9223372036854775807) := fun s hs => by have := hw2 s hs; unfold maxLen at this; omega
  clear hr hr2 hg hx hw2
  have HX3 := Lib.hid hr3
  have HM4 : Hid (∀ b, (candL ats cs xs b).length ≤ 4 * q) := fun b => by
    have h1 := candL_len ats cs xs b
    have h2 : xs.length = q := by simpa using hr3.len
    omega
  clear hr3
  unfold maxLen at hm3
  obtain ⟨bs, hbs⟩ : ∃ bs, candL ats cs xs two = bs := ⟨_, rfl⟩
  obtain ⟨M, hM⟩ : ∃ M, bs.length = M := ⟨_, rfl⟩
  have hM4 : M ≤ 4 * q := by rw [← hM, ← hbs]; exact HM4.out two
  have HBs := Lib.hid hbs; have HM := Lib.hid hM
  clear hbs hM HM4
  by_cases hq : q ≤ 1048576
  · skip
    by_cases hn : ((n : Int) + (asTot ats : Int) + ((m : Int) + (bytesOf cs : Int))) ≤ 1048576
    · have HZ := Lib.hid (szI_yes hn)
      have B0 := Below.refl w.heap.size w
      have s0 : w.heap.size ≤ w.heap.size := Nat.le_refl _
      go_enter Try.func7, Try.ntmps7
      have p_2 : Bx (w.alloc (.cells #[.slice A n c, .slice C m d] 25)) (w.heap.size) 25 #[.slice A n c, .slice C m d] := Bx.new _ _ _
      have B_2 := B0.alloc s0 (.cells #[.slice A n c, .slice C m d] 25)
      clear B0
      have cp_3 := p_2.cells
      have fp_3 := p_2.free
      go_wp2_with fail
      refine (szSchema_any A C n c m d hs ats cs 1048576 _ (HRS.out.below B_2 (Nat.le_refl _)).at_ (HRS.out.below B_2 (Nat.le_refl _)).cl HOk.out HHs.out HCs.out (by omega) (by omega) (by omega) (by omega)).mono ?_
      rw [HZ.out]
      rintro e w1 ⟨rfl, b⟩
      clear cp_3 fp_3
      simp only [World.size_alloc] at b
      have t_4 := b.size
      simp only [World.size_alloc] at t_4
      have z_4 : w.heap.size ≤ w1.heap.size := by omega
      have p_5 := p_2.same (same_below b (by omega))
      clear p_2
      have B_4 := B_2.trans (b.mono (by omega))
      clear B_2 b
      have cp_6 := p_5.cells
      have fp_6 := p_5.free
      go_wp2_with fail
      refine (toSchema_any A C n c m d hs ats cs _ (HRS.out.below B_4 (Nat.le_refl _)) (by omega) (by omega) (by omega)).mono ?_
      rintro e w2 ⟨g1, g2, midd, gsd, rfl, o, b⟩
      clear cp_6 fp_6
      have t_7 := b.size
      have z_7 : w.heap.size ≤ w2.heap.size := by omega
      have p_8 := p_5.same (same_below b (by omega))
      clear p_5
      have B_7 := B_4.trans (b.mono (by omega))
      clear B_4 b
      have d_7 := o
      clear o
      have cp_9 := p_8.cells
      have fp_9 := p_8.free
      go_wp2_with fail
      refine (toIntS_own X q e0 xs _ _ _ (HX3.out.below B_7 (Nat.le_refl _)) (by omega) (Below.refl _ _) (Nat.le_refl _)).mono ?_
      rintro e w3 ⟨g3, rfl, o, b⟩
      clear cp_9 fp_9
      have t_10 := b.size
      have z_10 : w.heap.size ≤ w3.heap.size := by omega
      have p_11 := p_8.same (same_below b (by omega))
      clear p_8
      have d_11 := d_7.same (same_below b (by omega))
      clear d_7
      have B_10 := B_7.trans (b.mono (by omega))
      clear B_7 b
      have y_10 := Ow.of o
      clear o
      have cp_12 := p_11.cells
      have fp_12 := p_11.free
      go_wp2_with fail
      refine (sCand2 _ _ _ _ _ _ _ ats cs _ q _ xs two bs M _ HBs.out HM.out (d_11.sch (by omega) (by omega) (by omega) HOk.out HCs.out) y_10.rd hq).mono ?_
      rintro e w4 ⟨A1, cA1, rfl, o, b⟩
      clear cp_12 fp_12
      have t_13 := b.size
      have z_13 : w.heap.size ≤ w4.heap.size := by omega
      have p_14 := p_11.same (same_below b (by omega))
      clear p_11
      have d_14 := d_11.same (same_below b (by omega))
      clear d_11
      have y_14 := y_10.same (same_below b (by omega))
      clear y_10
      have B_13 := B_10.trans (b.mono (by omega))
      clear B_10 b
      have wr_13 := Ow2.of o
      clear o
      have cp_15 := p_14.cells
      have fp_15 := p_14.free
      clear d_14
      clear y_14
      go_wp2_with fail
      refine (toSchema_any A C n c m d hs ats cs _ (HRS.out.below B_13 (Nat.le_refl _)) (by omega) (by omega) (by omega)).mono ?_
      rintro e w5 ⟨g4, g5, midx, gsx, rfl, o, b⟩
      clear cp_15 fp_15
      have t_16 := b.size
      have z_16 : w.heap.size ≤ w5.heap.size := by omega
      have p_17 := p_14.same (same_below b (by omega))
      clear p_14
      have wr_17 := wr_13.same (same_below b (by omega))
      clear wr_13
      have B_16 := B_13.trans (b.mono (by omega))
      clear B_13 b
      have x_16 := o
      clear o
      have cp_18 := p_17.cells
      have fp_18 := p_17.free
      clear cp_18 fp_18
      have p_19 := p_17.same (same_alloc (.cells #[.slice (some ⟨g4, 0, none⟩) n n, .slice (some ⟨g5, 0, none⟩) m m] 31) (by omega))
      clear p_17
      have wr_19 := wr_17.same (same_alloc (.cells #[.slice (some ⟨g4, 0, none⟩) n n, .slice (some ⟨g5, 0, none⟩) m m] 31) (by omega))
      clear wr_17
      have x_19 := x_16.same (same_alloc (.cells #[.slice (some ⟨g4, 0, none⟩) n n, .slice (some ⟨g5, 0, none⟩) m m] 31) (by omega))
      clear x_16
      have x0_20 : Bx (w5.alloc (.cells #[.slice (some ⟨g4, 0, none⟩) n n, .slice (some ⟨g5, 0, none⟩) m m] 31)) (w5.heap.size) 31 #[.slice (some ⟨g4, 0, none⟩) n n, .slice (some ⟨g5, 0, none⟩) m m] := Bx.new _ _ _
      have B_20 := B_16.alloc z_16 (.cells #[.slice (some ⟨g4, 0, none⟩) n n, .slice (some ⟨g5, 0, none⟩) m m] 31)
      clear B_16
      have cp_21 := p_19.cells
      have fp_21 := p_19.free
      have cx0_22 := x0_20.cells
      have fx0_22 := x0_20.free
      go_wp2_with fail
      refine (toIntS_own X q e0 xs _ _ _ (HX3.out.below B_20 (Nat.le_refl _)) (by omega) (Below.refl _ _) (Nat.le_refl _)).mono ?_
      rintro e w6 ⟨g6, rfl, o, b⟩
      clear cp_21 fp_21
      clear cx0_22 fx0_22
      simp only [World.size_alloc] at b o
      have t_23 := b.size
      simp only [World.size_alloc] at t_23
      have z_23 : w.heap.size ≤ w6.heap.size := by omega
      have p_24 := p_19.same (same_below b (by omega))
      clear p_19
      have wr_24 := wr_19.same (same_below b (by omega))
      clear wr_19
      have x_24 := x_19.same (same_below b (by omega))
      clear x_19
      have x0_24 := x0_20.same (same_below b (by omega))
      clear x0_20
      have B_23 := B_20.trans (b.mono (by omega))
      clear B_20 b
      have y_23 := Ow.of o
      clear o
      have cp_25 := p_24.cells
      have fp_25 := p_24.free
      have cx0_26 := x0_24.cells
      have fx0_26 := x0_24.free
      go_wp2_with fail
      refine (iCand2 _ _ _ _ _ _ _ ats cs _ q _ xs two bs M _ HBs.out HM.out (x_24.sch (by omega) (by omega) (by omega) HOk.out HCs.out) y_23.rd hq).mono ?_
      rintro e w7 ⟨A2, cA2, rfl, o, b⟩
      clear cp_25 fp_25
      clear cx0_26 fx0_26
      have t_27 := b.size
      have z_27 : w.heap.size ≤ w7.heap.size := by omega
      have p_28 := p_24.same (same_below b (by omega))
      clear p_24
      have wr_28 := wr_24.same (same_below b (by omega))
      clear wr_24
      have x_28 := x_24.same (same_below b (by omega))
      clear x_24
      have x0_28 := x0_24.same (same_below b (by omega))
      clear x0_24
      have y_28 := y_23.same (same_below b (by omega))
      clear y_23
      have B_27 := B_23.trans (b.mono (by omega))
      clear B_23 b
      have gr_27 := Ow2.of o
      clear o
      have cp_29 := p_28.cells
      have fp_29 := p_28.free
      have cx0_30 := x0_28.cells
      have fx0_30 := x0_28.free
      go_wp2_with fail
      refine (eqForkS_same _ _ M _ _ bs _ gr_27.rd wr_28.rd (by omega)).mono ?_
      rintro e w8 ⟨rfl, b⟩
      clear cp_29 fp_29
      clear cx0_30 fx0_30
      have t_31 := b.size
      have z_31 : w.heap.size ≤ w8.heap.size := by omega
      have p_32 := p_28.same (same_below b (by omega))
      clear p_28
      have wr_32 := wr_28.same (same_below b (by omega))
      clear wr_28
      have x_32 := x_28.same (same_below b (by omega))
      clear x_28
      have x0_32 := x0_28.same (same_below b (by omega))
      clear x0_28
      have y_32 := y_28.same (same_below b (by omega))
      clear y_28
      have gr_32 := gr_27.same (same_below b (by omega))
      clear gr_27
      have B_31 := B_27.trans (b.mono (by omega))
      clear B_27 b
      have cp_33 := p_32.cells
      have fp_33 := p_32.free
      have cx0_34 := x0_32.cells
      have fx0_34 := x0_32.free
      go_wp2_with fail
      have lp_35 := p_32.lt
      have dp0_35 : Hid (w8.cell? ⟨w.heap.size, 0, none⟩ = some (.slice A n c)) := p_32.cells 0
      have dp1_35 : Hid (w8.cell? ⟨w.heap.size, 1, none⟩ = some (.slice C m d)) := p_32.cells 1
      have lx0_35 := x0_32.lt
      have dx00_35 : Hid (w8.cell? ⟨w5.heap.size, 0, none⟩ = some (.slice (some ⟨g4, 0, none⟩) n n)) := x0_32.cells 0
      have dx01_35 : Hid (w8.cell? ⟨w5.heap.size, 1, none⟩ = some (.slice (some ⟨g5, 0, none⟩) m m)) := x0_32.cells 1
      clear cp_33 fp_33
      clear cx0_34 fx0_34
      have HA_35 := Lib.hid B_31
      go_region_held3 (fun w' => w'.cell? ⟨w.heap.size, 0, none⟩ = some (.slice A n c) ∧ w'.cell? ⟨w.heap.size, 1, none⟩ = some (.slice C m d) ∧ w'.cell? ⟨w5.heap.size, 0, none⟩ = some (.slice (some ⟨g4, 0, none⟩) n n) ∧ w'.cell? ⟨w5.heap.size, 1, none⟩ = some (.slice (some ⟨g5, 0, none⟩) m m) ∧ Below w8.heap.size w8 w')
        (first
          | exact ⟨dp0_35.out, dp1_35.out, dx00_35.out, dx01_35.out, (Below.refl _ _).drew⟩
          | exact ⟨(Below.cell (p := ⟨w.heap.size, 0, none⟩) b9 lp_35).trans dp0_35.out, (Below.cell (p := ⟨w.heap.size, 1, none⟩) b9 lp_35).trans dp1_35.out, (Below.cell (p := ⟨w5.heap.size, 0, none⟩) b9 lx0_35).trans dx00_35.out, (Below.cell (p := ⟨w5.heap.size, 1, none⟩) b9 lx0_35).trans dx01_35.out, b9⟩
          | exact ⟨(Below.cell (p := ⟨w.heap.size, 0, none⟩) b8 lp_35).trans dp0_35.out, (Below.cell (p := ⟨w.heap.size, 1, none⟩) b8 lp_35).trans dp1_35.out, (Below.cell (p := ⟨w5.heap.size, 0, none⟩) b8 lx0_35).trans dx00_35.out, (Below.cell (p := ⟨w5.heap.size, 1, none⟩) b8 lx0_35).trans dx01_35.out, b8⟩)
        (first
          | (go_at_call 15; go_split_ands; refine (to2 A C n c m d hs ats cs _ w8 w8.heap.size (HRS.out.below (HA_35.out.trans (Below.mono (by assumption) HA_35.out.size)) (Nat.le_refl _)) (by omega) (by omega) (by omega) HOk.out HCs.out (by assumption) (Nat.le_refl _)).mono ?_; rintro e w' ⟨⟨ga8, gb8, gs8, rfl, r8, c8⟩, b8⟩)
          | (go_at_call 18; refine (lift (W0 := w8) (B := w8.heap.size) (eqSchema_same _ _ _ _ n _ m _ _ _ _ _ ats cs _ (x_32.rd.below (by assumption) (Nat.le_refl _)) r8.rd (by omega) (by omega) (by omega)) (by assumption) (Nat.le_refl _)).mono ?_; rintro e w9 ⟨rfl, b9⟩))
      have t_35 := b9.size
      have z_35 : w.heap.size ≤ w9.heap.size := by omega
      have p_36 := p_32.same (same_below b9 (by omega))
      clear p_32
      have wr_36 := wr_32.same (same_below b9 (by omega))
      clear wr_32
      have x_36 := x_32.same (same_below b9 (by omega))
      clear x_32
      have x0_36 := x0_32.same (same_below b9 (by omega))
      clear x0_32
      have y_36 := y_32.same (same_below b9 (by omega))
      clear y_32
      have gr_36 := gr_32.same (same_below b9 (by omega))
      clear gr_32
      have B_35 := B_31.trans (b9.mono (by omega))
      clear B_31 b9
      have cp_37 := p_36.cells
      have fp_37 := p_36.free
      have cx0_38 := x0_36.cells
      have fx0_38 := x0_36.free
      go_wp2_with fail
      refine (toIntS_own X q e0 xs _ _ _ (HX3.out.below B_35 (Nat.le_refl _)) (by omega) (Below.refl _ _) (Nat.le_refl _)).mono ?_
      rintro e w10 ⟨g7, rfl, o, b⟩
      clear cp_37 fp_37
      clear cx0_38 fx0_38
      have t_39 := b.size
      have z_39 : w.heap.size ≤ w10.heap.size := by omega
      have p_40 := p_36.same (same_below b (by omega))
      clear p_36
      have wr_40 := wr_36.same (same_below b (by omega))
      clear wr_36
      have x_40 := x_36.same (same_below b (by omega))
      clear x_36
      have x0_40 := x0_36.same (same_below b (by omega))
      clear x0_36
      have y_40 := y_36.same (same_below b (by omega))
      clear y_36
      have gr_40 := gr_36.same (same_below b (by omega))
      clear gr_36
      have B_39 := B_35.trans (b.mono (by omega))
      clear B_35 b
      have z_39 := Ow.of o
      clear o
      have cp_41 := p_40.cells
      have fp_41 := p_40.free
      have cx0_42 := x0_40.cells
      have fx0_42 := x0_40.free
      go_wp2_with fail
      refine (eqIntS_same _ _ q _ _ xs _ y_40.rd z_39.rd (by omega)).mono ?_
      rintro e w11 ⟨rfl, b⟩
      clear cp_41 fp_41
      clear cx0_42 fx0_42
      have t_43 := b.size
      have z_43 : w.heap.size ≤ w11.heap.size := by omega
      have p_44 := p_40.same (same_below b (by omega))
      clear p_40
      have wr_44 := wr_40.same (same_below b (by omega))
      clear wr_40
      have x_44 := x_40.same (same_below b (by omega))
      clear x_40
      have x0_44 := x0_40.same (same_below b (by omega))
      clear x0_40
      have y_44 := y_40.same (same_below b (by omega))
      clear y_40
      have gr_44 := gr_40.same (same_below b (by omega))
      clear gr_40
      have z_44 := z_39.same (same_below b (by omega))
      clear z_39
      have B_43 := B_39.trans (b.mono (by omega))
      clear B_39 b
      have cp_45 := p_44.cells
      have fp_45 := p_44.free
      have cx0_46 := x0_44.cells
      have fx0_46 := x0_44.free
      clear z_44
      go_wp2_with fail
      refine (markSchema_any _ _ _ n _ m _ 1 _ _ _ ats cs _ x_44 (by omega) (by omega) (by omega) (by omega) (by omega)).mono ?_
      rintro e w12 ⟨⟨K1, rfl, hK1⟩, gg⟩
      clear cp_45 fp_45
      clear cx0_46 fx0_46
      have t_47 := gg.size
      have z_47 : w.heap.size ≤ w12.heap.size := by omega
      have p_48 := p_44.same (same_only gg (by omega) (by omega))
      clear p_44
      have wr_48 := wr_44.same (same_only gg (by omega) (by omega))
      clear wr_44
      have x0_48 := x0_44.same (same_only gg (by omega) (by omega))
      clear x0_44
      have y_48 := y_44.same (same_only gg (by omega) (by omega))
      clear y_44
      have gr_48 := gr_44.same (same_only gg (by omega) (by omega))
      clear gr_44
      clear x_44
      have B_47 := B_43.trans (gg.below (by omega) (by omega))
      clear B_43 gg
      have cp_49 := p_48.cells
      have fp_49 := p_48.free
      have cx0_50 := x0_48.cells
      have fx0_50 := x0_48.free
      clear cx0_50 fx0_50
      clear x0_48
      go_wp2_with fail
      refine (markIntS_any _ q _ K1 _ _ _ y_48.own (by omega) (by omega)).mono ?_
      rintro e w13 ⟨rfl, o, gg, zz⟩
      clear cp_49 fp_49
      have n_51 := Ow.only y_48 gg
      have t_51 := n_51.size
      have z_51 : w.heap.size ≤ w13.heap.size := by omega
      have p_52 := p_48.same (same_only n_51 (by omega) (by omega))
      clear p_48
      have wr_52 := wr_48.same (same_only n_51 (by omega) (by omega))
      clear wr_48
      have gr_52 := gr_48.same (same_only n_51 (by omega) (by omega))
      clear gr_48
      have y_51 : Ow _ _ _ w13 _ _ _ _ := ⟨o, y_48.top⟩
      clear y_48 o gg
      have B_51 := B_47.trans (n_51.below (by omega) (by omega))
      clear B_47 n_51
      clear zz
      have cp_53 := p_52.cells
      have fp_53 := p_52.free
      clear y_51
      have hkk : ¬ (((K1 + q : Nat) : Int) < 0) := by omega
      have hkd : decide (((K1 + q : Nat) : Int) < 0) = false := decide_eq_false hkk
      go_wp2_with fail
      refine (eqForkS_same _ _ M _ _ bs _ gr_52.rd wr_52.rd (by omega)).mono ?_
      rintro e w14 ⟨rfl, b⟩
      clear cp_53 fp_53
      have t_54 := b.size
      have z_54 : w.heap.size ≤ w14.heap.size := by omega
      have p_55 := p_52.same (same_below b (by omega))
      clear p_52
      have wr_55 := wr_52.same (same_below b (by omega))
      clear wr_52
      have gr_55 := gr_52.same (same_below b (by omega))
      clear gr_52
      have B_54 := B_51.trans (b.mono (by omega))
      clear B_51 b
      have cp_56 := p_55.cells
      have fp_56 := p_55.free
      go_wp2_with fail
      refine (markF2 _ _ M _ 1 _ _ _ gr_55 (by omega) (by omega)).mono ?_
      rintro e w15 ⟨rfl, o, gg⟩
      clear cp_56 fp_56
      have t_57 := gg.size
      have z_57 : w.heap.size ≤ w15.heap.size := by omega
      have p_58 := p_55.same (same_only gg (by omega) (by omega))
      clear p_55
      have wr_58 := wr_55.same (same_only gg (by omega) (by omega))
      clear wr_55
      have gr_57 := o
      clear gr_55 o
      have B_57 := B_54.trans (gg.below (by omega) (by omega))
      clear B_54 gg
      have cp_59 := p_58.cells
      have fp_59 := p_58.free
      go_wp2_with fail
      refine (heldForkS_any _ M _ 1 _ gr_57.rd (by omega) (by omega)).mono ?_
      rintro e w16 ⟨rfl, rfl⟩
      go_wp2_with fail
      refine (toSchema_any A C n c m d hs ats cs _ (HRS.out.below B_57 (Nat.le_refl _)) (by omega) (by omega) (by omega)).mono ?_
      rintro e w16 ⟨g8, g9, midd, gsd, rfl, o, b⟩
      clear cp_59 fp_59
      have t_60 := b.size
      have z_60 : w.heap.size ≤ w16.heap.size := by omega
      have p_61 := p_58.same (same_below b (by omega))
      clear p_58
      have wr_61 := wr_58.same (same_below b (by omega))
      clear wr_58
      have gr_61 := gr_57.same (same_below b (by omega))
      clear gr_57
      have B_60 := B_57.trans (b.mono (by omega))
      clear B_57 b
      have d_60 := o
      clear o
      have cp_62 := p_61.cells
      have fp_62 := p_61.free
      go_wp2_with fail
      refine (toIntS_own X q e0 xs _ _ _ (HX3.out.below B_60 (Nat.le_refl _)) (by omega) (Below.refl _ _) (Nat.le_refl _)).mono ?_
      rintro e w17 ⟨g10, rfl, o, b⟩
      clear cp_62 fp_62
      have t_63 := b.size
      have z_63 : w.heap.size ≤ w17.heap.size := by omega
      have p_64 := p_61.same (same_below b (by omega))
      clear p_61
      have wr_64 := wr_61.same (same_below b (by omega))
      clear wr_61
      have gr_64 := gr_61.same (same_below b (by omega))
      clear gr_61
      have d_64 := d_60.same (same_below b (by omega))
      clear d_60
      have B_63 := B_60.trans (b.mono (by omega))
      clear B_60 b
      have y_63 := Ow.of o
      clear o
      have cp_65 := p_64.cells
      have fp_65 := p_64.free
      go_wp2_with fail
      refine (iCand2 _ _ _ _ _ _ _ ats cs _ q _ xs two bs M _ HBs.out HM.out (d_64.sch (by omega) (by omega) (by omega) HOk.out HCs.out) y_63.rd hq).mono ?_
      rintro e w18 ⟨A3, cA3, rfl, o, b⟩
      clear cp_65 fp_65
      have t_66 := b.size
      have z_66 : w.heap.size ≤ w18.heap.size := by omega
      have p_67 := p_64.same (same_below b (by omega))
      clear p_64
      have wr_67 := wr_64.same (same_below b (by omega))
      clear wr_64
      have gr_67 := gr_64.same (same_below b (by omega))
      clear gr_64
      have d_67 := d_64.same (same_below b (by omega))
      clear d_64
      have y_67 := y_63.same (same_below b (by omega))
      clear y_63
      have B_66 := B_63.trans (b.mono (by omega))
      clear B_63 b
      have hr_66 := Ow2.of o
      clear o
      have cp_68 := p_67.cells
      have fp_68 := p_67.free
      clear d_67
      clear y_67
      go_wp2_with fail
      refine (eqForkS_same _ _ M _ _ bs _ hr_66.rd wr_67.rd (by omega)).mono ?_
      rintro e w19 ⟨rfl, b⟩
      clear cp_68 fp_68
      have t_69 := b.size
      have z_69 : w.heap.size ≤ w19.heap.size := by omega
      have p_70 := p_67.same (same_below b (by omega))
      clear p_67
      have wr_70 := wr_67.same (same_below b (by omega))
      clear wr_67
      have gr_70 := gr_67.same (same_below b (by omega))
      clear gr_67
      have hr_70 := hr_66.same (same_below b (by omega))
      clear hr_66
      have B_69 := B_66.trans (b.mono (by omega))
      clear B_66 b
      have cp_71 := p_70.cells
      have fp_71 := p_70.free
      clear hr_70
      clear wr_70
      go_wp2_with fail
      refine (heldForkS_any _ M _ 1 _ gr_70.rd (by omega) (by omega)).mono ?_
      rintro e w20 ⟨rfl, rfl⟩
      go_wp2_with fail
      go_ret
      exact ⟨rfl, B_69⟩
    · have HZ := Lib.hid (szI_no (left := 1048576) (n := ((n : Int) + (asTot ats : Int) + ((m : Int) + (bytesOf cs : Int)))) (by omega))
      have B0 := Below.refl w.heap.size w
      have s0 : w.heap.size ≤ w.heap.size := Nat.le_refl _
      go_enter Try.func7, Try.ntmps7
      have p_2 : Bx (w.alloc (.cells #[.slice A n c, .slice C m d] 25)) (w.heap.size) 25 #[.slice A n c, .slice C m d] := Bx.new _ _ _
      have B_2 := B0.alloc s0 (.cells #[.slice A n c, .slice C m d] 25)
      clear B0
      have cp_3 := p_2.cells
      have fp_3 := p_2.free
      go_wp2_with fail
      refine (szSchema_any A C n c m d hs ats cs 1048576 _ (HRS.out.below B_2 (Nat.le_refl _)).at_ (HRS.out.below B_2 (Nat.le_refl _)).cl HOk.out HHs.out HCs.out (by omega) (by omega) (by omega) (by omega)).mono ?_
      rw [HZ.out]
      rintro e w1 ⟨rfl, b⟩
      clear cp_3 fp_3
      simp only [World.size_alloc] at b
      have t_4 := b.size
      simp only [World.size_alloc] at t_4
      have z_4 : w.heap.size ≤ w1.heap.size := by omega
      have p_5 := p_2.same (same_below b (by omega))
      clear p_2
      have B_4 := B_2.trans (b.mono (by omega))
      clear B_2 b
      have cp_6 := p_5.cells
      have fp_6 := p_5.free
      go_wp2_with fail
      go_ret
      exact ⟨rfl, B_4⟩
  · have hq' : (1048576 : Int) < (q : Int) := by omega
    have HB0 := Lib.hid (below_alloc1 (w := w) (.cells #[.slice A n c, .slice C m d] 25))
    go_enter Try.func7, Try.ntmps7
    go_wp2_with fail
    go_ret
    exact ⟨rfl, HB0.out⟩

set_option maxRecDepth 100000 in
theorem walks : Walks 7 Try.f7 := by
  intro H enc W base args ds ps hval hA _
  rw [Try.params7] at hA hval
  obtain ⟨v0, vs0, d0, ds0, p0, q0, hargs, rfl, rfl, h0, r0⟩ := trodAll_cons hA
  obtain ⟨v1, vs1, d1, ds1, p1, q1, rfl, rfl, rfl, h1, r1⟩ := trodAll_cons r0
  obtain ⟨v2, vs2, d2, ds2, p2, q2, rfl, rfl, rfl, h2, r2⟩ := trodAll_cons r1
  obtain ⟨rfl, rfl, rfl⟩ := trodAll_nil r2
  obtain rfl : args = #[v0, v1, v2] := by cases args; simp_all
  obtain ⟨cs0, rfl, hl0, nn0, hf0⟩ := open_agg Try.underlying25 (by kernel_rfl) (by kernel_rfl) (hval 0 25 v0 rfl rfl) h0
  obtain ⟨c0_0, _, e0_0, y0_0⟩ := hf0 0 _ rfl
  obtain ⟨c0_1, _, e0_1, y0_1⟩ := hf0 1 _ rfl
  obtain ⟨a0_0, a0_1, rfl⟩ : ∃ a0_0 a0_1, cs0 = [a0_0, a0_1] := by
    match cs0, hl0 with
    | [a0, a1], _ => exact ⟨a0, a1, rfl⟩
  simp only [List.getElem?_cons_zero, List.getElem?_cons_succ, Option.some.injEq] at e0_0 e0_1
  subst e0_0 e0_1
  obtain ⟨A0_0, n0_0, c0_0, g0_0, x0_0, rfl, hl0_0, hm0_0, hr0_0, hg0_0, hx0_0⟩ := open_attrs (ts := 23) (ss := 23) Try.underlying22 Try.underlying105 (by kernel_rfl) (by kernel_rfl) Try.underlying9 Try.underlying26 Try.underlying3 (by kernel_rfl) Try.underlying23 Try.underlying9 (by kernel_rfl) y0_0
  obtain ⟨A0_1, n0_1, c0_1, x0_1, rfl, hl0_1, hm0_1, hr0_1, w0_1⟩ := open_strings_rd Try.underlying23 (by kernel_rfl) Try.underlying9 y0_1
  obtain ⟨f1, y1, z1⟩ := slice_cell Try.underlying26 (hval 1 26 v1 rfl rfl) h1
  obtain ⟨A1, n1, c1, a1, rfl, hl1, hm1, hr1, w1⟩ := open_ints_rd Try.underlying26 (by kernel_rfl) Try.underlying3 z1
  obtain ⟨a2, rfl, rfl, rfl⟩ := open_bool Try.underlying4 (hval 2 4 v2 rfl rfl) h2
  exact walk (w := W) A0_0 n0_0 c0_0 g0_0 x0_0 A0_1 n0_1 c0_1 x0_1 A1 n1 c1 a1 a2 hl0_0 hm0_0 hr0_0 hg0_0 hx0_0 hl0_1 hm0_1 hr0_1 w0_1 hl1 hm1 hr1 w1

set_option maxRecDepth 100000 in
theorem lifted (os : Os) (started : os.Started) (H : Type) (enc : TypeId × Value → H) :
    ReturnsInHanded {} Try.checked os 7 .any (Rows.fnExactCandidatesSpec.pre6 enc Try.prog Try.f7 Rows.fnExactCandidatesRow.domain false) (Rows.fnExactCandidatesSpec.post enc Try.prog Try.f7 false true false false) :=
  law_lifted started (by kernel_rfl) Try.func7
    (ChangeSpec.witness6 (enc := enc) (C := Try.checked) false ⟨#[], #[.agg #[.slice none 0 0, .slice none 0 0], .slice none 0 0, .bool false], []⟩ 8 (by kernel_rfl) (by kernel_rfl) (by kernel_rfl) (by kernel_rfl))
    rfl rfl Try.underlying4 (fun ds h => match ds, h with | [_, _, _], _ => rfl) (by
      rw [Try.params7]
      intro t ht
      simp only [List.mem_cons, List.not_mem_nil, or_false] at ht
      rcases ht with rfl | rfl | rfl <;> exact ⟨by kernel_rfl, of_decide_eq_true (by kernel_rfl)⟩) walks

theorem over : Rows.fnExactCandidatesRow.holds Try.pinned (OpenSpec.ofChange Rows.fnExactCandidatesSpec) :=
  OpenClaim.holds_of_wide 7 Try.f7 rfl rfl rfl rfl rfl rfl rfl ⟨rfl, rfl, rfl, rfl, rfl⟩ rfl rfl rfl rfl rfl (by kernel_rfl) Try.func7 (by kernel_rfl)
    (of_decide_eq_true (by kernel_rfl)) (by unfold Func.isWrapper; first | (rw [if_pos (by decide +kernel)]; kernel_rfl) | (rw [if_neg (by decide +kernel)]; exact ⟨rfl, rfl⟩))
    (fun os started H enc _ => lifted os started H enc)

theorem proved : Rows.FnExactCandidatesSaid := over
#print axioms proved

end LawCandidates
end Go.Proofs.Ytgkefkbpdbokbaa
