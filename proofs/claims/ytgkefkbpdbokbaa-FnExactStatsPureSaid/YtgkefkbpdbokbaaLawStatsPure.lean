/-
  Proved: laws.FnExactStatsPure returns true for every schema and stats. Conditions: none.
-/
import Derived.Test.YtgkefkbpdbokbaaProm
import Derived.Test.YtgkefkbpdbokbaaStatW
import Derived.Test.YtgkefkbpdbokbaaOpenSch
import Derived.Test.YtgkefkbpdbokbaaOpenSS
import Derived.Test.YtgkefkbpdbokbaaObj
namespace Go.Proofs.Ytgkefkbpdbokbaa
open Go.ChangeShapes Go.WideShapes Go.ChangeAt Go.RowKit Go.Deep
namespace LawStatsPure
set_option linter.unusedSimpArgs false
set_option linter.unusedVariables false

/-- toSchema, read from an earlier world on: what it returns reads as the schema. -/
theorem to2 (A C : Option Addr) (n c m d : Nat) (hs : List AH) (ats : List AD) (cs : List ByteArray) (w W0 : World) (B : Nat) (r : RdSch w A C n m hs ats cs) (hn : n ≤ 1048576) (hb : asTot ats ≤ 1048576) (hm : m ≤ 1048576) (ok : ∀ a ∈ ats, ADok a) (cok : ∀ s ∈ cs, s.size ≤ 9223372036854775807) (hB : Below B W0 w) (hs' : B ≤ W0.heap.size) :
    Calls Try.prog 15 #[.agg #[.slice A n c, .slice C m d]] w fun e w' => (∃ g1 g2 gs, e = .returned (.agg #[.slice (some ⟨g1, 0, none⟩) n n, .slice (some ⟨g2, 0, none⟩) m m]) ∧ Sch w' (some ⟨g1, 0, none⟩) (some ⟨g2, 0, none⟩) n m m gs ats cs ∧ Below w.heap.size w w') ∧ Below B W0 w' :=
  lift ((toSchema_any A C n c m d hs ats cs w r hn hb hm).mono fun _ _ ⟨g1, g2, mid, gs, h1, h2, h3⟩ => ⟨⟨g1, g2, gs, h1, h2.sch hn hb hm ok cok, h3⟩, h3⟩) hB hs'

/-- toStats, read from an earlier world on: what it returns reads as the totals and cells. -/
theorem to3 (A C : Option Addr) (n c m d : Nat) (gs : List Hd) (ts : List Int) (xss : List (List Int)) (w W0 : World) (B : Nat) (r : Sta w A C n m gs ts xss) (hB : Below B W0 w) (hs' : B ≤ W0.heap.size) :
    Calls Try.prog 36 #[.agg #[.slice A n c, .slice C m d]] w fun e w' => (∃ g1 g2 hs, e = .returned (.agg #[.slice (some ⟨g1, 0, none⟩) n n, .slice (some ⟨g2, 0, none⟩) m m]) ∧ Sta w' (some ⟨g1, 0, none⟩) (some ⟨g2, 0, none⟩) n m hs ts xss ∧ Below w.heap.size w w') ∧ Below B W0 w' :=
  lift ((toStats_any A C n c m d gs ts xss w r).mono fun _ _ ⟨g1, g2, mid, hs, h1, h2, h3⟩ => ⟨⟨g1, g2, hs, h1, h2.sta r.hq r.hp r.hb, h3⟩, h3⟩) hB hs'

set_option maxHeartbeats 8000000 in
theorem walk (w : World) (A : Option Addr) (n c : Nat) (hs : List AH) (ats : List AD) (C : Option Addr) (m d : Nat) (cs : List ByteArray) (T : Option Addr) (q e0 : Nat) (ts : List Int) (X : Option Addr) (p f0 : Nat) (gs : List Hd) (xss : List (List Int)) (hl : n ≤ c) (hm : c ≤ maxLen) (hr : RdAS w A n hs ats) (hg : ∀ h ∈ hs, AHw h) (hx : ∀ a ∈ ats, ADw a) (hl2 : m ≤ d) (hm2 : d ≤ maxLen) (hr2 : Rd w C m (cs.map Value.string)) (hw2 : ∀ s ∈ cs, s.size ≤ maxLen) (hlt : q ≤ e0) (hmt : e0 ≤ maxLen) (hrt : Rd w T q (ts.map (Value.int .i64))) (hwt : ∀ z ∈ ts, (Lit.int .i64 z).wf = true) (hlx : p ≤ f0) (hmx : f0 ≤ maxLen) (hrx : RdSS w X p gs (iss xss)) (hbx : ∀ x ∈ gs, x.2.1 ≤ x.2.2 ∧ x.2.2 ≤ maxLen) (hwx : ∀ xs ∈ xss, ∀ z ∈ xs, (Lit.int .i64 z).wf = true) :
    Calls Try.prog 9 #[.agg #[.slice A n c, .slice C m d], .agg #[.slice T q e0, .slice X p f0]] w fun e w' => e = .returned (.bool true) ∧ Below w.heap.size w w' := by
  unfold maxLen at hm hm2 hmt hmx
  have HRS : Hid (RdSch w A C n m hs ats cs) := ⟨hr, hr2⟩
  have HOk : Hid (∀ a ∈ ats, ADok a) := fun a ha => ⟨by have := (hx a ha).1; unfold maxLen at this; omega, fun s hs => by have := (hx a ha).2.2 s hs; unfold maxLen at this; omega⟩
  have HHs : Hid (∀ h ∈ hs, AHok h) := fun h hh => ⟨by have := (hg h hh).1; unfold maxLen at this; omega, by have := (hg h hh).2; unfold maxLen at this; omega⟩
  have HCs : Hid (∀ s ∈ cs, s.size ≤ 9223372036854775807) := fun s hs => by have := hw2 s hs; unfold maxLen at this; omega
  have HRX := Lib.hid hrx; have HRT := Lib.hid hrt
  have HBX : Hid (∀ x ∈ gs, x.2.1 ≤ 9223372036854775807) := fun x hx => by have := hbx x hx; unfold maxLen at this; omega
  have HTI := Lib.hid (tot_iss xss)
  clear hr hr2 hg hx hw2 hrt hwt hrx hbx hwx
  obtain ⟨y, hy⟩ : ∃ y, pureB ats cs ts xss = y := ⟨_, rfl⟩
  have HD := Lib.hid hy
  clear hy
  by_cases hn : ((n : Int) + (asTot ats : Int) + ((m : Int) + (bytesOf cs : Int))) ≤ 1048576
  · have HZ := Lib.hid (szI_yes hn)
    by_cases hnt : ((q : Int) + ((p : Int) + (tot (iss xss) : Int))) ≤ (1048576 - ((n : Int) + (asTot ats : Int) + ((m : Int) + (bytesOf cs : Int))))
    · have HZT := Lib.hid (szI_yes hnt)
      have htot : totI xss = tot (iss xss) := HTI.out.symm
      have HST : Hid (Sta w T X q p gs ts xss) := ⟨HRT.out, HRX.out, by omega, by omega, by omega⟩
      have B0 := Below.refl w.heap.size w
      have s0 : w.heap.size ≤ w.heap.size := Nat.le_refl _
      go_enter Try.func9, Try.ntmps9
      have p_2 : Bx (w.alloc (.cells #[.slice A n c, .slice C m d] 25)) (w.heap.size) 25 #[.slice A n c, .slice C m d] := Bx.new _ _ _
      have B_2 := B0.alloc s0 (.cells #[.slice A n c, .slice C m d] 25)
      clear B0
      have cp_3 := p_2.cells
      have fp_3 := p_2.free
      clear cp_3 fp_3
      have p_4 := p_2.same (same_alloc (.cells #[.slice T q e0, .slice X p f0] 55) (by simp only [World.size_alloc]; omega))
      clear p_2
      have t_5 : Bx ((w.alloc (.cells #[.slice A n c, .slice C m d] 25)).alloc (.cells #[.slice T q e0, .slice X p f0] 55)) (w.heap.size + 1) 55 #[.slice T q e0, .slice X p f0] := by
        have h := Bx.new (w.alloc (.cells #[.slice A n c, .slice C m d] 25)) 55 #[.slice T q e0, .slice X p f0]
        simpa only [World.size_alloc] using h
      have B_5 := B_2.alloc (by simp only [World.size_alloc]; omega) (.cells #[.slice T q e0, .slice X p f0] 55)
      clear B_2
      have cp_6 := p_4.cells
      have fp_6 := p_4.free
      have ct_7 := t_5.cells
      have ft_7 := t_5.free
      go_wp2_with fail
      refine (szSchema_any A C n c m d hs ats cs 1048576 _ (HRS.out.below B_5 (Nat.le_refl _)).at_ (HRS.out.below B_5 (Nat.le_refl _)).cl HOk.out HHs.out HCs.out (by omega) (by omega) (by omega) (by omega)).mono ?_
      rw [HZ.out]
      rintro e w1 ⟨rfl, b⟩
      clear cp_6 fp_6
      clear ct_7 ft_7
      simp only [World.size_alloc] at b
      have t_8 := b.size
      simp only [World.size_alloc] at t_8
      have z_8 : w.heap.size ≤ w1.heap.size := by omega
      have p_9 := p_4.same (same_below b (by omega))
      clear p_4
      have t_9 := t_5.same (same_below b (by omega))
      clear t_5
      have B_8 := B_5.trans (b.mono (by omega))
      clear B_5 b
      have cp_10 := p_9.cells
      have fp_10 := p_9.free
      have ct_11 := t_9.cells
      have ft_11 := t_9.free
      go_wp2_with fail
      refine (szStats_any T X q e0 p f0 gs xss (1048576 - ((n : Int) + (asTot ats : Int) + ((m : Int) + (bytesOf cs : Int)))) _ (HRX.out.below B_8 (Nat.le_refl _)) HBX.out (by omega) (by omega) (by omega) (by omega)).mono ?_
      rw [HZT.out]
      rintro e w2 ⟨rfl, b⟩
      clear cp_10 fp_10
      clear ct_11 ft_11
      have t_12 := b.size
      have z_12 : w.heap.size ≤ w2.heap.size := by omega
      have p_13 := p_9.same (same_below b (by omega))
      clear p_9
      have t_13 := t_9.same (same_below b (by omega))
      clear t_9
      have B_12 := B_8.trans (b.mono (by omega))
      clear B_8 b
      have cp_14 := p_13.cells
      have fp_14 := p_13.free
      have ct_15 := t_13.cells
      have ft_15 := t_13.free
      go_wp2_with fail
      have lp_16 := p_13.lt
      have dp0_16 : Hid (w2.cell? ⟨w.heap.size, 0, none⟩ = some (.slice A n c)) := p_13.cells 0
      have dp1_16 : Hid (w2.cell? ⟨w.heap.size, 1, none⟩ = some (.slice C m d)) := p_13.cells 1
      have lt_16 := t_13.lt
      have dt0_16 : Hid (w2.cell? ⟨w.heap.size + 1, 0, none⟩ = some (.slice T q e0)) := t_13.cells 0
      have dt1_16 : Hid (w2.cell? ⟨w.heap.size + 1, 1, none⟩ = some (.slice X p f0)) := t_13.cells 1
      clear cp_14 fp_14
      clear ct_15 ft_15
      have HA_16 := Lib.hid B_12
      go_region_held3 (fun w' => w'.cell? ⟨w.heap.size, 0, none⟩ = some (.slice A n c) ∧ w'.cell? ⟨w.heap.size, 1, none⟩ = some (.slice C m d) ∧ w'.cell? ⟨w.heap.size + 1, 0, none⟩ = some (.slice T q e0) ∧ w'.cell? ⟨w.heap.size + 1, 1, none⟩ = some (.slice X p f0) ∧ Below w2.heap.size w2 w')
        (first
          | exact ⟨dp0_16.out, dp1_16.out, dt0_16.out, dt1_16.out, (Below.refl _ _).drew⟩
          | exact ⟨(Below.cell (p := ⟨w.heap.size, 0, none⟩) b9 lp_16).trans dp0_16.out, (Below.cell (p := ⟨w.heap.size, 1, none⟩) b9 lp_16).trans dp1_16.out, (Below.cell (p := ⟨w.heap.size + 1, 0, none⟩) b9 lt_16).trans dt0_16.out, (Below.cell (p := ⟨w.heap.size + 1, 1, none⟩) b9 lt_16).trans dt1_16.out, b9⟩
          | exact ⟨(Below.cell (p := ⟨w.heap.size, 0, none⟩) b8 lp_16).trans dp0_16.out, (Below.cell (p := ⟨w.heap.size, 1, none⟩) b8 lp_16).trans dp1_16.out, (Below.cell (p := ⟨w.heap.size + 1, 0, none⟩) b8 lt_16).trans dt0_16.out, (Below.cell (p := ⟨w.heap.size + 1, 1, none⟩) b8 lt_16).trans dt1_16.out, b8⟩
          | exact ⟨(Below.cell (p := ⟨w.heap.size, 0, none⟩) b7 lp_16).trans dp0_16.out, (Below.cell (p := ⟨w.heap.size, 1, none⟩) b7 lp_16).trans dp1_16.out, (Below.cell (p := ⟨w.heap.size + 1, 0, none⟩) b7 lt_16).trans dt0_16.out, (Below.cell (p := ⟨w.heap.size + 1, 1, none⟩) b7 lt_16).trans dt1_16.out, b7⟩)
        (first
          | (go_at_call 15; go_split_ands; refine (to2 A C n c m d hs ats cs _ w2 w2.heap.size (HRS.out.below (HA_16.out.trans (Below.mono (by assumption) HA_16.out.size)) (Nat.le_refl _)) (by omega) (by omega) (by omega) HOk.out HCs.out (by assumption) (Nat.le_refl _)).mono ?_; rintro e w' ⟨⟨ga8, gb8, gs8, rfl, r8, c8⟩, b8⟩)
          | (go_at_call 36; go_split_ands; refine (to3 T X q e0 p f0 gs ts xss _ w2 w2.heap.size (HST.out.below (HA_16.out.trans (Below.mono (by assumption) HA_16.out.size)) (Nat.le_refl _)) (by assumption) (Nat.le_refl _)).mono ?_; rintro e w' ⟨⟨ga7, gb7, gs7, rfl, r7, c7⟩, b7⟩; try (replace r8 := r8.below c7 (Nat.le_refl _)))
          | (go_at_call 39; refine (lift (W0 := w2) (B := w2.heap.size) (sStatsPure_any _ _ _ _ _ _ _ ats cs _ _ _ _ _ _ _ ts xss _ r8 r7) (by assumption) (Nat.le_refl _)).mono ?_; rw [HD.out]; rintro e w3 ⟨rfl, b9⟩))
      have t_16 := b9.size
      have z_16 : w.heap.size ≤ w3.heap.size := by omega
      have p_17 := p_13.same (same_below b9 (by omega))
      clear p_13
      have t_17 := t_13.same (same_below b9 (by omega))
      clear t_13
      have B_16 := B_12.trans (b9.mono (by omega))
      clear B_12 b9
      have cp_18 := p_17.cells
      have fp_18 := p_17.free
      have ct_19 := t_17.cells
      have ft_19 := t_17.free
      go_wp2_with fail
      refine (toSchema_any A C n c m d hs ats cs _ (HRS.out.below B_16 (Nat.le_refl _)) (by omega) (by omega) (by omega)).mono ?_
      rintro e w4 ⟨g1, g2, midx, gsx, rfl, o, b⟩
      clear cp_18 fp_18
      clear ct_19 ft_19
      have t_20 := b.size
      have z_20 : w.heap.size ≤ w4.heap.size := by omega
      have p_21 := p_17.same (same_below b (by omega))
      clear p_17
      have t_21 := t_17.same (same_below b (by omega))
      clear t_17
      have B_20 := B_16.trans (b.mono (by omega))
      clear B_16 b
      have x_20 := o
      clear o
      have cp_22 := p_21.cells
      have fp_22 := p_21.free
      have ct_23 := t_21.cells
      have ft_23 := t_21.free
      clear cp_22 fp_22
      clear ct_23 ft_23
      have p_24 := p_21.same (same_alloc (.cells #[.slice (some ⟨g1, 0, none⟩) n n, .slice (some ⟨g2, 0, none⟩) m m] 31) (by omega))
      clear p_21
      have t_24 := t_21.same (same_alloc (.cells #[.slice (some ⟨g1, 0, none⟩) n n, .slice (some ⟨g2, 0, none⟩) m m] 31) (by omega))
      clear t_21
      have x_24 := x_20.same (same_alloc (.cells #[.slice (some ⟨g1, 0, none⟩) n n, .slice (some ⟨g2, 0, none⟩) m m] 31) (by omega))
      clear x_20
      have x0_25 : Bx (w4.alloc (.cells #[.slice (some ⟨g1, 0, none⟩) n n, .slice (some ⟨g2, 0, none⟩) m m] 31)) (w4.heap.size) 31 #[.slice (some ⟨g1, 0, none⟩) n n, .slice (some ⟨g2, 0, none⟩) m m] := Bx.new _ _ _
      have B_25 := B_20.alloc z_20 (.cells #[.slice (some ⟨g1, 0, none⟩) n n, .slice (some ⟨g2, 0, none⟩) m m] 31)
      clear B_20
      have cp_26 := p_24.cells
      have fp_26 := p_24.free
      have ct_27 := t_24.cells
      have ft_27 := t_24.free
      have cx0_28 := x0_25.cells
      have fx0_28 := x0_25.free
      go_wp2_with fail
      refine (toStats_any T X q e0 p f0 gs ts xss _ (HST.out.below B_25 (Nat.le_refl _))).mono ?_
      rintro e w5 ⟨g3, g4, midy, gsy, rfl, o, b⟩
      clear cp_26 fp_26
      clear ct_27 ft_27
      clear cx0_28 fx0_28
      simp only [World.size_alloc] at b o
      have t_29 := b.size
      simp only [World.size_alloc] at t_29
      have z_29 : w.heap.size ≤ w5.heap.size := by omega
      have p_30 := p_24.same (same_below b (by omega))
      clear p_24
      have t_30 := t_24.same (same_below b (by omega))
      clear t_24
      have x_30 := x_24.same (same_below b (by omega))
      clear x_24
      have x0_30 := x0_25.same (same_below b (by omega))
      clear x0_25
      have B_29 := B_25.trans (b.mono (by omega))
      clear B_25 b
      have y_29 := o
      clear o
      have cp_31 := p_30.cells
      have fp_31 := p_30.free
      have ct_32 := t_30.cells
      have ft_32 := t_30.free
      have cx0_33 := x0_30.cells
      have fx0_33 := x0_30.free
      clear cp_31 fp_31
      clear ct_32 ft_32
      clear cx0_33 fx0_33
      have p_34 := p_30.same (same_alloc (.cells #[.slice (some ⟨g3, 0, none⟩) q q, .slice (some ⟨g4, 0, none⟩) p p] 58) (by omega))
      clear p_30
      have t_34 := t_30.same (same_alloc (.cells #[.slice (some ⟨g3, 0, none⟩) q q, .slice (some ⟨g4, 0, none⟩) p p] 58) (by omega))
      clear t_30
      have x_34 := x_30.same (same_alloc (.cells #[.slice (some ⟨g3, 0, none⟩) q q, .slice (some ⟨g4, 0, none⟩) p p] 58) (by omega))
      clear x_30
      have x0_34 := x0_30.same (same_alloc (.cells #[.slice (some ⟨g3, 0, none⟩) q q, .slice (some ⟨g4, 0, none⟩) p p] 58) (by omega))
      clear x0_30
      have y_34 := y_29.same (same_alloc (.cells #[.slice (some ⟨g3, 0, none⟩) q q, .slice (some ⟨g4, 0, none⟩) p p] 58) (by omega))
      clear y_29
      have y0_35 : Bx (w5.alloc (.cells #[.slice (some ⟨g3, 0, none⟩) q q, .slice (some ⟨g4, 0, none⟩) p p] 58)) (w5.heap.size) 58 #[.slice (some ⟨g3, 0, none⟩) q q, .slice (some ⟨g4, 0, none⟩) p p] := Bx.new _ _ _
      have B_35 := B_29.alloc z_29 (.cells #[.slice (some ⟨g3, 0, none⟩) q q, .slice (some ⟨g4, 0, none⟩) p p] 58)
      clear B_29
      have cp_36 := p_34.cells
      have fp_36 := p_34.free
      have ct_37 := t_34.cells
      have ft_37 := t_34.free
      have cx0_38 := x0_34.cells
      have fx0_38 := x0_34.free
      have cy0_39 := y0_35.cells
      have fy0_39 := y0_35.free
      go_wp2_with fail
      refine (iStatsPure_any _ _ _ _ _ _ _ ats cs _ _ _ _ _ _ _ ts xss _ (x_34.sch (by omega) (by omega) (by omega) HOk.out HCs.out) (y_34.sta (by omega) (by omega) (by omega))).mono ?_
      rw [HD.out]
      rintro e w6 ⟨rfl, b⟩
      clear cp_36 fp_36
      clear ct_37 ft_37
      clear cx0_38 fx0_38
      clear cy0_39 fy0_39
      simp only [World.size_alloc] at b
      have t_40 := b.size
      simp only [World.size_alloc] at t_40
      have z_40 : w.heap.size ≤ w6.heap.size := by omega
      have p_41 := p_34.same (same_below b (by omega))
      clear p_34
      have t_41 := t_34.same (same_below b (by omega))
      clear t_34
      have x_41 := x_34.same (same_below b (by omega))
      clear x_34
      have x0_41 := x0_34.same (same_below b (by omega))
      clear x0_34
      have y_41 := y_34.same (same_below b (by omega))
      clear y_34
      have y0_41 := y0_35.same (same_below b (by omega))
      clear y0_35
      have B_40 := B_35.trans (b.mono (by omega))
      clear B_35 b
      have cp_42 := p_41.cells
      have fp_42 := p_41.free
      have ct_43 := t_41.cells
      have ft_43 := t_41.free
      have cx0_44 := x0_41.cells
      have fx0_44 := x0_41.free
      have cy0_45 := y0_41.cells
      have fy0_45 := y0_41.free
      go_wp2_with fail
      have lp_46 := p_41.lt
      have dp0_46 : Hid (w6.cell? ⟨w.heap.size, 0, none⟩ = some (.slice A n c)) := p_41.cells 0
      have dp1_46 : Hid (w6.cell? ⟨w.heap.size, 1, none⟩ = some (.slice C m d)) := p_41.cells 1
      have lx0_46 := x0_41.lt
      have dx00_46 : Hid (w6.cell? ⟨w4.heap.size, 0, none⟩ = some (.slice (some ⟨g1, 0, none⟩) n n)) := x0_41.cells 0
      have dx01_46 : Hid (w6.cell? ⟨w4.heap.size, 1, none⟩ = some (.slice (some ⟨g2, 0, none⟩) m m)) := x0_41.cells 1
      clear cp_42 fp_42
      clear ct_43 ft_43
      clear cx0_44 fx0_44
      clear cy0_45 fy0_45
      have HA_46 := Lib.hid B_40
      go_region_held3 (fun w' => w'.cell? ⟨w.heap.size, 0, none⟩ = some (.slice A n c) ∧ w'.cell? ⟨w.heap.size, 1, none⟩ = some (.slice C m d) ∧ w'.cell? ⟨w4.heap.size, 0, none⟩ = some (.slice (some ⟨g1, 0, none⟩) n n) ∧ w'.cell? ⟨w4.heap.size, 1, none⟩ = some (.slice (some ⟨g2, 0, none⟩) m m) ∧ Below w6.heap.size w6 w')
        (first
          | exact ⟨dp0_46.out, dp1_46.out, dx00_46.out, dx01_46.out, (Below.refl _ _).drew⟩
          | exact ⟨(Below.cell (p := ⟨w.heap.size, 0, none⟩) b9 lp_46).trans dp0_46.out, (Below.cell (p := ⟨w.heap.size, 1, none⟩) b9 lp_46).trans dp1_46.out, (Below.cell (p := ⟨w4.heap.size, 0, none⟩) b9 lx0_46).trans dx00_46.out, (Below.cell (p := ⟨w4.heap.size, 1, none⟩) b9 lx0_46).trans dx01_46.out, b9⟩
          | exact ⟨(Below.cell (p := ⟨w.heap.size, 0, none⟩) b8 lp_46).trans dp0_46.out, (Below.cell (p := ⟨w.heap.size, 1, none⟩) b8 lp_46).trans dp1_46.out, (Below.cell (p := ⟨w4.heap.size, 0, none⟩) b8 lx0_46).trans dx00_46.out, (Below.cell (p := ⟨w4.heap.size, 1, none⟩) b8 lx0_46).trans dx01_46.out, b8⟩)
        (first
          | (go_at_call 15; go_split_ands; refine (to2 A C n c m d hs ats cs _ w6 w6.heap.size (HRS.out.below (HA_46.out.trans (Below.mono (by assumption) HA_46.out.size)) (Nat.le_refl _)) (by omega) (by omega) (by omega) HOk.out HCs.out (by assumption) (Nat.le_refl _)).mono ?_; rintro e w' ⟨⟨ga8, gb8, gs8, rfl, r8, c8⟩, b8⟩)
          | (go_at_call 18; refine (lift (W0 := w6) (B := w6.heap.size) (eqSchema_same _ _ _ _ n _ m _ _ _ _ _ ats cs _ (x_41.rd.below (by assumption) (Nat.le_refl _)) r8.rd (by omega) (by omega) (by omega)) (by assumption) (Nat.le_refl _)).mono ?_; rintro e w7 ⟨rfl, b9⟩))
      have t_46 := b9.size
      have z_46 : w.heap.size ≤ w7.heap.size := by omega
      have p_47 := p_41.same (same_below b9 (by omega))
      clear p_41
      have t_47 := t_41.same (same_below b9 (by omega))
      clear t_41
      have x_47 := x_41.same (same_below b9 (by omega))
      clear x_41
      have x0_47 := x0_41.same (same_below b9 (by omega))
      clear x0_41
      have y_47 := y_41.same (same_below b9 (by omega))
      clear y_41
      have y0_47 := y0_41.same (same_below b9 (by omega))
      clear y0_41
      have B_46 := B_40.trans (b9.mono (by omega))
      clear B_40 b9
      have cp_48 := p_47.cells
      have fp_48 := p_47.free
      have ct_49 := t_47.cells
      have ft_49 := t_47.free
      have cx0_50 := x0_47.cells
      have fx0_50 := x0_47.free
      have cy0_51 := y0_47.cells
      have fy0_51 := y0_47.free
      go_wp2_with fail
      have lt_52 := t_47.lt
      have dt0_52 : Hid (w7.cell? ⟨w.heap.size + 1, 0, none⟩ = some (.slice T q e0)) := t_47.cells 0
      have dt1_52 : Hid (w7.cell? ⟨w.heap.size + 1, 1, none⟩ = some (.slice X p f0)) := t_47.cells 1
      have ly0_52 := y0_47.lt
      have dy00_52 : Hid (w7.cell? ⟨w5.heap.size, 0, none⟩ = some (.slice (some ⟨g3, 0, none⟩) q q)) := y0_47.cells 0
      have dy01_52 : Hid (w7.cell? ⟨w5.heap.size, 1, none⟩ = some (.slice (some ⟨g4, 0, none⟩) p p)) := y0_47.cells 1
      clear cp_48 fp_48
      clear ct_49 ft_49
      clear cx0_50 fx0_50
      clear cy0_51 fy0_51
      have HA_52 := Lib.hid B_46
      go_region_held3 (fun w' => w'.cell? ⟨w.heap.size + 1, 0, none⟩ = some (.slice T q e0) ∧ w'.cell? ⟨w.heap.size + 1, 1, none⟩ = some (.slice X p f0) ∧ w'.cell? ⟨w5.heap.size, 0, none⟩ = some (.slice (some ⟨g3, 0, none⟩) q q) ∧ w'.cell? ⟨w5.heap.size, 1, none⟩ = some (.slice (some ⟨g4, 0, none⟩) p p) ∧ Below w7.heap.size w7 w')
        (first
          | exact ⟨dt0_52.out, dt1_52.out, dy00_52.out, dy01_52.out, (Below.refl _ _).drew⟩
          | exact ⟨(Below.cell (p := ⟨w.heap.size + 1, 0, none⟩) b9 lt_52).trans dt0_52.out, (Below.cell (p := ⟨w.heap.size + 1, 1, none⟩) b9 lt_52).trans dt1_52.out, (Below.cell (p := ⟨w5.heap.size, 0, none⟩) b9 ly0_52).trans dy00_52.out, (Below.cell (p := ⟨w5.heap.size, 1, none⟩) b9 ly0_52).trans dy01_52.out, b9⟩
          | exact ⟨(Below.cell (p := ⟨w.heap.size + 1, 0, none⟩) b8 lt_52).trans dt0_52.out, (Below.cell (p := ⟨w.heap.size + 1, 1, none⟩) b8 lt_52).trans dt1_52.out, (Below.cell (p := ⟨w5.heap.size, 0, none⟩) b8 ly0_52).trans dy00_52.out, (Below.cell (p := ⟨w5.heap.size, 1, none⟩) b8 ly0_52).trans dy01_52.out, b8⟩)
        (first
          | (go_at_call 36; go_split_ands; refine (to3 T X q e0 p f0 gs ts xss _ w7 w7.heap.size (HST.out.below (HA_52.out.trans (Below.mono (by assumption) HA_52.out.size)) (Nat.le_refl _)) (by assumption) (Nat.le_refl _)).mono ?_; rintro e w' ⟨⟨ga8, gb8, gs8, rfl, r8, c8⟩, b8⟩)
          | (go_at_call 38; refine (lift (W0 := w7) (B := w7.heap.size) (eqStats_same _ _ _ _ q _ p _ _ _ _ _ ts xss _ ((y_47.sta (by omega) (by omega) (by omega)).below (by assumption) (Nat.le_refl _)) r8) (by assumption) (Nat.le_refl _)).mono ?_; rintro e w8 ⟨rfl, b9⟩))
      have t_52 := b9.size
      have z_52 : w.heap.size ≤ w8.heap.size := by omega
      have p_53 := p_47.same (same_below b9 (by omega))
      clear p_47
      have t_53 := t_47.same (same_below b9 (by omega))
      clear t_47
      have x_53 := x_47.same (same_below b9 (by omega))
      clear x_47
      have x0_53 := x0_47.same (same_below b9 (by omega))
      clear x0_47
      have y_53 := y_47.same (same_below b9 (by omega))
      clear y_47
      have y0_53 := y0_47.same (same_below b9 (by omega))
      clear y0_47
      have B_52 := B_46.trans (b9.mono (by omega))
      clear B_46 b9
      have cp_54 := p_53.cells
      have fp_54 := p_53.free
      have ct_55 := t_53.cells
      have ft_55 := t_53.free
      have cx0_56 := x0_53.cells
      have fx0_56 := x0_53.free
      have cy0_57 := y0_53.cells
      have fy0_57 := y0_53.free
      go_wp2_with fail
      go_ret
      exact ⟨rfl, B_52⟩
    · have HZT := Lib.hid (szI_no (left := (1048576 - ((n : Int) + (asTot ats : Int) + ((m : Int) + (bytesOf cs : Int))))) (n := ((q : Int) + ((p : Int) + (tot (iss xss) : Int)))) (by omega))
      have B0 := Below.refl w.heap.size w
      have s0 : w.heap.size ≤ w.heap.size := Nat.le_refl _
      go_enter Try.func9, Try.ntmps9
      have p_2 : Bx (w.alloc (.cells #[.slice A n c, .slice C m d] 25)) (w.heap.size) 25 #[.slice A n c, .slice C m d] := Bx.new _ _ _
      have B_2 := B0.alloc s0 (.cells #[.slice A n c, .slice C m d] 25)
      clear B0
      have cp_3 := p_2.cells
      have fp_3 := p_2.free
      clear cp_3 fp_3
      have p_4 := p_2.same (same_alloc (.cells #[.slice T q e0, .slice X p f0] 55) (by simp only [World.size_alloc]; omega))
      clear p_2
      have t_5 : Bx ((w.alloc (.cells #[.slice A n c, .slice C m d] 25)).alloc (.cells #[.slice T q e0, .slice X p f0] 55)) (w.heap.size + 1) 55 #[.slice T q e0, .slice X p f0] := by
        have h := Bx.new (w.alloc (.cells #[.slice A n c, .slice C m d] 25)) 55 #[.slice T q e0, .slice X p f0]
        simpa only [World.size_alloc] using h
      have B_5 := B_2.alloc (by simp only [World.size_alloc]; omega) (.cells #[.slice T q e0, .slice X p f0] 55)
      clear B_2
      have cp_6 := p_4.cells
      have fp_6 := p_4.free
      have ct_7 := t_5.cells
      have ft_7 := t_5.free
      go_wp2_with fail
      refine (szSchema_any A C n c m d hs ats cs 1048576 _ (HRS.out.below B_5 (Nat.le_refl _)).at_ (HRS.out.below B_5 (Nat.le_refl _)).cl HOk.out HHs.out HCs.out (by omega) (by omega) (by omega) (by omega)).mono ?_
      rw [HZ.out]
      rintro e w1 ⟨rfl, b⟩
      clear cp_6 fp_6
      clear ct_7 ft_7
      simp only [World.size_alloc] at b
      have t_8 := b.size
      simp only [World.size_alloc] at t_8
      have z_8 : w.heap.size ≤ w1.heap.size := by omega
      have p_9 := p_4.same (same_below b (by omega))
      clear p_4
      have t_9 := t_5.same (same_below b (by omega))
      clear t_5
      have B_8 := B_5.trans (b.mono (by omega))
      clear B_5 b
      have cp_10 := p_9.cells
      have fp_10 := p_9.free
      have ct_11 := t_9.cells
      have ft_11 := t_9.free
      go_wp2_with fail
      refine (szStats_any T X q e0 p f0 gs xss (1048576 - ((n : Int) + (asTot ats : Int) + ((m : Int) + (bytesOf cs : Int)))) _ (HRX.out.below B_8 (Nat.le_refl _)) HBX.out (by omega) (by omega) (by omega) (by omega)).mono ?_
      rw [HZT.out]
      rintro e w2 ⟨rfl, b⟩
      clear cp_10 fp_10
      clear ct_11 ft_11
      have t_12 := b.size
      have z_12 : w.heap.size ≤ w2.heap.size := by omega
      have p_13 := p_9.same (same_below b (by omega))
      clear p_9
      have t_13 := t_9.same (same_below b (by omega))
      clear t_9
      have B_12 := B_8.trans (b.mono (by omega))
      clear B_8 b
      have cp_14 := p_13.cells
      have fp_14 := p_13.free
      have ct_15 := t_13.cells
      have ft_15 := t_13.free
      go_wp2_with fail
      go_ret
      exact ⟨rfl, B_12⟩
  · have HZ := Lib.hid (szI_no (left := 1048576) (n := ((n : Int) + (asTot ats : Int) + ((m : Int) + (bytesOf cs : Int)))) (by omega))
    have B0 := Below.refl w.heap.size w
    have s0 : w.heap.size ≤ w.heap.size := Nat.le_refl _
    go_enter Try.func9, Try.ntmps9
    have p_2 : Bx (w.alloc (.cells #[.slice A n c, .slice C m d] 25)) (w.heap.size) 25 #[.slice A n c, .slice C m d] := Bx.new _ _ _
    have B_2 := B0.alloc s0 (.cells #[.slice A n c, .slice C m d] 25)
    clear B0
    have cp_3 := p_2.cells
    have fp_3 := p_2.free
    clear cp_3 fp_3
    have p_4 := p_2.same (same_alloc (.cells #[.slice T q e0, .slice X p f0] 55) (by simp only [World.size_alloc]; omega))
    clear p_2
    have t_5 : Bx ((w.alloc (.cells #[.slice A n c, .slice C m d] 25)).alloc (.cells #[.slice T q e0, .slice X p f0] 55)) (w.heap.size + 1) 55 #[.slice T q e0, .slice X p f0] := by
      have h := Bx.new (w.alloc (.cells #[.slice A n c, .slice C m d] 25)) 55 #[.slice T q e0, .slice X p f0]
      simpa only [World.size_alloc] using h
    have B_5 := B_2.alloc (by simp only [World.size_alloc]; omega) (.cells #[.slice T q e0, .slice X p f0] 55)
    clear B_2
    have cp_6 := p_4.cells
    have fp_6 := p_4.free
    have ct_7 := t_5.cells
    have ft_7 := t_5.free
    go_wp2_with fail
    refine (szSchema_any A C n c m d hs ats cs 1048576 _ (HRS.out.below B_5 (Nat.le_refl _)).at_ (HRS.out.below B_5 (Nat.le_refl _)).cl HOk.out HHs.out HCs.out (by omega) (by omega) (by omega) (by omega)).mono ?_
    rw [HZ.out]
    rintro e w1 ⟨rfl, b⟩
    clear cp_6 fp_6
    clear ct_7 ft_7
    simp only [World.size_alloc] at b
    have t_8 := b.size
    simp only [World.size_alloc] at t_8
    have z_8 : w.heap.size ≤ w1.heap.size := by omega
    have p_9 := p_4.same (same_below b (by omega))
    clear p_4
    have t_9 := t_5.same (same_below b (by omega))
    clear t_5
    have B_8 := B_5.trans (b.mono (by omega))
    clear B_5 b
    have cp_10 := p_9.cells
    have fp_10 := p_9.free
    have ct_11 := t_9.cells
    have ft_11 := t_9.free
    go_wp2_with fail
    go_ret
    exact ⟨rfl, B_8⟩

set_option maxRecDepth 100000 in
theorem walks : Walks 9 Try.f9 := by
  intro H enc W base args ds ps hval hA _
  rw [Try.params9] at hA hval
  obtain ⟨v0, vs0, d0, ds0, p0, q0, hargs, rfl, rfl, h0, r0⟩ := trodAll_cons hA
  obtain ⟨v1, vs1, d1, ds1, p1, q1, rfl, rfl, rfl, h1, r1⟩ := trodAll_cons r0
  obtain ⟨rfl, rfl, rfl⟩ := trodAll_nil r1
  obtain rfl : args = #[v0, v1] := by cases args; simp_all
  obtain ⟨cs0, rfl, hl0, nn0, hf0⟩ := open_agg Try.underlying25 (by kernel_rfl) (by kernel_rfl) (hval 0 25 v0 rfl rfl) h0
  obtain ⟨c0_0, _, e0_0, y0_0⟩ := hf0 0 _ rfl
  obtain ⟨c0_1, _, e0_1, y0_1⟩ := hf0 1 _ rfl
  obtain ⟨a0_0, a0_1, rfl⟩ : ∃ a0_0 a0_1, cs0 = [a0_0, a0_1] := by
    match cs0, hl0 with
    | [a0, a1], _ => exact ⟨a0, a1, rfl⟩
  simp only [List.getElem?_cons_zero, List.getElem?_cons_succ, Option.some.injEq] at e0_0 e0_1
  subst e0_0 e0_1
  obtain ⟨A0_0, n0_0, c0_0, g0_0, x0_0, rfl, hl0_0, hm0_0, hr0_0, hg0_0, hx0_0⟩ := open_attrs (ts := 23) (ss := 23) Try.underlying22 Try.underlying105 (by kernel_rfl) (by kernel_rfl) Try.underlying9 Try.underlying26 Try.underlying3 (by kernel_rfl) Try.underlying23 Try.underlying9 (by kernel_rfl) y0_0
  obtain ⟨A0_1, n0_1, c0_1, x0_1, rfl, hl0_1, hm0_1, hr0_1, w0_1⟩ := open_strings_rd Try.underlying23 (by kernel_rfl) Try.underlying9 y0_1
  obtain ⟨cs1, rfl, hl1, nn1, hf1⟩ := open_agg Try.underlying55 (by kernel_rfl) (by kernel_rfl) (hval 1 55 v1 rfl rfl) h1
  obtain ⟨c1_0, _, e1_0, y1_0⟩ := hf1 0 _ rfl
  obtain ⟨c1_1, _, e1_1, y1_1⟩ := hf1 1 _ rfl
  obtain ⟨a1_0, a1_1, rfl⟩ : ∃ a1_0 a1_1, cs1 = [a1_0, a1_1] := by
    match cs1, hl1 with
    | [a0, a1], _ => exact ⟨a0, a1, rfl⟩
  simp only [List.getElem?_cons_zero, List.getElem?_cons_succ, Option.some.injEq] at e1_0 e1_1
  subst e1_0 e1_1
  obtain ⟨A1_0, n1_0, c1_0, x1_0, rfl, hl1_0, hm1_0, hr1_0, w1_0⟩ := open_ints_rd Try.underlying26 (by kernel_rfl) Try.underlying3 y1_0
  obtain ⟨A1_1, n1_1, c1_1, g1_1, x1_1, rfl, hl1_1, hm1_1, hr1_1, hb1_1, w1_1⟩ := open_rows Try.underlying53 (by kernel_rfl) Try.underlying26 (by kernel_rfl) Try.underlying3 y1_1
  exact walk (w := W) A0_0 n0_0 c0_0 g0_0 x0_0 A0_1 n0_1 c0_1 x0_1 A1_0 n1_0 c1_0 x1_0 A1_1 n1_1 c1_1 g1_1 x1_1 hl0_0 hm0_0 hr0_0 hg0_0 hx0_0 hl0_1 hm0_1 hr0_1 w0_1 hl1_0 hm1_0 hr1_0 w1_0 hl1_1 hm1_1 hr1_1 hb1_1 w1_1

set_option maxRecDepth 100000 in
theorem lifted (os : Os) (started : os.Started) (H : Type) (enc : TypeId × Value → H) :
    ReturnsInHanded {} Try.checked os 9 .any (Rows.fnExactStatsPureSpec.pre6 enc Try.prog Try.f9 Rows.fnExactStatsPureRow.domain false) (Rows.fnExactStatsPureSpec.post enc Try.prog Try.f9 false true false false) :=
  law_lifted started (by kernel_rfl) Try.func9
    (ChangeSpec.witness6 (enc := enc) (C := Try.checked) false ⟨#[], #[.agg #[.slice none 0 0, .slice none 0 0], .agg #[.slice none 0 0, .slice none 0 0]], []⟩ 8 (by kernel_rfl) (by kernel_rfl) (by kernel_rfl) (by kernel_rfl))
    rfl rfl Try.underlying4 (fun ds h => match ds, h with | [_, _], _ => rfl) (by
      rw [Try.params9]
      intro t ht
      simp only [List.mem_cons, List.not_mem_nil, or_false] at ht
      rcases ht with rfl | rfl <;> exact ⟨by kernel_rfl, of_decide_eq_true (by kernel_rfl)⟩) walks

theorem over : Rows.fnExactStatsPureRow.holds Try.pinned (OpenSpec.ofChange Rows.fnExactStatsPureSpec) :=
  OpenClaim.holds_of_wide 9 Try.f9 rfl rfl rfl rfl rfl rfl rfl ⟨rfl, rfl, rfl, rfl, rfl⟩ rfl rfl rfl rfl rfl (by kernel_rfl) Try.func9 (by kernel_rfl)
    (of_decide_eq_true (by kernel_rfl)) (by unfold Func.isWrapper; first | (rw [if_pos (by decide +kernel)]; kernel_rfl) | (rw [if_neg (by decide +kernel)]; exact ⟨rfl, rfl⟩))
    (fun os started H enc _ => lifted os started H enc)

theorem proved : Rows.FnExactStatsPureSaid := over
#print axioms proved

end LawStatsPure
end Go.Proofs.Ytgkefkbpdbokbaa
