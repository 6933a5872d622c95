/-
  Proved: laws.FnExactForkText returns true for every schema and fork. Condition (tied by the card to the program's own text): what three variables of Go's library hold.
-/
import Derived.Test.YtchkmcikpamdeaaDoorFText
import Derived.Test.YtchkmcikpamdeaaDoorFrameL
import Derived.Test.YtchkmcikpamdeaaDoorSchW
import Derived.Test.YtchkmcikpamdeaaDoorOpenSch
import Derived.Test.YtchkmcikpamdeaaDoorObj
import Derived.Test.YtchkmcikpamdeaaDoorCards
import Derived.Test.YtchkmcikpamdeaaDoorTie
import Derived.SevenTiedAt
namespace Go.Proofs.YtchkmcikpamdeaaDoor
open Go.ChangeShapes Go.WideShapes Go.ChangeAt Go.RowKit Go.Deep
namespace LawForkText
set_option linter.unusedSimpArgs false
set_option linter.unusedVariables false

/-- toSchema, read from an earlier world on: what it returns reads as the schema. -/
theorem to2 (A C : Option Addr) (n c m d : Nat) (hs : List AH) (ats : List AD) (cs : List ByteArray) (w W0 : World) (B : Nat) (r : RdSch w A C n m hs ats cs) (hn : n ≤ 1048576) (hb : asTot ats ≤ 1048576) (hm : m ≤ 1048576) (ok : ∀ a ∈ ats, ADok a) (cok : ∀ s ∈ cs, s.size ≤ 9223372036854775807) (hB : Below B W0 w) (hs' : B ≤ W0.heap.size) :
    Calls Tryd.prog 7 #[.agg #[.slice A n c, .slice C m d]] w fun e w' => (∃ g1 g2 gs, e = .returned (.agg #[.slice (some ⟨g1, 0, none⟩) n n, .slice (some ⟨g2, 0, none⟩) m m]) ∧ Sch w' (some ⟨g1, 0, none⟩) (some ⟨g2, 0, none⟩) n m m gs ats cs ∧ Below w.heap.size w w') ∧ Below B W0 w' :=
  lift ((toSchema_any A C n c m d hs ats cs w r hn hb hm).mono fun _ _ ⟨g1, g2, mid, gs, h1, h2, h3⟩ => ⟨⟨g1, g2, gs, h1, h2.sch hn hb hm ok cok, h3⟩, h3⟩) hB hs'

theorem lift2 {P : Program} {F : FuncId} {args : Array Value} {w W0 : World} {B : Nat} {R : Ending → World → Prop} (h : Calls P F args w fun e w' => R e w' ∧ Below w.heap.size w w') (hB : Below B W0 w) (hs : B ≤ W0.heap.size) :
    Calls P F args w fun e w' => R e w' ∧ Below w.heap.size w w' ∧ Below B W0 w' :=
  h.mono fun _ _ ⟨h1, h2⟩ => ⟨h1, h2, hB.trans (h2.mono (Nat.le_trans hs hB.size))⟩

set_option maxHeartbeats 8000000 in
theorem walk (w : World) (A : Option Addr) (n c : Nat) (hs : List AH) (ats : List AD) (C : Option Addr) (m d : Nat) (cs : List ByteArray) (fa ft : Int) (hl : n ≤ c) (hm : c ≤ maxLen) (hr : RdAS w A n hs ats) (hg : ∀ h ∈ hs, AHw h) (hx : ∀ a ∈ ats, ADw a) (hl2 : m ≤ d) (hm2 : d ≤ maxLen) (hr2 : Rd w C m (cs.map Value.string)) (hw2 : ∀ s ∈ cs, s.size ≤ maxLen) (_ : (Lit.int .i64 fa).wf = true) (_ : (Lit.int .i64 ft).wf = true) (htab : Tab w) :
    Calls Tryd.prog 3 #[.agg #[.slice A n c, .slice C m d], .agg #[.int .i64 fa, .int .i64 ft]] w fun e w' => e = .returned (.bool true) ∧ Below w.heap.size w w' := by
  unfold maxLen at hm hm2
  have HRS : Hid (RdSch w A C n m hs ats cs) := ⟨hr, hr2⟩
  have HOk : Hid (∀ a ∈ ats, ADok a) := fun a ha => ⟨by have := (hx a ha).1; unfold maxLen at this; omega, fun s hs => by have := (hx a ha).2.2 s hs; unfold maxLen at this; omega⟩
  have HHs : Hid (∀ h ∈ hs, AHok h) := fun h hh => ⟨by have := (hg h hh).1; unfold maxLen at this; omega, by have := (hg h hh).2; unfold maxLen at this; omega⟩
  have HCs : Hid (∀ s ∈ cs, s.size ≤ 9223372036854775807) := fun s hs => by have := hw2 s hs; unfold maxLen at this; omega
  clear hr hr2 hg hx hw2
  obtain ⟨y, hy⟩ : ∃ y, ftS ats cs fa ft = y := ⟨_, rfl⟩
  have HD := Lib.hid hy
  have HTab := Lib.hid htab
  clear hy htab
  by_cases hn : ((n : Int) + (asTot ats : Int) + ((m : Int) + (bytesOf cs : Int))) ≤ 1048576
  · have HZ := Lib.hid (szI_yes hn)
    have B0 := Below.refl w.heap.size w
    have s0 : w.heap.size ≤ w.heap.size := Nat.le_refl _
    go_enter Tryd.func3, Tryd.ntmps3
    have p_2 : Bx (w.alloc (.cells #[.slice A n c, .slice C m d] 25)) (w.heap.size) 25 #[.slice A n c, .slice C m d] := Bx.new _ _ _
    have B_2 := B0.alloc s0 (.cells #[.slice A n c, .slice C m d] 25)
    clear B0
    have cp_3 := p_2.cells
    have fp_3 := p_2.free
    clear cp_3 fp_3
    have p_4 := p_2.same (same_alloc (.cells #[.int .i64 fa, .int .i64 ft] 27) (by simp only [World.size_alloc]; omega))
    clear p_2
    have q_5 : Bx ((w.alloc (.cells #[.slice A n c, .slice C m d] 25)).alloc (.cells #[.int .i64 fa, .int .i64 ft] 27)) (w.heap.size + 1) 27 #[.int .i64 fa, .int .i64 ft] := by
      have h := Bx.new (w.alloc (.cells #[.slice A n c, .slice C m d] 25)) 27 #[.int .i64 fa, .int .i64 ft]
      simpa only [World.size_alloc] using h
    have B_5 := B_2.alloc (by simp only [World.size_alloc]; omega) (.cells #[.int .i64 fa, .int .i64 ft] 27)
    clear B_2
    have cp_6 := p_4.cells
    have fp_6 := p_4.free
    have cq_7 := q_5.cells
    have fq_7 := q_5.free
    go_wp2_with fail
    refine (szSchema_any A C n c m d hs ats cs 1048576 _ (HRS.out.below B_5 (Nat.le_refl _)).at_ (HRS.out.below B_5 (Nat.le_refl _)).cl HOk.out HHs.out HCs.out (by omega) (by omega) (by omega) (by omega)).mono ?_
    rw [HZ.out]
    rintro e w1 ⟨rfl, b⟩
    clear cp_6 fp_6
    clear cq_7 fq_7
    simp only [World.size_alloc] at b
    have t_8 := b.size
    simp only [World.size_alloc] at t_8
    have z_8 : w.heap.size ≤ w1.heap.size := by omega
    have p_9 := p_4.same (same_below b (by omega))
    clear p_4
    have q_9 := q_5.same (same_below b (by omega))
    clear q_5
    have B_8 := B_5.trans (b.mono (by omega))
    clear B_5 b
    have cp_10 := p_9.cells
    have fp_10 := p_9.free
    have cq_11 := q_9.cells
    have fq_11 := q_9.free
    go_wp2_with fail
    have lp_12 := p_9.lt
    have dp0_12 : Hid (w1.cell? ⟨w.heap.size, 0, none⟩ = some (.slice A n c)) := p_9.cells 0
    have dp1_12 : Hid (w1.cell? ⟨w.heap.size, 1, none⟩ = some (.slice C m d)) := p_9.cells 1
    have lq_12 := q_9.lt
    have dq0_12 : Hid (w1.cell? ⟨w.heap.size + 1, 0, none⟩ = some (.int .i64 fa)) := q_9.cells 0
    have dq1_12 : Hid (w1.cell? ⟨w.heap.size + 1, 1, none⟩ = some (.int .i64 ft)) := q_9.cells 1
    clear cp_10 fp_10
    clear cq_11 fq_11
    have HA_12 := Lib.hid B_8
    go_region_held3 (fun w' => w'.cell? ⟨w.heap.size, 0, none⟩ = some (.slice A n c) ∧ w'.cell? ⟨w.heap.size, 1, none⟩ = some (.slice C m d) ∧ w'.cell? ⟨w.heap.size + 1, 0, none⟩ = some (.int .i64 fa) ∧ w'.cell? ⟨w.heap.size + 1, 1, none⟩ = some (.int .i64 ft) ∧ Below w1.heap.size w1 w')
      (first
        | exact ⟨dp0_12.out, dp1_12.out, dq0_12.out, dq1_12.out, (Below.refl _ _).drew⟩
        | exact ⟨(Below.cell (p := ⟨w.heap.size, 0, none⟩) b9 lp_12).trans dp0_12.out, (Below.cell (p := ⟨w.heap.size, 1, none⟩) b9 lp_12).trans dp1_12.out, (Below.cell (p := ⟨w.heap.size + 1, 0, none⟩) b9 lq_12).trans dq0_12.out, (Below.cell (p := ⟨w.heap.size + 1, 1, none⟩) b9 lq_12).trans dq1_12.out, b9⟩
        | exact ⟨(Below.cell (p := ⟨w.heap.size, 0, none⟩) b8 lp_12).trans dp0_12.out, (Below.cell (p := ⟨w.heap.size, 1, none⟩) b8 lp_12).trans dp1_12.out, (Below.cell (p := ⟨w.heap.size + 1, 0, none⟩) b8 lq_12).trans dq0_12.out, (Below.cell (p := ⟨w.heap.size + 1, 1, none⟩) b8 lq_12).trans dq1_12.out, b8⟩
        | exact ⟨(Below.cell (p := ⟨w.heap.size, 0, none⟩) b7 lp_12).trans dp0_12.out, (Below.cell (p := ⟨w.heap.size, 1, none⟩) b7 lp_12).trans dp1_12.out, (Below.cell (p := ⟨w.heap.size + 1, 0, none⟩) b7 lq_12).trans dq0_12.out, (Below.cell (p := ⟨w.heap.size + 1, 1, none⟩) b7 lq_12).trans dq1_12.out, b7⟩)
      (first
        | (go_at_call 7; go_split_ands; refine (to2 A C n c m d hs ats cs _ w1 w1.heap.size (HRS.out.below (HA_12.out.trans (Below.mono (by assumption) HA_12.out.size)) (Nat.le_refl _)) (by omega) (by omega) (by omega) HOk.out HCs.out (by assumption) (Nat.le_refl _)).mono ?_; rintro e w' ⟨⟨ga8, gb8, gs8, rfl, r8, c8⟩, b8⟩)
        | (go_at_call 8; go_split_ands; refine (lift2 (W0 := w1) (B := w1.heap.size) (toFork_any fa ft _) (by assumption) (Nat.le_refl _)).mono ?_; rintro e w' ⟨rfl, c7, b7⟩; try (replace r8 := r8.below c7 (Nat.le_refl _)))
        | (go_at_call 6; refine (lift (W0 := w1) (B := w1.heap.size) (sForkText_any _ _ _ _ _ _ _ ats cs fa ft _ r8) (by assumption) (Nat.le_refl _)).mono ?_; rw [HD.out]; rintro e w2 ⟨rfl, b9⟩))
    have t_12 := b9.size
    have z_12 : w.heap.size ≤ w2.heap.size := by omega
    have p_13 := p_9.same (same_below b9 (by omega))
    clear p_9
    have q_13 := q_9.same (same_below b9 (by omega))
    clear q_9
    have B_12 := B_8.trans (b9.mono (by omega))
    clear B_8 b9
    have cp_14 := p_13.cells
    have fp_14 := p_13.free
    have cq_15 := q_13.cells
    have fq_15 := q_13.free
    go_wp2_with fail
    refine (toSchema_any A C n c m d hs ats cs _ (HRS.out.below B_12 (Nat.le_refl _)) (by omega) (by omega) (by omega)).mono ?_
    rintro e w3 ⟨g1, g2, midx, gsx, rfl, o, b⟩
    clear cp_14 fp_14
    clear cq_15 fq_15
    have t_16 := b.size
    have z_16 : w.heap.size ≤ w3.heap.size := by omega
    have p_17 := p_13.same (same_below b (by omega))
    clear p_13
    have q_17 := q_13.same (same_below b (by omega))
    clear q_13
    have B_16 := B_12.trans (b.mono (by omega))
    clear B_12 b
    have x_16 := o
    clear o
    have cp_18 := p_17.cells
    have fp_18 := p_17.free
    have cq_19 := q_17.cells
    have fq_19 := q_17.free
    clear cp_18 fp_18
    clear cq_19 fq_19
    have p_20 := p_17.same (same_alloc (.cells #[.slice (some ⟨g1, 0, none⟩) n n, .slice (some ⟨g2, 0, none⟩) m m] 32) (by omega))
    clear p_17
    have q_20 := q_17.same (same_alloc (.cells #[.slice (some ⟨g1, 0, none⟩) n n, .slice (some ⟨g2, 0, none⟩) m m] 32) (by omega))
    clear q_17
    have x_20 := x_16.same (same_alloc (.cells #[.slice (some ⟨g1, 0, none⟩) n n, .slice (some ⟨g2, 0, none⟩) m m] 32) (by omega))
    clear x_16
    have x0_21 : Bx (w3.alloc (.cells #[.slice (some ⟨g1, 0, none⟩) n n, .slice (some ⟨g2, 0, none⟩) m m] 32)) (w3.heap.size) 32 #[.slice (some ⟨g1, 0, none⟩) n n, .slice (some ⟨g2, 0, none⟩) m m] := Bx.new _ _ _
    have B_21 := B_16.alloc z_16 (.cells #[.slice (some ⟨g1, 0, none⟩) n n, .slice (some ⟨g2, 0, none⟩) m m] 32)
    clear B_16
    have cp_22 := p_20.cells
    have fp_22 := p_20.free
    have cq_23 := q_20.cells
    have fq_23 := q_20.free
    have cx0_24 := x0_21.cells
    have fx0_24 := x0_21.free
    go_wp2_with fail
    clear cp_22 fp_22
    clear cq_23 fq_23
    clear cx0_24 fx0_24
    obtain ⟨v25, hv25⟩ : ∃ v25, v25 = (w3.alloc (.cells #[.slice (some ⟨g1, 0, none⟩) n n, .slice (some ⟨g2, 0, none⟩) m m] 32)) := ⟨_, rfl⟩
    have zv25 : w3.heap.size + 1 ≤ v25.heap.size := by rw [hv25]; simp
    rw [← hv25] at p_20 q_20 x_20 x0_21 B_21 ⊢
    clear hv25
    have HX := Lib.hid (x_20.sch (by omega) (by omega) (by omega) HOk.out HCs.out)
    have lp_26 := p_20.lt
    have dp0_26 : Hid (v25.cell? ⟨w.heap.size, 0, none⟩ = some (.slice A n c)) := p_20.cells 0
    have dp1_26 : Hid (v25.cell? ⟨w.heap.size, 1, none⟩ = some (.slice C m d)) := p_20.cells 1
    have lx0_26 := x0_21.lt
    have dx00_26 : Hid (v25.cell? ⟨w3.heap.size, 0, none⟩ = some (.slice (some ⟨g1, 0, none⟩) n n)) := x0_21.cells 0
    have dx01_26 : Hid (v25.cell? ⟨w3.heap.size, 1, none⟩ = some (.slice (some ⟨g2, 0, none⟩) m m)) := x0_21.cells 1
    have lq_26 := q_20.lt
    have dq0_26 : Hid (v25.cell? ⟨w.heap.size + 1, 0, none⟩ = some (.int .i64 fa)) := q_20.cells 0
    have dq1_26 : Hid (v25.cell? ⟨w.heap.size + 1, 1, none⟩ = some (.int .i64 ft)) := q_20.cells 1
    have HA_26 := Lib.hid B_21
    go_region_held3 (fun w' => w'.cell? ⟨w.heap.size, 0, none⟩ = some (.slice A n c) ∧ w'.cell? ⟨w.heap.size, 1, none⟩ = some (.slice C m d) ∧ w'.cell? ⟨w3.heap.size, 0, none⟩ = some (.slice (some ⟨g1, 0, none⟩) n n) ∧ w'.cell? ⟨w3.heap.size, 1, none⟩ = some (.slice (some ⟨g2, 0, none⟩) m m) ∧ w'.cell? ⟨w.heap.size + 1, 0, none⟩ = some (.int .i64 fa) ∧ w'.cell? ⟨w.heap.size + 1, 1, none⟩ = some (.int .i64 ft) ∧ Below v25.heap.size v25 w')
      (first
        | exact ⟨dp0_26.out, dp1_26.out, dx00_26.out, dx01_26.out, dq0_26.out, dq1_26.out, (Below.refl _ _).drew⟩
        | exact ⟨(Below.cell (p := ⟨w.heap.size, 0, none⟩) b9 lp_26).trans dp0_26.out, (Below.cell (p := ⟨w.heap.size, 1, none⟩) b9 lp_26).trans dp1_26.out, (Below.cell (p := ⟨w3.heap.size, 0, none⟩) b9 lx0_26).trans dx00_26.out, (Below.cell (p := ⟨w3.heap.size, 1, none⟩) b9 lx0_26).trans dx01_26.out, (Below.cell (p := ⟨w.heap.size + 1, 0, none⟩) b9 lq_26).trans dq0_26.out, (Below.cell (p := ⟨w.heap.size + 1, 1, none⟩) b9 lq_26).trans dq1_26.out, b9⟩
        | exact ⟨(Below.cell (p := ⟨w.heap.size, 0, none⟩) b7 lp_26).trans dp0_26.out, (Below.cell (p := ⟨w.heap.size, 1, none⟩) b7 lp_26).trans dp1_26.out, (Below.cell (p := ⟨w3.heap.size, 0, none⟩) b7 lx0_26).trans dx00_26.out, (Below.cell (p := ⟨w3.heap.size, 1, none⟩) b7 lx0_26).trans dx01_26.out, (Below.cell (p := ⟨w.heap.size + 1, 0, none⟩) b7 lq_26).trans dq0_26.out, (Below.cell (p := ⟨w.heap.size + 1, 1, none⟩) b7 lq_26).trans dq1_26.out, b7⟩)
      (first
        | (go_at_call 8; go_split_ands; refine (lift2 (W0 := v25) (B := v25.heap.size) (toFork_any fa ft _) (by assumption) (Nat.le_refl _)).mono ?_; rintro e w' ⟨rfl, c7, b7⟩)
        | (go_at_call 9; refine (lift (W0 := v25) (B := v25.heap.size) (iForkText_any _ _ _ _ _ _ _ ats cs fa ft _ (HX.out.below (by assumption) (Nat.le_refl _)) (HTab.out.below (HA_26.out.trans (Below.mono (by assumption) HA_26.out.size)))) (by assumption) (Nat.le_refl _)).mono ?_; rw [HD.out]; rintro e w4 ⟨rfl, b9⟩))
    have t_26 := b9.size
    have z_26 : w.heap.size ≤ w4.heap.size := by omega
    have p_27 := p_20.same (same_below b9 (by omega))
    clear p_20
    have q_27 := q_20.same (same_below b9 (by omega))
    clear q_20
    have x_27 := x_20.same (same_below b9 (by omega))
    clear x_20
    have x0_27 := x0_21.same (same_below b9 (by omega))
    clear x0_21
    have B_26 := B_21.trans (b9.mono (by omega))
    clear B_21 b9
    have cp_28 := p_27.cells
    have fp_28 := p_27.free
    have cq_29 := q_27.cells
    have fq_29 := q_27.free
    have cx0_30 := x0_27.cells
    have fx0_30 := x0_27.free
    go_wp2_with fail
    have lp_31 := p_27.lt
    have dp0_31 : Hid (w4.cell? ⟨w.heap.size, 0, none⟩ = some (.slice A n c)) := p_27.cells 0
    have dp1_31 : Hid (w4.cell? ⟨w.heap.size, 1, none⟩ = some (.slice C m d)) := p_27.cells 1
    have lx0_31 := x0_27.lt
    have dx00_31 : Hid (w4.cell? ⟨w3.heap.size, 0, none⟩ = some (.slice (some ⟨g1, 0, none⟩) n n)) := x0_27.cells 0
    have dx01_31 : Hid (w4.cell? ⟨w3.heap.size, 1, none⟩ = some (.slice (some ⟨g2, 0, none⟩) m m)) := x0_27.cells 1
    clear cp_28 fp_28
    clear cq_29 fq_29
    clear cx0_30 fx0_30
    have HA_31 := Lib.hid B_26
    go_region_held3 (fun w' => w'.cell? ⟨w.heap.size, 0, none⟩ = some (.slice A n c) ∧ w'.cell? ⟨w.heap.size, 1, none⟩ = some (.slice C m d) ∧ w'.cell? ⟨w3.heap.size, 0, none⟩ = some (.slice (some ⟨g1, 0, none⟩) n n) ∧ w'.cell? ⟨w3.heap.size, 1, none⟩ = some (.slice (some ⟨g2, 0, none⟩) m m) ∧ Below w4.heap.size w4 w')
      (first
        | exact ⟨dp0_31.out, dp1_31.out, dx00_31.out, dx01_31.out, (Below.refl _ _).drew⟩
        | exact ⟨(Below.cell (p := ⟨w.heap.size, 0, none⟩) b9 lp_31).trans dp0_31.out, (Below.cell (p := ⟨w.heap.size, 1, none⟩) b9 lp_31).trans dp1_31.out, (Below.cell (p := ⟨w3.heap.size, 0, none⟩) b9 lx0_31).trans dx00_31.out, (Below.cell (p := ⟨w3.heap.size, 1, none⟩) b9 lx0_31).trans dx01_31.out, b9⟩
        | exact ⟨(Below.cell (p := ⟨w.heap.size, 0, none⟩) b8 lp_31).trans dp0_31.out, (Below.cell (p := ⟨w.heap.size, 1, none⟩) b8 lp_31).trans dp1_31.out, (Below.cell (p := ⟨w3.heap.size, 0, none⟩) b8 lx0_31).trans dx00_31.out, (Below.cell (p := ⟨w3.heap.size, 1, none⟩) b8 lx0_31).trans dx01_31.out, b8⟩)
      (first
        | (go_at_call 7; go_split_ands; refine (to2 A C n c m d hs ats cs _ w4 w4.heap.size (HRS.out.below (HA_31.out.trans (Below.mono (by assumption) HA_31.out.size)) (Nat.le_refl _)) (by omega) (by omega) (by omega) HOk.out HCs.out (by assumption) (Nat.le_refl _)).mono ?_; rintro e w' ⟨⟨ga8, gb8, gs8, rfl, r8, c8⟩, b8⟩)
        | (go_at_call 10; refine (lift (W0 := w4) (B := w4.heap.size) (eqSchema_same _ _ _ _ n _ m _ _ _ _ _ ats cs _ (x_27.rd.below (by assumption) (Nat.le_refl _)) r8.rd (by omega) (by omega) (by omega)) (by assumption) (Nat.le_refl _)).mono ?_; rintro e w5 ⟨rfl, b9⟩))
    have t_31 := b9.size
    have z_31 : w.heap.size ≤ w5.heap.size := by omega
    have p_32 := p_27.same (same_below b9 (by omega))
    clear p_27
    have q_32 := q_27.same (same_below b9 (by omega))
    clear q_27
    have x_32 := x_27.same (same_below b9 (by omega))
    clear x_27
    have x0_32 := x0_27.same (same_below b9 (by omega))
    clear x0_27
    have B_31 := B_26.trans (b9.mono (by omega))
    clear B_26 b9
    have cp_33 := p_32.cells
    have fp_33 := p_32.free
    have cq_34 := q_32.cells
    have fq_34 := q_32.free
    have cx0_35 := x0_32.cells
    have fx0_35 := x0_32.free
    go_wp2_with fail
    go_ret
    exact ⟨rfl, B_31⟩
  · have HZ := Lib.hid (szI_no (left := 1048576) (n := ((n : Int) + (asTot ats : Int) + ((m : Int) + (bytesOf cs : Int)))) (by omega))
    have B0 := Below.refl w.heap.size w
    have s0 : w.heap.size ≤ w.heap.size := Nat.le_refl _
    go_enter Tryd.func3, Tryd.ntmps3
    have p_2 : Bx (w.alloc (.cells #[.slice A n c, .slice C m d] 25)) (w.heap.size) 25 #[.slice A n c, .slice C m d] := Bx.new _ _ _
    have B_2 := B0.alloc s0 (.cells #[.slice A n c, .slice C m d] 25)
    clear B0
    have cp_3 := p_2.cells
    have fp_3 := p_2.free
    clear cp_3 fp_3
    have p_4 := p_2.same (same_alloc (.cells #[.int .i64 fa, .int .i64 ft] 27) (by simp only [World.size_alloc]; omega))
    clear p_2
    have q_5 : Bx ((w.alloc (.cells #[.slice A n c, .slice C m d] 25)).alloc (.cells #[.int .i64 fa, .int .i64 ft] 27)) (w.heap.size + 1) 27 #[.int .i64 fa, .int .i64 ft] := by
      have h := Bx.new (w.alloc (.cells #[.slice A n c, .slice C m d] 25)) 27 #[.int .i64 fa, .int .i64 ft]
      simpa only [World.size_alloc] using h
    have B_5 := B_2.alloc (by simp only [World.size_alloc]; omega) (.cells #[.int .i64 fa, .int .i64 ft] 27)
    clear B_2
    have cp_6 := p_4.cells
    have fp_6 := p_4.free
    have cq_7 := q_5.cells
    have fq_7 := q_5.free
    go_wp2_with fail
    refine (szSchema_any A C n c m d hs ats cs 1048576 _ (HRS.out.below B_5 (Nat.le_refl _)).at_ (HRS.out.below B_5 (Nat.le_refl _)).cl HOk.out HHs.out HCs.out (by omega) (by omega) (by omega) (by omega)).mono ?_
    rw [HZ.out]
    rintro e w1 ⟨rfl, b⟩
    clear cp_6 fp_6
    clear cq_7 fq_7
    simp only [World.size_alloc] at b
    have t_8 := b.size
    simp only [World.size_alloc] at t_8
    have z_8 : w.heap.size ≤ w1.heap.size := by omega
    have p_9 := p_4.same (same_below b (by omega))
    clear p_4
    have q_9 := q_5.same (same_below b (by omega))
    clear q_5
    have B_8 := B_5.trans (b.mono (by omega))
    clear B_5 b
    have cp_10 := p_9.cells
    have fp_10 := p_9.free
    have cq_11 := q_9.cells
    have fq_11 := q_9.free
    go_wp2_with fail
    go_ret
    exact ⟨rfl, B_8⟩

set_option maxRecDepth 100000 in
theorem walks : WalksL 3 Tryd.f3 := by
  intro H enc W base args ds ps hval hA _ htab
  rw [Tryd.params3] at hA hval
  obtain ⟨v0, vs0, d0, ds0, p0, q0, hargs, rfl, rfl, h0, r0⟩ := trodAll_cons hA
  obtain ⟨v1, vs1, d1, ds1, p1, q1, rfl, rfl, rfl, h1, r1⟩ := trodAll_cons r0
  obtain ⟨rfl, rfl, rfl⟩ := trodAll_nil r1
  obtain rfl : args = #[v0, v1] := by cases args; simp_all
  obtain ⟨cs0, rfl, hl0, nn0, hf0⟩ := open_agg Tryd.underlying25 (by kernel_rfl) (by kernel_rfl) (hval 0 25 v0 rfl rfl) h0
  obtain ⟨c0_0, _, e0_0, y0_0⟩ := hf0 0 _ rfl
  obtain ⟨c0_1, _, e0_1, y0_1⟩ := hf0 1 _ rfl
  obtain ⟨a0_0, a0_1, rfl⟩ : ∃ a0_0 a0_1, cs0 = [a0_0, a0_1] := by
    match cs0, hl0 with
    | [a0, a1], _ => exact ⟨a0, a1, rfl⟩
  simp only [List.getElem?_cons_zero, List.getElem?_cons_succ, Option.some.injEq] at e0_0 e0_1
  subst e0_0 e0_1
  obtain ⟨A0_0, n0_0, c0_0, g0_0, x0_0, rfl, hl0_0, hm0_0, hr0_0, hg0_0, hx0_0⟩ := open_attrs (ts := 23) (ss := 23) Tryd.underlying22 Tryd.underlying68 (by kernel_rfl) (by kernel_rfl) Tryd.underlying9 Tryd.underlying40 Tryd.underlying3 (by kernel_rfl) Tryd.underlying23 Tryd.underlying9 (by kernel_rfl) y0_0
  obtain ⟨A0_1, n0_1, c0_1, x0_1, rfl, hl0_1, hm0_1, hr0_1, w0_1⟩ := open_strings_rd Tryd.underlying23 (by kernel_rfl) Tryd.underlying9 y0_1
  obtain ⟨cs1, rfl, hl1, nn1, hf1⟩ := open_agg Tryd.underlying27 (by kernel_rfl) (by kernel_rfl) (hval 1 27 v1 rfl rfl) h1
  obtain ⟨c1_0, _, e1_0, y1_0⟩ := hf1 0 _ rfl
  obtain ⟨c1_1, _, e1_1, y1_1⟩ := hf1 1 _ rfl
  obtain ⟨a1_0, a1_1, rfl⟩ : ∃ a1_0 a1_1, cs1 = [a1_0, a1_1] := by
    match cs1, hl1 with
    | [a0, a1], _ => exact ⟨a0, a1, rfl⟩
  simp only [List.getElem?_cons_zero, List.getElem?_cons_succ, Option.some.injEq] at e1_0 e1_1
  subst e1_0 e1_1
  obtain ⟨x1_0, rfl, w1_0⟩ := field_int Tryd.underlying3 y1_0
  obtain ⟨x1_1, rfl, w1_1⟩ := field_int Tryd.underlying3 y1_1
  exact walk (w := W) A0_0 n0_0 c0_0 g0_0 x0_0 A0_1 n0_1 c0_1 x0_1 x1_0 x1_1 hl0_0 hm0_0 hr0_0 hg0_0 hx0_0 hl0_1 hm0_1 hr0_1 w0_1 w1_0 w1_1 htab

set_option maxRecDepth 100000 in
theorem lifted (os : Os) (started : os.Started) (H : Type) (enc : TypeId × Value → H) :
    ReturnsInHanded {} Tryd.checked os 3 .any (fun w args => (Rows.fnExactForkTextSpec.pre enc Tryd.prog Tryd.f3 [] false w args ∧ laidMetH Tryd.prog laidL w) ∧ sizedMet enc Tryd.prog Tryd.f3 (OpenSpec.ofChange Rows.fnExactForkTextSpec) false w args) (Rows.fnExactForkTextSpec.post enc Tryd.prog Tryd.f3 false true false false) :=
  law_liftedL started (by kernel_rfl) Tryd.func3
    (ChangeSpec.witness_shaped (enc := enc) (C := Tryd.checked) (os := os) (X := fun w _ => laidMetH Tryd.prog laidL w) false (World.doorLaid Tryd.prog 24 os) #[.agg #[.slice none 0 0, .slice none 0 0], .agg #[.int .i64 0, .int .i64 0]] 8 rfl (World.shaped_of_RefB (by kernel_rfl) (by kernel_rfl)) (by kernel_rfl) (by kernel_rfl) (by kernel_rfl) (door_met os _))
    rfl rfl Tryd.underlying4 (fun ds h => match ds, h with | [_, _], _ => rfl) (by
      rw [Tryd.params3]
      intro t ht
      simp only [List.mem_cons, List.not_mem_nil, or_false] at ht
      rcases ht with rfl | rfl <;> exact ⟨by kernel_rfl, of_decide_eq_true (by kernel_rfl)⟩) walks

theorem over : Rows.fnExactForkTextRow.holds Tryd.pinned (OpenSpec.ofChange Rows.fnExactForkTextSpec) :=
  OpenClaim.holds_of_wide 3 Tryd.f3 rfl rfl rfl rfl rfl rfl rfl ⟨rfl, rfl, rfl, rfl, rfl⟩ rfl rfl rfl rfl rfl (by kernel_rfl) Tryd.func3 (by kernel_rfl)
    (of_decide_eq_true (by kernel_rfl)) (by unfold Func.isWrapper; first | (rw [if_pos (by decide +kernel)]; kernel_rfl) | (rw [if_neg (by decide +kernel)]; exact ⟨rfl, rfl⟩))
    (fun os started H enc _ => lifted os started H enc)

theorem proved : Rows.FnExactForkTextCardSaid :=
  Claim7.holds_tied_plain_at .later [] [.data, .data, .data] true (true, "2532b35abd3b2030fb8c4bd463dd7841b59a6df0bbc4ddcff90a3440bf776286") false
    over (fun _ h => by cases h) (by kernel_rfl) (fun _ h => by cases h) fnExactForkText_row_tie rfl ⟨rfl, rfl⟩ (by kernel_rfl) rfl
    (fun f fn hf hfn => by
      obtain rfl : f = 3 := Option.some.inj ((show Tryd.prog.funcNamed Rows.fnExactForkTextRow.func = some 3 by kernel_rfl).symm.trans hf) |>.symm
      obtain rfl : fn = Tryd.f3 := (Option.some.inj (Tryd.func3.symm.trans hfn)).symm
      exact ⟨by kernel_rfl, fun j t ht => by
        have hall : (Tryd.f3.params.toList.all fun u => !Tryd.prog.wantsStandIn u) = true := by kernel_rfl
        have hm : t ∈ Tryd.f3.params.toList := by simpa using Array.mem_of_getElem? ht
        exact (show Tryd.prog.wantsStandIn t = false by simpa using List.all_eq_true.1 hall t hm)⟩)
    (by kernel_rfl)
#print axioms proved

end LawForkText
end Go.Proofs.YtchkmcikpamdeaaDoor
