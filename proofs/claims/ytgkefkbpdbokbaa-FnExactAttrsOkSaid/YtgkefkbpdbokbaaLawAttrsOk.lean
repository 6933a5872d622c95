/-
  Proved: laws.FnExactAttrsOk returns true for every schema and list of numbers. Conditions: none.
-/
import Derived.Test.YtgkefkbpdbokbaaAttrsOk
import Derived.Test.YtgkefkbpdbokbaaOpenSch
import Derived.Test.YtgkefkbpdbokbaaObj
namespace Go.Proofs.Ytgkefkbpdbokbaa
open Go.ChangeShapes Go.WideShapes Go.ChangeAt Go.RowKit Go.Deep
namespace LawAttrsOk
set_option linter.unusedSimpArgs false
set_option linter.unusedVariables false

/-- toSchema, read from an earlier world on: what it returns reads as the schema. -/
theorem to2 (A C : Option Addr) (n c m d : Nat) (hs : List AH) (ats : List AD) (cs : List ByteArray) (w W0 : World) (B : Nat) (r : RdSch w A C n m hs ats cs) (hn : n ≤ 1048576) (hb : asTot ats ≤ 1048576) (hm : m ≤ 1048576) (ok : ∀ a ∈ ats, ADok a) (cok : ∀ s ∈ cs, s.size ≤ 9223372036854775807) (hB : Below B W0 w) (hs' : B ≤ W0.heap.size) :
    Calls Try.prog 15 #[.agg #[.slice A n c, .slice C m d]] w fun e w' => (∃ g1 g2 gs, e = .returned (.agg #[.slice (some ⟨g1, 0, none⟩) n n, .slice (some ⟨g2, 0, none⟩) m m]) ∧ Sch w' (some ⟨g1, 0, none⟩) (some ⟨g2, 0, none⟩) n m m gs ats cs ∧ Below w.heap.size w w') ∧ Below B W0 w' :=
  lift ((toSchema_any A C n c m d hs ats cs w r hn hb hm).mono fun _ _ ⟨g1, g2, mid, gs, h1, h2, h3⟩ => ⟨⟨g1, g2, gs, h1, h2.sch hn hb hm ok cok, h3⟩, h3⟩) hB hs'

set_option maxHeartbeats 8000000 in
theorem walk (w : World) (A : Option Addr) (n c : Nat) (hs : List AH) (ats : List AD) (C : Option Addr) (m d : Nat) (cs : List ByteArray) (X : Option Addr) (q e0 : Nat) (xs : List Int) (hl : n ≤ c) (hm : c ≤ maxLen) (hr : RdAS w A n hs ats) (hg : ∀ h ∈ hs, AHw h) (hx : ∀ a ∈ ats, ADw a) (hl2 : m ≤ d) (hm2 : d ≤ maxLen) (hr2 : Rd w C m (cs.map Value.string)) (hw2 : ∀ s ∈ cs, s.size ≤ maxLen) (hl3 : q ≤ e0) (hm3 : e0 ≤ maxLen) (hr3 : Rd w X q (xs.map (Value.int .i64))) (hw3 : ∀ z ∈ xs, (Lit.int .i64 z).wf = true) :
    Calls Try.prog 3 #[.agg #[.slice A n c, .slice C m d], .slice X q e0] w fun e w' => e = .returned (.bool true) ∧ Below w.heap.size w w' := by
  unfold maxLen at hm hm2
  have HRS : Hid (RdSch w A C n m hs ats cs) := ⟨hr, hr2⟩
  have HOk : Hid (∀ a ∈ ats, ADok a) := fun a ha => ⟨by have := (hx a ha).1; unfold maxLen at this; omega, fun s hs => by have := (hx a ha).2.2 s hs; unfold maxLen at this; omega⟩
  have HHs : Hid (∀ h ∈ hs, AHok h) := fun h hh => ⟨by have := (hg h hh).1; unfold maxLen at this; omega, by have := (hg h hh).2; unfold maxLen at this; omega⟩
  have HCs : Hid (∀ s ∈ cs, s.size ≤ 9223372036854775807) := fun s hs => by have := hw2 s hs; unfold maxLen at this; omega
  clear hr hr2 hg hx hw2
  have HX3 := Lib.hid hr3
  clear hr3
  unfold maxLen at hm3
  obtain ⟨y, hy⟩ : ∃ y, attrsB ats cs xs = y := ⟨_, rfl⟩
  have HD := Lib.hid hy
  clear hy
  by_cases hq : q ≤ 1048576
  · skip
    by_cases hn : ((n : Int) + (asTot ats : Int) + ((m : Int) + (bytesOf cs : Int))) ≤ 1048576
    · have HZ := Lib.hid (szI_yes hn)
      have B0 := Below.refl w.heap.size w
      have s0 : w.heap.size ≤ w.heap.size := Nat.le_refl _
      go_enter Try.func3, Try.ntmps3
      have p_2 : Bx (w.alloc (.cells #[.slice A n c, .slice C m d] 25)) (w.heap.size) 25 #[.slice A n c, .slice C m d] := Bx.new _ _ _
      have B_2 := B0.alloc s0 (.cells #[.slice A n c, .slice C m d] 25)
      clear B0
      have cp_3 := p_2.cells
      have fp_3 := p_2.free
      go_wp2_with fail
      refine (szSchema_any A C n c m d hs ats cs 1048576 _ (HRS.out.below B_2 (Nat.le_refl _)).at_ (HRS.out.below B_2 (Nat.le_refl _)).cl HOk.out HHs.out HCs.out (by omega) (by omega) (by omega) (by omega)).mono ?_
      rw [HZ.out]
      rintro e w1 ⟨rfl, b⟩
      clear cp_3 fp_3
      simp only [World.size_alloc] at b
      have t_4 := b.size
      simp only [World.size_alloc] at t_4
      have z_4 : w.heap.size ≤ w1.heap.size := by omega
      have p_5 := p_2.same (same_below b (by omega))
      clear p_2
      have B_4 := B_2.trans (b.mono (by omega))
      clear B_2 b
      have cp_6 := p_5.cells
      have fp_6 := p_5.free
      go_wp2_with fail
      refine (toSchema_any A C n c m d hs ats cs _ (HRS.out.below B_4 (Nat.le_refl _)) (by omega) (by omega) (by omega)).mono ?_
      rintro e w2 ⟨g1, g2, midd, gsd, rfl, o, b⟩
      clear cp_6 fp_6
      have t_7 := b.size
      have z_7 : w.heap.size ≤ w2.heap.size := by omega
      have p_8 := p_5.same (same_below b (by omega))
      clear p_5
      have B_7 := B_4.trans (b.mono (by omega))
      clear B_4 b
      have d_7 := o
      clear o
      have cp_9 := p_8.cells
      have fp_9 := p_8.free
      go_wp2_with fail
      refine (toIntS_own X q e0 xs _ _ _ (HX3.out.below B_7 (Nat.le_refl _)) (by omega) (Below.refl _ _) (Nat.le_refl _)).mono ?_
      rintro e w3 ⟨g3, rfl, o, b⟩
      clear cp_9 fp_9
      have t_10 := b.size
      have z_10 : w.heap.size ≤ w3.heap.size := by omega
      have p_11 := p_8.same (same_below b (by omega))
      clear p_8
      have d_11 := d_7.same (same_below b (by omega))
      clear d_7
      have B_10 := B_7.trans (b.mono (by omega))
      clear B_7 b
      have y_10 := Ow.of o
      clear o
      have cp_12 := p_11.cells
      have fp_12 := p_11.free
      go_wp2_with fail
      refine (sAttrsOk_any _ _ _ _ _ _ _ ats cs _ q _ xs _ (d_11.sch (by omega) (by omega) (by omega) HOk.out HCs.out) y_10.rd hq).mono ?_
      rw [HD.out]
      rintro e w4 ⟨rfl, b⟩
      clear cp_12 fp_12
      have t_13 := b.size
      have z_13 : w.heap.size ≤ w4.heap.size := by omega
      have p_14 := p_11.same (same_below b (by omega))
      clear p_11
      have d_14 := d_11.same (same_below b (by omega))
      clear d_11
      have y_14 := y_10.same (same_below b (by omega))
      clear y_10
      have B_13 := B_10.trans (b.mono (by omega))
      clear B_10 b
      have cp_15 := p_14.cells
      have fp_15 := p_14.free
      clear d_14
      clear y_14
      go_wp2_with fail
      refine (toSchema_any A C n c m d hs ats cs _ (HRS.out.below B_13 (Nat.le_refl _)) (by omega) (by omega) (by omega)).mono ?_
      rintro e w5 ⟨g4, g5, midx, gsx, rfl, o, b⟩
      clear cp_15 fp_15
      have t_16 := b.size
      have z_16 : w.heap.size ≤ w5.heap.size := by omega
      have p_17 := p_14.same (same_below b (by omega))
      clear p_14
      have B_16 := B_13.trans (b.mono (by omega))
      clear B_13 b
      have x_16 := o
      clear o
      have cp_18 := p_17.cells
      have fp_18 := p_17.free
      clear cp_18 fp_18
      have p_19 := p_17.same (same_alloc (.cells #[.slice (some ⟨g4, 0, none⟩) n n, .slice (some ⟨g5, 0, none⟩) m m] 31) (by omega))
      clear p_17
      have x_19 := x_16.same (same_alloc (.cells #[.slice (some ⟨g4, 0, none⟩) n n, .slice (some ⟨g5, 0, none⟩) m m] 31) (by omega))
      clear x_16
      have x0_20 : Bx (w5.alloc (.cells #[.slice (some ⟨g4, 0, none⟩) n n, .slice (some ⟨g5, 0, none⟩) m m] 31)) (w5.heap.size) 31 #[.slice (some ⟨g4, 0, none⟩) n n, .slice (some ⟨g5, 0, none⟩) m m] := Bx.new _ _ _
      have B_20 := B_16.alloc z_16 (.cells #[.slice (some ⟨g4, 0, none⟩) n n, .slice (some ⟨g5, 0, none⟩) m m] 31)
      clear B_16
      have cp_21 := p_19.cells
      have fp_21 := p_19.free
      have cx0_22 := x0_20.cells
      have fx0_22 := x0_20.free
      go_wp2_with fail
      refine (toIntS_own X q e0 xs _ _ _ (HX3.out.below B_20 (Nat.le_refl _)) (by omega) (Below.refl _ _) (Nat.le_refl _)).mono ?_
      rintro e w6 ⟨g6, rfl, o, b⟩
      clear cp_21 fp_21
      clear cx0_22 fx0_22
      simp only [World.size_alloc] at b o
      have t_23 := b.size
      simp only [World.size_alloc] at t_23
      have z_23 : w.heap.size ≤ w6.heap.size := by omega
      have p_24 := p_19.same (same_below b (by omega))
      clear p_19
      have x_24 := x_19.same (same_below b (by omega))
      clear x_19
      have x0_24 := x0_20.same (same_below b (by omega))
      clear x0_20
      have B_23 := B_20.trans (b.mono (by omega))
      clear B_20 b
      have y_23 := Ow.of o
      clear o
      have cp_25 := p_24.cells
      have fp_25 := p_24.free
      have cx0_26 := x0_24.cells
      have fx0_26 := x0_24.free
      go_wp2_with fail
      refine (iAttrsOk_any _ _ _ _ _ _ _ ats cs _ q _ xs _ (x_24.sch (by omega) (by omega) (by omega) HOk.out HCs.out) y_23.rd hq).mono ?_
      rw [HD.out]
      rintro e w7 ⟨rfl, b⟩
      clear cp_25 fp_25
      clear cx0_26 fx0_26
      have t_27 := b.size
      have z_27 : w.heap.size ≤ w7.heap.size := by omega
      have p_28 := p_24.same (same_below b (by omega))
      clear p_24
      have x_28 := x_24.same (same_below b (by omega))
      clear x_24
      have x0_28 := x0_24.same (same_below b (by omega))
      clear x0_24
      have y_28 := y_23.same (same_below b (by omega))
      clear y_23
      have B_27 := B_23.trans (b.mono (by omega))
      clear B_23 b
      have cp_29 := p_28.cells
      have fp_29 := p_28.free
      have cx0_30 := x0_28.cells
      have fx0_30 := x0_28.free
      go_wp2_with fail
      have lp_31 := p_28.lt
      have dp0_31 : Hid (w7.cell? ⟨w.heap.size, 0, none⟩ = some (.slice A n c)) := p_28.cells 0
      have dp1_31 : Hid (w7.cell? ⟨w.heap.size, 1, none⟩ = some (.slice C m d)) := p_28.cells 1
      have lx0_31 := x0_28.lt
      have dx00_31 : Hid (w7.cell? ⟨w5.heap.size, 0, none⟩ = some (.slice (some ⟨g4, 0, none⟩) n n)) := x0_28.cells 0
      have dx01_31 : Hid (w7.cell? ⟨w5.heap.size, 1, none⟩ = some (.slice (some ⟨g5, 0, none⟩) m m)) := x0_28.cells 1
      clear cp_29 fp_29
      clear cx0_30 fx0_30
      have HA_31 := Lib.hid B_27
      go_region_held3 (fun w' => w'.cell? ⟨w.heap.size, 0, none⟩ = some (.slice A n c) ∧ w'.cell? ⟨w.heap.size, 1, none⟩ = some (.slice C m d) ∧ w'.cell? ⟨w5.heap.size, 0, none⟩ = some (.slice (some ⟨g4, 0, none⟩) n n) ∧ w'.cell? ⟨w5.heap.size, 1, none⟩ = some (.slice (some ⟨g5, 0, none⟩) m m) ∧ Below w7.heap.size w7 w')
        (first
          | exact ⟨dp0_31.out, dp1_31.out, dx00_31.out, dx01_31.out, (Below.refl _ _).drew⟩
          | exact ⟨(Below.cell (p := ⟨w.heap.size, 0, none⟩) b9 lp_31).trans dp0_31.out, (Below.cell (p := ⟨w.heap.size, 1, none⟩) b9 lp_31).trans dp1_31.out, (Below.cell (p := ⟨w5.heap.size, 0, none⟩) b9 lx0_31).trans dx00_31.out, (Below.cell (p := ⟨w5.heap.size, 1, none⟩) b9 lx0_31).trans dx01_31.out, b9⟩
          | exact ⟨(Below.cell (p := ⟨w.heap.size, 0, none⟩) b8 lp_31).trans dp0_31.out, (Below.cell (p := ⟨w.heap.size, 1, none⟩) b8 lp_31).trans dp1_31.out, (Below.cell (p := ⟨w5.heap.size, 0, none⟩) b8 lx0_31).trans dx00_31.out, (Below.cell (p := ⟨w5.heap.size, 1, none⟩) b8 lx0_31).trans dx01_31.out, b8⟩)
        (first
          | (go_at_call 15; go_split_ands; refine (to2 A C n c m d hs ats cs _ w7 w7.heap.size (HRS.out.below (HA_31.out.trans (Below.mono (by assumption) HA_31.out.size)) (Nat.le_refl _)) (by omega) (by omega) (by omega) HOk.out HCs.out (by assumption) (Nat.le_refl _)).mono ?_; rintro e w' ⟨⟨ga8, gb8, gs8, rfl, r8, c8⟩, b8⟩)
          | (go_at_call 18; refine (lift (W0 := w7) (B := w7.heap.size) (eqSchema_same _ _ _ _ n _ m _ _ _ _ _ ats cs _ (x_28.rd.below (by assumption) (Nat.le_refl _)) r8.rd (by omega) (by omega) (by omega)) (by assumption) (Nat.le_refl _)).mono ?_; rintro e w8 ⟨rfl, b9⟩))
      have t_31 := b9.size
      have z_31 : w.heap.size ≤ w8.heap.size := by omega
      have p_32 := p_28.same (same_below b9 (by omega))
      clear p_28
      have x_32 := x_28.same (same_below b9 (by omega))
      clear x_28
      have x0_32 := x0_28.same (same_below b9 (by omega))
      clear x0_28
      have y_32 := y_28.same (same_below b9 (by omega))
      clear y_28
      have B_31 := B_27.trans (b9.mono (by omega))
      clear B_27 b9
      have cp_33 := p_32.cells
      have fp_33 := p_32.free
      have cx0_34 := x0_32.cells
      have fx0_34 := x0_32.free
      go_wp2_with fail
      refine (toIntS_own X q e0 xs _ _ _ (HX3.out.below B_31 (Nat.le_refl _)) (by omega) (Below.refl _ _) (Nat.le_refl _)).mono ?_
      rintro e w9 ⟨g7, rfl, o, b⟩
      clear cp_33 fp_33
      clear cx0_34 fx0_34
      have t_35 := b.size
      have z_35 : w.heap.size ≤ w9.heap.size := by omega
      have p_36 := p_32.same (same_below b (by omega))
      clear p_32
      have x_36 := x_32.same (same_below b (by omega))
      clear x_32
      have x0_36 := x0_32.same (same_below b (by omega))
      clear x0_32
      have y_36 := y_32.same (same_below b (by omega))
      clear y_32
      have B_35 := B_31.trans (b.mono (by omega))
      clear B_31 b
      have z_35 := Ow.of o
      clear o
      have cp_37 := p_36.cells
      have fp_37 := p_36.free
      have cx0_38 := x0_36.cells
      have fx0_38 := x0_36.free
      go_wp2_with fail
      refine (eqIntS_same _ _ q _ _ xs _ y_36.rd z_35.rd (by omega)).mono ?_
      rintro e w10 ⟨rfl, b⟩
      clear cp_37 fp_37
      clear cx0_38 fx0_38
      have t_39 := b.size
      have z_39 : w.heap.size ≤ w10.heap.size := by omega
      have p_40 := p_36.same (same_below b (by omega))
      clear p_36
      have x_40 := x_36.same (same_below b (by omega))
      clear x_36
      have x0_40 := x0_36.same (same_below b (by omega))
      clear x0_36
      have y_40 := y_36.same (same_below b (by omega))
      clear y_36
      have z_40 := z_35.same (same_below b (by omega))
      clear z_35
      have B_39 := B_35.trans (b.mono (by omega))
      clear B_35 b
      have cp_41 := p_40.cells
      have fp_41 := p_40.free
      have cx0_42 := x0_40.cells
      have fx0_42 := x0_40.free
      go_wp2_with fail
      go_ret
      exact ⟨rfl, B_39⟩
    · have HZ := Lib.hid (szI_no (left := 1048576) (n := ((n : Int) + (asTot ats : Int) + ((m : Int) + (bytesOf cs : Int)))) (by omega))
      have B0 := Below.refl w.heap.size w
      have s0 : w.heap.size ≤ w.heap.size := Nat.le_refl _
      go_enter Try.func3, Try.ntmps3
      have p_2 : Bx (w.alloc (.cells #[.slice A n c, .slice C m d] 25)) (w.heap.size) 25 #[.slice A n c, .slice C m d] := Bx.new _ _ _
      have B_2 := B0.alloc s0 (.cells #[.slice A n c, .slice C m d] 25)
      clear B0
      have cp_3 := p_2.cells
      have fp_3 := p_2.free
      go_wp2_with fail
      refine (szSchema_any A C n c m d hs ats cs 1048576 _ (HRS.out.below B_2 (Nat.le_refl _)).at_ (HRS.out.below B_2 (Nat.le_refl _)).cl HOk.out HHs.out HCs.out (by omega) (by omega) (by omega) (by omega)).mono ?_
      rw [HZ.out]
      rintro e w1 ⟨rfl, b⟩
      clear cp_3 fp_3
      simp only [World.size_alloc] at b
      have t_4 := b.size
      simp only [World.size_alloc] at t_4
      have z_4 : w.heap.size ≤ w1.heap.size := by omega
      have p_5 := p_2.same (same_below b (by omega))
      clear p_2
      have B_4 := B_2.trans (b.mono (by omega))
      clear B_2 b
      have cp_6 := p_5.cells
      have fp_6 := p_5.free
      go_wp2_with fail
      go_ret
      exact ⟨rfl, B_4⟩
  · have hq' : (1048576 : Int) < (q : Int) := by omega
    have HB0 := Lib.hid (below_alloc1 (w := w) (.cells #[.slice A n c, .slice C m d] 25))
    go_enter Try.func3, Try.ntmps3
    go_wp2_with fail
    go_ret
    exact ⟨rfl, HB0.out⟩

set_option maxRecDepth 100000 in
theorem walks : Walks 3 Try.f3 := by
  intro H enc W base args ds ps hval hA _
  rw [Try.params3] at hA hval
  obtain ⟨v0, vs0, d0, ds0, p0, q0, hargs, rfl, rfl, h0, r0⟩ := trodAll_cons hA
  obtain ⟨v1, vs1, d1, ds1, p1, q1, rfl, rfl, rfl, h1, r1⟩ := trodAll_cons r0
  obtain ⟨rfl, rfl, rfl⟩ := trodAll_nil r1
  obtain rfl : args = #[v0, v1] := by cases args; simp_all
  obtain ⟨cs0, rfl, hl0, nn0, hf0⟩ := open_agg Try.underlying25 (by kernel_rfl) (by kernel_rfl) (hval 0 25 v0 rfl rfl) h0
  obtain ⟨c0_0, _, e0_0, y0_0⟩ := hf0 0 _ rfl
  obtain ⟨c0_1, _, e0_1, y0_1⟩ := hf0 1 _ rfl
  obtain ⟨a0_0, a0_1, rfl⟩ : ∃ a0_0 a0_1, cs0 = [a0_0, a0_1] := by
    match cs0, hl0 with
    | [a0, a1], _ => exact ⟨a0, a1, rfl⟩
  simp only [List.getElem?_cons_zero, List.getElem?_cons_succ, Option.some.injEq] at e0_0 e0_1
  subst e0_0 e0_1
  obtain ⟨A0_0, n0_0, c0_0, g0_0, x0_0, rfl, hl0_0, hm0_0, hr0_0, hg0_0, hx0_0⟩ := open_attrs (ts := 23) (ss := 23) Try.underlying22 Try.underlying105 (by kernel_rfl) (by kernel_rfl) Try.underlying9 Try.underlying26 Try.underlying3 (by kernel_rfl) Try.underlying23 Try.underlying9 (by kernel_rfl) y0_0
  obtain ⟨A0_1, n0_1, c0_1, x0_1, rfl, hl0_1, hm0_1, hr0_1, w0_1⟩ := open_strings_rd Try.underlying23 (by kernel_rfl) Try.underlying9 y0_1
  obtain ⟨f1, y1, z1⟩ := slice_cell Try.underlying26 (hval 1 26 v1 rfl rfl) h1
  obtain ⟨A1, n1, c1, a1, rfl, hl1, hm1, hr1, w1⟩ := open_ints_rd Try.underlying26 (by kernel_rfl) Try.underlying3 z1
  exact walk (w := W) A0_0 n0_0 c0_0 g0_0 x0_0 A0_1 n0_1 c0_1 x0_1 A1 n1 c1 a1 hl0_0 hm0_0 hr0_0 hg0_0 hx0_0 hl0_1 hm0_1 hr0_1 w0_1 hl1 hm1 hr1 w1

set_option maxRecDepth 100000 in
theorem lifted (os : Os) (started : os.Started) (H : Type) (enc : TypeId × Value → H) :
    ReturnsInHanded {} Try.checked os 3 .any (Rows.fnExactAttrsOkSpec.pre6 enc Try.prog Try.f3 Rows.fnExactAttrsOkRow.domain false) (Rows.fnExactAttrsOkSpec.post enc Try.prog Try.f3 false true false false) :=
  law_lifted started (by kernel_rfl) Try.func3
    (ChangeSpec.witness6 (enc := enc) (C := Try.checked) false ⟨#[], #[.agg #[.slice none 0 0, .slice none 0 0], .slice none 0 0], []⟩ 8 (by kernel_rfl) (by kernel_rfl) (by kernel_rfl) (by kernel_rfl))
    rfl rfl Try.underlying4 (fun ds h => match ds, h with | [_, _], _ => rfl) (by
      rw [Try.params3]
      intro t ht
      simp only [List.mem_cons, List.not_mem_nil, or_false] at ht
      rcases ht with rfl | rfl <;> exact ⟨by kernel_rfl, of_decide_eq_true (by kernel_rfl)⟩) walks

theorem over : Rows.fnExactAttrsOkRow.holds Try.pinned (OpenSpec.ofChange Rows.fnExactAttrsOkSpec) :=
  OpenClaim.holds_of_wide 3 Try.f3 rfl rfl rfl rfl rfl rfl rfl ⟨rfl, rfl, rfl, rfl, rfl⟩ rfl rfl rfl rfl rfl (by kernel_rfl) Try.func3 (by kernel_rfl)
    (of_decide_eq_true (by kernel_rfl)) (by unfold Func.isWrapper; first | (rw [if_pos (by decide +kernel)]; kernel_rfl) | (rw [if_neg (by decide +kernel)]; exact ⟨rfl, rfl⟩))
    (fun os started H enc _ => lifted os started H enc)

theorem proved : Rows.FnExactAttrsOkSaid := over
#print axioms proved

end LawAttrsOk
end Go.Proofs.Ytgkefkbpdbokbaa
