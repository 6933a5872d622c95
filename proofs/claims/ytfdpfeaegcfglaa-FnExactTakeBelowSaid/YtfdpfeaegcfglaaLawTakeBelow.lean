/-
  Proved: laws.FnExactTakeBelow returns true for every tape and number. Conditions: none.
-/
import Derived.Test.YtfdpfeaegcfglaaTakeBelow
import Derived.Test.YtfdpfeaegcfglaaObj
import Derived.Test.YtfdpfeaegcfglaaOpen
namespace Go.Proofs.Ytfdpfeaegcfglaa
open Go.ChangeShapes Go.WideShapes Go.ChangeAt Go.RowKit Go.Deep
namespace LawTakeBelow
set_option linter.unusedSimpArgs false
set_option linter.unusedVariables false
/-- toTape, read from an earlier world on. -/
theorem to (A : Option Addr) (n c : Nat) (xs : List Int) (i : Int) (w W0 : World) (B : Nat) (h : Rd w A n (xs.map (Value.int .u8))) (hn : n ≤ 1073741824) (hB : Below B W0 w) (hs : B ≤ W0.heap.size) :
    Calls Try.prog 42 #[.agg #[.slice A n c, .int .i64 i]] w fun e w' => (∃ g, e = .returned (.agg #[.slice (some ⟨g, 0, none⟩) n n, .int .i64 i]) ∧ w'.ownsRow w.heap.size 5 1 (.slice (some ⟨g, 0, none⟩) n n) n (xs.map (Value.int .u8))) ∧ Below B W0 w' :=
  lift ((toTape_any A n c xs i w h hn).mono fun _ _ ⟨g, h1, h2, h3⟩ => ⟨⟨g, h1, h2⟩, h3⟩) hB hs

set_option maxHeartbeats 4000000 in
theorem walk (w : World) (A : Option Addr) (n c : Nat) (xs : List Int) (i : Int) (nn : Int) (hl : n ≤ c) (hm : c ≤ maxLen) (hr : Rd w A n (xs.map (Value.int .u8))) (hu : ∀ z ∈ xs, (Lit.int .u8 z).wf = true) (hi : (Lit.int .i64 i).wf = true) (_ : (Lit.int .i64 nn).wf = true) :
    Calls Try.prog 11 #[.agg #[.slice A n c, .int .i64 i], .int .i64 nn] w fun e w' => e = .returned (.bool true) ∧ Below w.heap.size w w' := by
  unfold maxLen at hm
  have HR := Lib.hid hr
  have HU : Hid (∀ z ∈ xs, 0 ≤ z ∧ z ≤ 255) := fun z hz => u8_wf (hu z hz)
  clear hr hu hi
  by_cases hn : n ≤ 1048576
  · have HZ := Lib.hid (show szI 1048576 n = 1048576 - n by unfold szI; rw [if_neg (by omega)])
    have B0 := Below.refl w.heap.size w
    have s0 : w.heap.size ≤ w.heap.size := Nat.le_refl _
    go_enter Try.func11, Try.ntmps11
    have a_2 : Bx (w.alloc (.cells #[.slice A n c, .int .i64 i] 47)) (w.heap.size) 47 #[.slice A n c, .int .i64 i] := Bx.new _ _ _
    have B_2 := B0.alloc s0 (.cells #[.slice A n c, .int .i64 i] 47)
    clear B0
    have ca_3 := a_2.cells
    have fa_3 := a_2.free
    go_wp2_with fail
    refine (szTape_any A n c i 1048576 (by omega) (by omega) (by omega) _).mono ?_
    rw [HZ.out]
    rintro e w1 ⟨rfl, b⟩
    clear ca_3 fa_3
    simp only [World.size_alloc] at b
    have t_4 := b.size
    simp only [World.size_alloc] at t_4
    have z_4 : w.heap.size ≤ w1.heap.size := by omega
    have a_5 := a_2.same (same_below b (by omega))
    clear a_2
    have B_4 := B_2.trans (b.mono (by omega))
    clear B_2 b
    have ca_6 := a_5.cells
    have fa_6 := a_5.free
    go_wp2_with fail
    refine (toTape_any A n c xs i _ (HR.out.below B_4 (Nat.le_refl _)) (by omega)).mono ?_
    rintro e w2 ⟨g1, rfl, o, b⟩
    clear ca_6 fa_6
    have t_7 := b.size
    have z_7 : w.heap.size ≤ w2.heap.size := by omega
    have a_8 := a_5.same (same_below b (by omega))
    clear a_5
    have B_7 := B_4.trans (b.mono (by omega))
    clear B_4 b
    have d_7 := Ow.of o
    clear o
    have ca_9 := a_8.cells
    have fa_9 := a_8.free
    go_wp2_with fail
    refine (sTakeBelow_any _ n _ _ xs i nn _ d_7.own (by omega) HU.out).mono ?_
    rintro e w3 ⟨A1, c1, rfl, o, b⟩
    clear ca_9 fa_9
    have t_10 := b.size
    have z_10 : w.heap.size ≤ w3.heap.size := by omega
    have a_11 := a_8.same (same_below b (by omega))
    clear a_8
    have d_11 := d_7.same (same_below b (by omega))
    clear d_7
    have B_10 := B_7.trans (b.mono (by omega))
    clear B_7 b
    have wr_10 := Ow.of o
    clear o
    have ca_12 := a_11.cells
    have fa_12 := a_11.free
    clear d_11
    clear ca_12 fa_12
    have a_13 := a_11.same (same_alloc (.cells #[.slice A1 n c1, .int .i64 (tbAt n i nn)] 49) (by omega))
    clear a_11
    have wr_13 := wr_10.same (same_alloc (.cells #[.slice A1 n c1, .int .i64 (tbAt n i nn)] 49) (by omega))
    clear wr_10
    have w0_14 : Bx (w3.alloc (.cells #[.slice A1 n c1, .int .i64 (tbAt n i nn)] 49)) (w3.heap.size) 49 #[.slice A1 n c1, .int .i64 (tbAt n i nn)] := Bx.new _ _ _
    have B_14 := B_10.alloc z_10 (.cells #[.slice A1 n c1, .int .i64 (tbAt n i nn)] 49)
    clear B_10
    have ca_15 := a_13.cells
    have fa_15 := a_13.free
    have cw0_16 := w0_14.cells
    have fw0_16 := w0_14.free
    go_wp2_with fail
    refine (toTape_any A n c xs i _ (HR.out.below B_14 (Nat.le_refl _)) (by omega)).mono ?_
    rintro e w4 ⟨g2, rfl, o, b⟩
    clear ca_15 fa_15
    clear cw0_16 fw0_16
    simp only [World.size_alloc] at b o
    have t_17 := b.size
    simp only [World.size_alloc] at t_17
    have z_17 : w.heap.size ≤ w4.heap.size := by omega
    have a_18 := a_13.same (same_below b (by omega))
    clear a_13
    have wr_18 := wr_13.same (same_below b (by omega))
    clear wr_13
    have w0_18 := w0_14.same (same_below b (by omega))
    clear w0_14
    have B_17 := B_14.trans (b.mono (by omega))
    clear B_14 b
    have x_17 := Ow.of o
    clear o
    have ca_19 := a_18.cells
    have fa_19 := a_18.free
    have cw0_20 := w0_18.cells
    have fw0_20 := w0_18.free
    clear ca_19 fa_19
    clear cw0_20 fw0_20
    have a_21 := a_18.same (same_alloc (.cells #[.slice (some ⟨g2, 0, none⟩) n n, .int .i64 i] 49) (by omega))
    clear a_18
    have wr_21 := wr_18.same (same_alloc (.cells #[.slice (some ⟨g2, 0, none⟩) n n, .int .i64 i] 49) (by omega))
    clear wr_18
    have w0_21 := w0_18.same (same_alloc (.cells #[.slice (some ⟨g2, 0, none⟩) n n, .int .i64 i] 49) (by omega))
    clear w0_18
    have x_21 := x_17.same (same_alloc (.cells #[.slice (some ⟨g2, 0, none⟩) n n, .int .i64 i] 49) (by omega))
    clear x_17
    have x0_22 : Bx (w4.alloc (.cells #[.slice (some ⟨g2, 0, none⟩) n n, .int .i64 i] 49)) (w4.heap.size) 49 #[.slice (some ⟨g2, 0, none⟩) n n, .int .i64 i] := Bx.new _ _ _
    have B_22 := B_17.alloc z_17 (.cells #[.slice (some ⟨g2, 0, none⟩) n n, .int .i64 i] 49)
    clear B_17
    have ca_23 := a_21.cells
    have fa_23 := a_21.free
    have cw0_24 := w0_21.cells
    have fw0_24 := w0_21.free
    have cx0_25 := x0_22.cells
    have fx0_25 := x0_22.free
    go_wp2_with fail
    refine (iTakeBelow_any _ n _ _ xs i nn _ x_21.own (by omega) HU.out).mono ?_
    rintro e w5 ⟨A2, c2, rfl, o, b⟩
    clear ca_23 fa_23
    clear cw0_24 fw0_24
    clear cx0_25 fx0_25
    simp only [World.size_alloc] at b o
    have t_26 := b.size
    simp only [World.size_alloc] at t_26
    have z_26 : w.heap.size ≤ w5.heap.size := by omega
    have a_27 := a_21.same (same_below b (by omega))
    clear a_21
    have wr_27 := wr_21.same (same_below b (by omega))
    clear wr_21
    have w0_27 := w0_21.same (same_below b (by omega))
    clear w0_21
    have x_27 := x_21.same (same_below b (by omega))
    clear x_21
    have x0_27 := x0_22.same (same_below b (by omega))
    clear x0_22
    have B_26 := B_22.trans (b.mono (by omega))
    clear B_22 b
    have gr_26 := Ow.of o
    clear o
    have ca_28 := a_27.cells
    have fa_28 := a_27.free
    have cw0_29 := w0_27.cells
    have fw0_29 := w0_27.free
    have cx0_30 := x0_27.cells
    have fx0_30 := x0_27.free
    clear ca_28 fa_28
    clear cw0_29 fw0_29
    clear cx0_30 fx0_30
    have a_31 := a_27.same (same_alloc (.cells #[.slice A2 n c2, .int .i64 (tbAt n i nn)] 49) (by omega))
    clear a_27
    have wr_31 := wr_27.same (same_alloc (.cells #[.slice A2 n c2, .int .i64 (tbAt n i nn)] 49) (by omega))
    clear wr_27
    have w0_31 := w0_27.same (same_alloc (.cells #[.slice A2 n c2, .int .i64 (tbAt n i nn)] 49) (by omega))
    clear w0_27
    have x_31 := x_27.same (same_alloc (.cells #[.slice A2 n c2, .int .i64 (tbAt n i nn)] 49) (by omega))
    clear x_27
    have x0_31 := x0_27.same (same_alloc (.cells #[.slice A2 n c2, .int .i64 (tbAt n i nn)] 49) (by omega))
    clear x0_27
    have gr_31 := gr_26.same (same_alloc (.cells #[.slice A2 n c2, .int .i64 (tbAt n i nn)] 49) (by omega))
    clear gr_26
    have g0_32 : Bx (w5.alloc (.cells #[.slice A2 n c2, .int .i64 (tbAt n i nn)] 49)) (w5.heap.size) 49 #[.slice A2 n c2, .int .i64 (tbAt n i nn)] := Bx.new _ _ _
    have B_32 := B_26.alloc z_26 (.cells #[.slice A2 n c2, .int .i64 (tbAt n i nn)] 49)
    clear B_26
    have ca_33 := a_31.cells
    have fa_33 := a_31.free
    have cw0_34 := w0_31.cells
    have fw0_34 := w0_31.free
    have cx0_35 := x0_31.cells
    have fx0_35 := x0_31.free
    have cg0_36 := g0_32.cells
    have fg0_36 := g0_32.free
    go_wp2_with fail
    refine (eqTape_same _ _ n _ _ xs (tbAt n i nn) _ gr_31.rd wr_31.rd (by omega)).mono ?_
    rintro e w6 ⟨rfl, b⟩
    clear ca_33 fa_33
    clear cw0_34 fw0_34
    clear cx0_35 fx0_35
    clear cg0_36 fg0_36
    simp only [World.size_alloc] at b
    have t_37 := b.size
    simp only [World.size_alloc] at t_37
    have z_37 : w.heap.size ≤ w6.heap.size := by omega
    have a_38 := a_31.same (same_below b (by omega))
    clear a_31
    have wr_38 := wr_31.same (same_below b (by omega))
    clear wr_31
    have w0_38 := w0_31.same (same_below b (by omega))
    clear w0_31
    have x_38 := x_31.same (same_below b (by omega))
    clear x_31
    have x0_38 := x0_31.same (same_below b (by omega))
    clear x0_31
    have gr_38 := gr_31.same (same_below b (by omega))
    clear gr_31
    have g0_38 := g0_32.same (same_below b (by omega))
    clear g0_32
    have B_37 := B_32.trans (b.mono (by omega))
    clear B_32 b
    have ca_39 := a_38.cells
    have fa_39 := a_38.free
    have cw0_40 := w0_38.cells
    have fw0_40 := w0_38.free
    have cx0_41 := x0_38.cells
    have fx0_41 := x0_38.free
    have cg0_42 := g0_38.cells
    have fg0_42 := g0_38.free
    go_wp2_with fail
    have la_43 := a_38.lt
    have da0_43 : w6.cell? ⟨w.heap.size, 0, none⟩ = some (.slice A n c) := a_38.cells 0
    have da1_43 : w6.cell? ⟨w.heap.size, 1, none⟩ = some (.int .i64 i) := a_38.cells 1
    have lx0_43 := x0_38.lt
    have dx00_43 : w6.cell? ⟨w4.heap.size, 0, none⟩ = some (.slice (some ⟨g2, 0, none⟩) n n) := x0_38.cells 0
    have dx01_43 : w6.cell? ⟨w4.heap.size, 1, none⟩ = some (.int .i64 i) := x0_38.cells 1
    clear ca_39 fa_39
    clear cw0_40 fw0_40
    clear cx0_41 fx0_41
    clear cg0_42 fg0_42
    have HA_43 := Lib.hid B_37
    go_region_held3 (fun w' => w'.cell? ⟨w.heap.size, 0, none⟩ = some (.slice A n c) ∧ w'.cell? ⟨w.heap.size, 1, none⟩ = some (.int .i64 i) ∧ w'.cell? ⟨w4.heap.size, 0, none⟩ = some (.slice (some ⟨g2, 0, none⟩) n n) ∧ w'.cell? ⟨w4.heap.size, 1, none⟩ = some (.int .i64 i) ∧ Below w6.heap.size w6 w')
      (first
        | exact ⟨da0_43, da1_43, dx00_43, dx01_43, (Below.refl _ _).drew⟩
        | exact ⟨(Below.cell (p := ⟨w.heap.size, 0, none⟩) b7 la_43).trans da0_43, (Below.cell (p := ⟨w.heap.size, 1, none⟩) b7 la_43).trans da1_43, (Below.cell (p := ⟨w4.heap.size, 0, none⟩) b7 lx0_43).trans dx00_43, (Below.cell (p := ⟨w4.heap.size, 1, none⟩) b7 lx0_43).trans dx01_43, b7⟩
        | exact ⟨(Below.cell (p := ⟨w.heap.size, 0, none⟩) b6 la_43).trans da0_43, (Below.cell (p := ⟨w.heap.size, 1, none⟩) b6 la_43).trans da1_43, (Below.cell (p := ⟨w4.heap.size, 0, none⟩) b6 lx0_43).trans dx00_43, (Below.cell (p := ⟨w4.heap.size, 1, none⟩) b6 lx0_43).trans dx01_43, b6⟩)
      (first
        | (go_at_call 42; go_split_ands; refine (to A n c xs i _ w6 w6.heap.size (HR.out.below (HA_43.out.trans (Below.mono (by assumption) HA_43.out.size)) (Nat.le_refl _)) (by omega) (by assumption) (Nat.le_refl _)).mono ?_; rintro e w' ⟨⟨g9, rfl, o6⟩, b6⟩)
        | (go_at_call 44; refine (lift (eqTape_same _ _ _ _ _ xs i _ (x_38.rd.below (by assumption) (Nat.le_refl _)) (Rd.of_own o6) (by omega)) (by assumption) (Nat.le_refl _)).mono ?_; rintro e w7 ⟨rfl, b7⟩))
    have t_43 := b7.size
    have z_43 : w.heap.size ≤ w7.heap.size := by omega
    have a_44 := a_38.same (same_below b7 (by omega))
    clear a_38
    have wr_44 := wr_38.same (same_below b7 (by omega))
    clear wr_38
    have w0_44 := w0_38.same (same_below b7 (by omega))
    clear w0_38
    have x_44 := x_38.same (same_below b7 (by omega))
    clear x_38
    have x0_44 := x0_38.same (same_below b7 (by omega))
    clear x0_38
    have gr_44 := gr_38.same (same_below b7 (by omega))
    clear gr_38
    have g0_44 := g0_38.same (same_below b7 (by omega))
    clear g0_38
    have B_43 := B_37.trans (b7.mono (by omega))
    clear B_37 b7
    have ca_45 := a_44.cells
    have fa_45 := a_44.free
    have cw0_46 := w0_44.cells
    have fw0_46 := w0_44.free
    have cx0_47 := x0_44.cells
    have fx0_47 := x0_44.free
    have cg0_48 := g0_44.cells
    have fg0_48 := g0_44.free
    go_wp2_with fail
    refine (markTape_any _ n _ 1 _ _ i _ x_44.own (by omega) (by omega)).mono ?_
    rintro e w8 ⟨rfl, o, gg⟩
    clear ca_45 fa_45
    clear cw0_46 fw0_46
    clear cx0_47 fx0_47
    clear cg0_48 fg0_48
    have n_49 := Ow.only x_44 gg
    have t_49 := n_49.size
    have z_49 : w.heap.size ≤ w8.heap.size := by omega
    have a_50 := a_44.same (same_only n_49 (by omega) (by omega))
    clear a_44
    have wr_50 := wr_44.same (same_only n_49 (by omega) (by omega))
    clear wr_44
    have w0_50 := w0_44.same (same_only n_49 (by omega) (by omega))
    clear w0_44
    have x0_50 := x0_44.same (same_only n_49 (by omega) (by omega))
    clear x0_44
    have gr_50 := gr_44.same (same_only n_49 (by omega) (by omega))
    clear gr_44
    have g0_50 := g0_44.same (same_only n_49 (by omega) (by omega))
    clear g0_44
    have x_49 : Ow _ _ _ w8 _ _ _ _ := ⟨o, x_44.top⟩
    clear x_44 o gg
    have B_49 := B_43.trans (n_49.below (by omega) (by omega))
    clear B_43 n_49
    have ca_51 := a_50.cells
    have fa_51 := a_50.free
    have cw0_52 := w0_50.cells
    have fw0_52 := w0_50.free
    have cx0_53 := x0_50.cells
    have fx0_53 := x0_50.free
    have cg0_54 := g0_50.cells
    have fg0_54 := g0_50.free
    go_wp2_with fail
    refine (eqTape_same _ _ n _ _ xs (tbAt n i nn) _ gr_50.rd wr_50.rd (by omega)).mono ?_
    rintro e w9 ⟨rfl, b⟩
    clear ca_51 fa_51
    clear cw0_52 fw0_52
    clear cx0_53 fx0_53
    clear cg0_54 fg0_54
    have t_55 := b.size
    have z_55 : w.heap.size ≤ w9.heap.size := by omega
    have a_56 := a_50.same (same_below b (by omega))
    clear a_50
    have wr_56 := wr_50.same (same_below b (by omega))
    clear wr_50
    have w0_56 := w0_50.same (same_below b (by omega))
    clear w0_50
    have x_56 := x_49.same (same_below b (by omega))
    clear x_49
    have x0_56 := x0_50.same (same_below b (by omega))
    clear x0_50
    have gr_56 := gr_50.same (same_below b (by omega))
    clear gr_50
    have g0_56 := g0_50.same (same_below b (by omega))
    clear g0_50
    have B_55 := B_49.trans (b.mono (by omega))
    clear B_49 b
    have ca_57 := a_56.cells
    have fa_57 := a_56.free
    have cw0_58 := w0_56.cells
    have fw0_58 := w0_56.free
    have cx0_59 := x0_56.cells
    have fx0_59 := x0_56.free
    have cg0_60 := g0_56.cells
    have fg0_60 := g0_56.free
    clear x_56
    clear cx0_59 fx0_59
    clear x0_56
    go_wp2_with fail
    refine (markTape_any _ n _ 1 _ _ (tbAt n i nn) _ gr_56.own (by omega) (by omega)).mono ?_
    rintro e w10 ⟨rfl, o, gg⟩
    clear ca_57 fa_57
    clear cw0_58 fw0_58
    clear cg0_60 fg0_60
    have n_61 := Ow.only gr_56 gg
    have t_61 := n_61.size
    have z_61 : w.heap.size ≤ w10.heap.size := by omega
    have a_62 := a_56.same (same_only n_61 (by omega) (by omega))
    clear a_56
    have wr_62 := wr_56.same (same_only n_61 (by omega) (by omega))
    clear wr_56
    have w0_62 := w0_56.same (same_only n_61 (by omega) (by omega))
    clear w0_56
    have g0_62 := g0_56.same (same_only n_61 (by omega) (by omega))
    clear g0_56
    have gr_61 : Ow _ _ _ w10 _ _ _ _ := ⟨o, gr_56.top⟩
    clear gr_56 o gg
    have B_61 := B_55.trans (n_61.below (by omega) (by omega))
    clear B_55 n_61
    have ca_63 := a_62.cells
    have fa_63 := a_62.free
    have cw0_64 := w0_62.cells
    have fw0_64 := w0_62.free
    have cg0_65 := g0_62.cells
    have fg0_65 := g0_62.free
    go_wp2_with fail
    refine (heldTape_any _ n _ 1 (tbAt n i nn) _ gr_61.rd (by omega) (by omega)).mono ?_
    rintro e w11 ⟨rfl, b⟩
    clear ca_63 fa_63
    clear cw0_64 fw0_64
    clear cg0_65 fg0_65
    have t_66 := b.size
    have z_66 : w.heap.size ≤ w11.heap.size := by omega
    have a_67 := a_62.same (same_below b (by omega))
    clear a_62
    have wr_67 := wr_62.same (same_below b (by omega))
    clear wr_62
    have w0_67 := w0_62.same (same_below b (by omega))
    clear w0_62
    have gr_67 := gr_61.same (same_below b (by omega))
    clear gr_61
    have g0_67 := g0_62.same (same_below b (by omega))
    clear g0_62
    have B_66 := B_61.trans (b.mono (by omega))
    clear B_61 b
    have ca_68 := a_67.cells
    have fa_68 := a_67.free
    have cw0_69 := w0_67.cells
    have fw0_69 := w0_67.free
    have cg0_70 := g0_67.cells
    have fg0_70 := g0_67.free
    go_wp2_with fail
    refine (toTape_any A n c xs i _ (HR.out.below B_66 (Nat.le_refl _)) (by omega)).mono ?_
    rintro e w12 ⟨g3, rfl, o, b⟩
    clear ca_68 fa_68
    clear cw0_69 fw0_69
    clear cg0_70 fg0_70
    have t_71 := b.size
    have z_71 : w.heap.size ≤ w12.heap.size := by omega
    have a_72 := a_67.same (same_below b (by omega))
    clear a_67
    have wr_72 := wr_67.same (same_below b (by omega))
    clear wr_67
    have w0_72 := w0_67.same (same_below b (by omega))
    clear w0_67
    have gr_72 := gr_67.same (same_below b (by omega))
    clear gr_67
    have g0_72 := g0_67.same (same_below b (by omega))
    clear g0_67
    have B_71 := B_66.trans (b.mono (by omega))
    clear B_66 b
    have d_71 := Ow.of o
    clear o
    have ca_73 := a_72.cells
    have fa_73 := a_72.free
    have cw0_74 := w0_72.cells
    have fw0_74 := w0_72.free
    have cg0_75 := g0_72.cells
    have fg0_75 := g0_72.free
    go_wp2_with fail
    refine (iTakeBelow_any _ n _ _ xs i nn _ d_71.own (by omega) HU.out).mono ?_
    rintro e w13 ⟨A3, c3, rfl, o, b⟩
    clear ca_73 fa_73
    clear cw0_74 fw0_74
    clear cg0_75 fg0_75
    have t_76 := b.size
    have z_76 : w.heap.size ≤ w13.heap.size := by omega
    have a_77 := a_72.same (same_below b (by omega))
    clear a_72
    have wr_77 := wr_72.same (same_below b (by omega))
    clear wr_72
    have w0_77 := w0_72.same (same_below b (by omega))
    clear w0_72
    have gr_77 := gr_72.same (same_below b (by omega))
    clear gr_72
    have g0_77 := g0_72.same (same_below b (by omega))
    clear g0_72
    have d_77 := d_71.same (same_below b (by omega))
    clear d_71
    have B_76 := B_71.trans (b.mono (by omega))
    clear B_71 b
    have hr_76 := Ow.of o
    clear o
    have ca_78 := a_77.cells
    have fa_78 := a_77.free
    have cw0_79 := w0_77.cells
    have fw0_79 := w0_77.free
    have cg0_80 := g0_77.cells
    have fg0_80 := g0_77.free
    clear d_77
    clear ca_78 fa_78
    clear cw0_79 fw0_79
    clear cg0_80 fg0_80
    have a_81 := a_77.same (same_alloc (.cells #[.slice A3 n c3, .int .i64 (tbAt n i nn)] 49) (by omega))
    clear a_77
    have wr_81 := wr_77.same (same_alloc (.cells #[.slice A3 n c3, .int .i64 (tbAt n i nn)] 49) (by omega))
    clear wr_77
    have w0_81 := w0_77.same (same_alloc (.cells #[.slice A3 n c3, .int .i64 (tbAt n i nn)] 49) (by omega))
    clear w0_77
    have gr_81 := gr_77.same (same_alloc (.cells #[.slice A3 n c3, .int .i64 (tbAt n i nn)] 49) (by omega))
    clear gr_77
    have g0_81 := g0_77.same (same_alloc (.cells #[.slice A3 n c3, .int .i64 (tbAt n i nn)] 49) (by omega))
    clear g0_77
    have hr_81 := hr_76.same (same_alloc (.cells #[.slice A3 n c3, .int .i64 (tbAt n i nn)] 49) (by omega))
    clear hr_76
    have h0_82 : Bx (w13.alloc (.cells #[.slice A3 n c3, .int .i64 (tbAt n i nn)] 49)) (w13.heap.size) 49 #[.slice A3 n c3, .int .i64 (tbAt n i nn)] := Bx.new _ _ _
    have B_82 := B_76.alloc z_76 (.cells #[.slice A3 n c3, .int .i64 (tbAt n i nn)] 49)
    clear B_76
    have ca_83 := a_81.cells
    have fa_83 := a_81.free
    have cw0_84 := w0_81.cells
    have fw0_84 := w0_81.free
    have cg0_85 := g0_81.cells
    have fg0_85 := g0_81.free
    have ch0_86 := h0_82.cells
    have fh0_86 := h0_82.free
    go_wp2_with fail
    refine (eqTape_same _ _ n _ _ xs (tbAt n i nn) _ hr_81.rd wr_81.rd (by omega)).mono ?_
    rintro e w14 ⟨rfl, b⟩
    clear ca_83 fa_83
    clear cw0_84 fw0_84
    clear cg0_85 fg0_85
    clear ch0_86 fh0_86
    simp only [World.size_alloc] at b
    have t_87 := b.size
    simp only [World.size_alloc] at t_87
    have z_87 : w.heap.size ≤ w14.heap.size := by omega
    have a_88 := a_81.same (same_below b (by omega))
    clear a_81
    have wr_88 := wr_81.same (same_below b (by omega))
    clear wr_81
    have w0_88 := w0_81.same (same_below b (by omega))
    clear w0_81
    have gr_88 := gr_81.same (same_below b (by omega))
    clear gr_81
    have g0_88 := g0_81.same (same_below b (by omega))
    clear g0_81
    have hr_88 := hr_81.same (same_below b (by omega))
    clear hr_81
    have h0_88 := h0_82.same (same_below b (by omega))
    clear h0_82
    have B_87 := B_82.trans (b.mono (by omega))
    clear B_82 b
    have ca_89 := a_88.cells
    have fa_89 := a_88.free
    have cw0_90 := w0_88.cells
    have fw0_90 := w0_88.free
    have cg0_91 := g0_88.cells
    have fg0_91 := g0_88.free
    have ch0_92 := h0_88.cells
    have fh0_92 := h0_88.free
    clear hr_88
    clear ch0_92 fh0_92
    clear h0_88
    clear wr_88
    clear cw0_90 fw0_90
    clear w0_88
    go_wp2_with fail
    refine (heldTape_any _ n _ 1 (tbAt n i nn) _ gr_88.rd (by omega) (by omega)).mono ?_
    rintro e w15 ⟨rfl, b⟩
    clear ca_89 fa_89
    clear cg0_91 fg0_91
    have t_93 := b.size
    have z_93 : w.heap.size ≤ w15.heap.size := by omega
    have a_94 := a_88.same (same_below b (by omega))
    clear a_88
    have gr_94 := gr_88.same (same_below b (by omega))
    clear gr_88
    have g0_94 := g0_88.same (same_below b (by omega))
    clear g0_88
    have B_93 := B_87.trans (b.mono (by omega))
    clear B_87 b
    have ca_95 := a_94.cells
    have fa_95 := a_94.free
    have cg0_96 := g0_94.cells
    have fg0_96 := g0_94.free
    go_wp2_with fail
    go_ret
    exact ⟨rfl, B_93⟩
  · have HB := Lib.hid (Below.refl (w.heap.size + 1) (w.alloc (.cells #[.slice A n c, .int .i64 i] 47)))
    have HS := Lib.hid (show w.heap.size + 1 ≤ (w.alloc (.cells #[.slice A n c, .int .i64 i] 47)).heap.size by simp)
    have HZ := Lib.hid (show szI 1048576 n = -1 by unfold szI; rw [if_pos (by omega)])
    go_enter Try.func11, Try.ntmps11
    go_wp2_with fail
    refine (lift (szTape_any A n c i 1048576 (by omega) (by omega) (by omega) _) HB.out HS.out).mono ?_
    rw [HZ.out]
    rintro e w1 ⟨rfl, b1⟩
    go_wp2_with fail
    go_ret
    exact ⟨rfl, fin_below b1 (by go_grown) (by omega)⟩

theorem walks : Walks 11 Try.f11 := by
  intro H enc W base args ds ps hval hA _
  rw [Try.params11] at hA hval
  obtain ⟨v0, vs0, d0, ds0, p0, q0, hargs, rfl, rfl, h0, r0⟩ := trodAll_cons hA
  obtain ⟨v1, vs1, d1, ds1, p1, q1, rfl, rfl, rfl, h1, r1⟩ := trodAll_cons r0
  obtain ⟨rfl, rfl, rfl⟩ := trodAll_nil r1
  obtain rfl : args = #[v0, v1] := by cases args; simp_all
  obtain ⟨cs0, rfl, hl0, nn0, hf0⟩ := open_agg Try.underlying47 (by kernel_rfl) (by kernel_rfl) (hval 0 47 v0 rfl rfl) h0
  obtain ⟨c0_0, _, e0_0, y0_0⟩ := hf0 0 _ rfl
  obtain ⟨c0_1, _, e0_1, y0_1⟩ := hf0 1 _ rfl
  obtain ⟨a0_0, a0_1, rfl⟩ : ∃ a0_0 a0_1, cs0 = [a0_0, a0_1] := by
    match cs0, hl0 with
    | [a0, a1], _ => exact ⟨a0, a1, rfl⟩
  simp only [List.getElem?_cons_zero, List.getElem?_cons_succ, Option.some.injEq] at e0_0 e0_1
  subst e0_0 e0_1
  obtain ⟨A0_0, n0_0, c0_0, x0_0, rfl, hl0_0, hm0_0, hr0_0, w0_0⟩ := open_ints_rd Try.underlying22 (by kernel_rfl) Try.underlying5 y0_0
  obtain ⟨x0_1, rfl, w0_1⟩ := field_int Try.underlying3 y0_1
  obtain ⟨a1, rfl, rfl, rfl, w1⟩ := open_int Try.underlying3 (hval 1 3 v1 rfl rfl) h1
  exact walk (w := W) A0_0 n0_0 c0_0 x0_0 x0_1 a1 hl0_0 hm0_0 hr0_0 w0_0 w0_1 w1

set_option maxRecDepth 100000 in
theorem lifted (os : Os) (started : os.Started) (H : Type) (enc : TypeId × Value → H) :
    ReturnsInHanded {} Try.checked os 11 .any (Rows.fnExactTakeBelowSpec.pre6 enc Try.prog Try.f11 Rows.fnExactTakeBelowRow.domain false) (Rows.fnExactTakeBelowSpec.post enc Try.prog Try.f11 false true false false) :=
  law_lifted started (by kernel_rfl) Try.func11
    (ChangeSpec.witness6 (enc := enc) (C := Try.checked) false ⟨#[], #[.agg #[.slice none 0 0, .int .i64 0], .int .i64 0], []⟩ 8 (by kernel_rfl) (by kernel_rfl) (by kernel_rfl) (by kernel_rfl))
    rfl rfl Try.underlying4 (fun ds h => match ds, h with | [_, _], _ => rfl) (by
      rw [Try.params11]
      intro t ht
      simp only [List.mem_cons, List.not_mem_nil, or_false] at ht
      rcases ht with rfl | rfl <;> exact ⟨by kernel_rfl, of_decide_eq_true (by kernel_rfl)⟩) walks

theorem over : Rows.fnExactTakeBelowRow.holds Try.pinned (OpenSpec.ofChange Rows.fnExactTakeBelowSpec) :=
  OpenClaim.holds_of_wide 11 Try.f11 rfl rfl rfl rfl rfl rfl rfl ⟨rfl, rfl, rfl, rfl, rfl⟩ rfl rfl rfl rfl rfl (by kernel_rfl) Try.func11 (by kernel_rfl)
    (of_decide_eq_true (by kernel_rfl)) (by unfold Func.isWrapper; first | (rw [if_pos (by decide +kernel)]; kernel_rfl) | (rw [if_neg (by decide +kernel)]; exact ⟨rfl, rfl⟩))
    (fun os started H enc _ => lifted os started H enc)

theorem proved : Rows.FnExactTakeBelowSaid := over
#print axioms proved

end LawTakeBelow
end Go.Proofs.Ytfdpfeaegcfglaa
