/-
  Proved: laws.FnExactTapeNew returns true for every list of bytes. Conditions: none.
-/
import Derived.Test.YtccohhhnfaidhaaTapeNew
import Derived.Test.YtccohhhnfaidhaaObj
import Derived.Test.YtccohhhnfaidhaaOpen
namespace Go.Proofs.Ytccohhhnfaidhaa
open Go.ChangeShapes Go.WideShapes Go.ChangeAt Go.RowKit Go.Deep
namespace LawTapeNew
set_option linter.unusedSimpArgs false
set_option linter.unusedVariables false
theorem markTape_nil (k : Nat) (i : Int) (w : World) (hk : k ≤ 1099511627776) : Calls Try.prog 47 #[.agg #[.slice none 0 0, .int .i64 i], .int .i64 k] w fun e w' => e = .returned (.int .i64 ((k + 0 : Nat) : Int)) ∧ Below w.heap.size w w' :=
  (markTape_any 0 0 0 k none [] i w (World.ownsRow_nil _ _ _ _) (by omega) hk).mono fun e w' ⟨h1, _, h3⟩ => ⟨h1, (Below.refl _ _).grown h3 (Nat.le_refl _) (fun k hk => by simp [Value.ownBlock] at hk)⟩

set_option maxHeartbeats 2000000 in
theorem walk_yes (w : World) (A : Option Addr) (n c : Nat) (xs : List Int) (HR : Hid (Rd w A n (xs.map (Value.int .u8)))) (hn : n ≤ 600) :
    Calls Try.prog 13 #[.slice A n c] w fun e w' => e = .returned (.bool true) ∧ Below w.heap.size w w' := by
  have B0 := Below.refl w.heap.size w
  have s0 : w.heap.size ≤ w.heap.size := Nat.le_refl _
  go_enter Try.func13, Try.ntmps13
  go_wp2_with fail
  refine (toByteS_any A n c xs _ (HR.out.below B0 (Nat.le_refl _)) (by omega)).mono ?_
  rintro e w1 ⟨rfl, o, b⟩
  have t_1 := b.size
  have z_1 : w.heap.size ≤ w1.heap.size := by omega
  have B_1 := B0.trans (b.mono (by omega))
  clear B0 b
  have a_1 := Ow.of o
  clear o
  go_wp2_with fail
  refine (sTapeNew_yes _ n _ xs _ a_1.rd (by omega)).mono ?_
  rintro e w2 ⟨A1, c1, rfl, o, b⟩
  have t_3 := b.size
  have z_3 : w.heap.size ≤ w2.heap.size := by omega
  have a_4 := a_1.same (same_below b (by omega))
  clear a_1
  have B_3 := B_1.trans (b.mono (by omega))
  clear B_1 b
  have wr_3 := Ow.of o
  clear o
  clear a_4
  have wr_5 := wr_3.same (same_alloc (.cells #[.slice A1 n c1, .int .i64 0] 43) (by omega))
  clear wr_3
  have w0_6 : Bx (w2.alloc (.cells #[.slice A1 n c1, .int .i64 0] 43)) (w2.heap.size) 43 #[.slice A1 n c1, .int .i64 0] := Bx.new _ _ _
  have B_6 := B_3.alloc z_3 (.cells #[.slice A1 n c1, .int .i64 0] 43)
  clear B_3
  have cw0_7 := w0_6.cells
  have fw0_7 := w0_6.free
  go_wp2_with fail
  refine (toByteS_any A n c xs _ (HR.out.below B_6 (Nat.le_refl _)) (by omega)).mono ?_
  rintro e w3 ⟨rfl, o, b⟩
  clear cw0_7 fw0_7
  simp only [World.size_alloc] at b o
  have t_8 := b.size
  simp only [World.size_alloc] at t_8
  have z_8 : w.heap.size ≤ w3.heap.size := by omega
  have wr_9 := wr_5.same (same_below b (by omega))
  clear wr_5
  have w0_9 := w0_6.same (same_below b (by omega))
  clear w0_6
  have B_8 := B_6.trans (b.mono (by omega))
  clear B_6 b
  have x_8 := Ow.of o
  clear o
  have cw0_10 := w0_9.cells
  have fw0_10 := w0_9.free
  go_wp2_with fail
  refine (iTapeNew_yes _ n _ xs _ x_8.rd (by omega)).mono ?_
  rintro e w4 ⟨A2, c2, rfl, o, b⟩
  clear cw0_10 fw0_10
  have t_11 := b.size
  have z_11 : w.heap.size ≤ w4.heap.size := by omega
  have wr_12 := wr_9.same (same_below b (by omega))
  clear wr_9
  have w0_12 := w0_9.same (same_below b (by omega))
  clear w0_9
  have x_12 := x_8.same (same_below b (by omega))
  clear x_8
  have B_11 := B_8.trans (b.mono (by omega))
  clear B_8 b
  have gr_11 := Ow.of o
  clear o
  have cw0_13 := w0_12.cells
  have fw0_13 := w0_12.free
  clear cw0_13 fw0_13
  have wr_14 := wr_12.same (same_alloc (.cells #[.slice A2 n c2, .int .i64 0] 43) (by omega))
  clear wr_12
  have w0_14 := w0_12.same (same_alloc (.cells #[.slice A2 n c2, .int .i64 0] 43) (by omega))
  clear w0_12
  have x_14 := x_12.same (same_alloc (.cells #[.slice A2 n c2, .int .i64 0] 43) (by omega))
  clear x_12
  have gr_14 := gr_11.same (same_alloc (.cells #[.slice A2 n c2, .int .i64 0] 43) (by omega))
  clear gr_11
  have g0_15 : Bx (w4.alloc (.cells #[.slice A2 n c2, .int .i64 0] 43)) (w4.heap.size) 43 #[.slice A2 n c2, .int .i64 0] := Bx.new _ _ _
  have B_15 := B_11.alloc z_11 (.cells #[.slice A2 n c2, .int .i64 0] 43)
  clear B_11
  have cw0_16 := w0_14.cells
  have fw0_16 := w0_14.free
  have cg0_17 := g0_15.cells
  have fg0_17 := g0_15.free
  go_wp2_with fail
  refine (eqTape_same _ _ n _ _ xs 0 _ gr_14.rd wr_14.rd (by omega)).mono ?_
  rintro e w5 ⟨rfl, b⟩
  clear cw0_16 fw0_16
  clear cg0_17 fg0_17
  simp only [World.size_alloc] at b
  have t_18 := b.size
  simp only [World.size_alloc] at t_18
  have z_18 : w.heap.size ≤ w5.heap.size := by omega
  have wr_19 := wr_14.same (same_below b (by omega))
  clear wr_14
  have w0_19 := w0_14.same (same_below b (by omega))
  clear w0_14
  have x_19 := x_14.same (same_below b (by omega))
  clear x_14
  have gr_19 := gr_14.same (same_below b (by omega))
  clear gr_14
  have g0_19 := g0_15.same (same_below b (by omega))
  clear g0_15
  have B_18 := B_15.trans (b.mono (by omega))
  clear B_15 b
  have cw0_20 := w0_19.cells
  have fw0_20 := w0_19.free
  have cg0_21 := g0_19.cells
  have fg0_21 := g0_19.free
  go_wp2_with fail
  refine (toByteS_any A n c xs _ (HR.out.below B_18 (Nat.le_refl _)) (by omega)).mono ?_
  rintro e w6 ⟨rfl, o, b⟩
  clear cw0_20 fw0_20
  clear cg0_21 fg0_21
  have t_22 := b.size
  have z_22 : w.heap.size ≤ w6.heap.size := by omega
  have wr_23 := wr_19.same (same_below b (by omega))
  clear wr_19
  have w0_23 := w0_19.same (same_below b (by omega))
  clear w0_19
  have x_23 := x_19.same (same_below b (by omega))
  clear x_19
  have gr_23 := gr_19.same (same_below b (by omega))
  clear gr_19
  have g0_23 := g0_19.same (same_below b (by omega))
  clear g0_19
  have B_22 := B_18.trans (b.mono (by omega))
  clear B_18 b
  have a_22 := Ow.of o
  clear o
  have cw0_24 := w0_23.cells
  have fw0_24 := w0_23.free
  have cg0_25 := g0_23.cells
  have fg0_25 := g0_23.free
  go_wp2_with fail
  refine (eqByteS_same _ _ n _ _ xs _ x_23.rd a_22.rd (by omega)).mono ?_
  rintro e w7 ⟨rfl, b⟩
  clear cw0_24 fw0_24
  clear cg0_25 fg0_25
  have t_26 := b.size
  have z_26 : w.heap.size ≤ w7.heap.size := by omega
  have wr_27 := wr_23.same (same_below b (by omega))
  clear wr_23
  have w0_27 := w0_23.same (same_below b (by omega))
  clear w0_23
  have x_27 := x_23.same (same_below b (by omega))
  clear x_23
  have gr_27 := gr_23.same (same_below b (by omega))
  clear gr_23
  have g0_27 := g0_23.same (same_below b (by omega))
  clear g0_23
  have a_27 := a_22.same (same_below b (by omega))
  clear a_22
  have B_26 := B_22.trans (b.mono (by omega))
  clear B_22 b
  have cw0_28 := w0_27.cells
  have fw0_28 := w0_27.free
  have cg0_29 := g0_27.cells
  have fg0_29 := g0_27.free
  clear a_27
  go_wp2_with fail
  refine (markByteS_any _ n _ 1 _ _ _ x_27.own (by omega) (by omega)).mono ?_
  rintro e w8 ⟨rfl, o, gg, zz⟩
  clear cw0_28 fw0_28
  clear cg0_29 fg0_29
  have n_30 := Ow.only x_27 gg
  have t_30 := n_30.size
  have z_30 : w.heap.size ≤ w8.heap.size := by omega
  have wr_31 := wr_27.same (same_only n_30 (by omega) (by omega))
  clear wr_27
  have w0_31 := w0_27.same (same_only n_30 (by omega) (by omega))
  clear w0_27
  have gr_31 := gr_27.same (same_only n_30 (by omega) (by omega))
  clear gr_27
  have g0_31 := g0_27.same (same_only n_30 (by omega) (by omega))
  clear g0_27
  have x_30 : Ow _ _ _ w8 _ _ _ _ := ⟨o, x_27.top⟩
  clear x_27 o gg
  have B_30 := B_26.trans (n_30.below (by omega) (by omega))
  clear B_26 n_30
  clear zz
  have cw0_32 := w0_31.cells
  have fw0_32 := w0_31.free
  have cg0_33 := g0_31.cells
  have fg0_33 := g0_31.free
  go_wp2_with fail
  refine (eqTape_same _ _ n _ _ xs 0 _ gr_31.rd wr_31.rd (by omega)).mono ?_
  rintro e w9 ⟨rfl, b⟩
  clear cw0_32 fw0_32
  clear cg0_33 fg0_33
  have t_34 := b.size
  have z_34 : w.heap.size ≤ w9.heap.size := by omega
  have wr_35 := wr_31.same (same_below b (by omega))
  clear wr_31
  have w0_35 := w0_31.same (same_below b (by omega))
  clear w0_31
  have x_35 := x_30.same (same_below b (by omega))
  clear x_30
  have gr_35 := gr_31.same (same_below b (by omega))
  clear gr_31
  have g0_35 := g0_31.same (same_below b (by omega))
  clear g0_31
  have B_34 := B_30.trans (b.mono (by omega))
  clear B_30 b
  have cw0_36 := w0_35.cells
  have fw0_36 := w0_35.free
  have cg0_37 := g0_35.cells
  have fg0_37 := g0_35.free
  clear x_35
  go_wp2_with fail
  refine (markTape_any _ n _ 1 _ _ 0 _ gr_35.own (by omega) (by omega)).mono ?_
  rintro e w10 ⟨rfl, o, gg⟩
  clear cw0_36 fw0_36
  clear cg0_37 fg0_37
  have n_38 := Ow.only gr_35 gg
  have t_38 := n_38.size
  have z_38 : w.heap.size ≤ w10.heap.size := by omega
  have wr_39 := wr_35.same (same_only n_38 (by omega) (by omega))
  clear wr_35
  have w0_39 := w0_35.same (same_only n_38 (by omega) (by omega))
  clear w0_35
  have g0_39 := g0_35.same (same_only n_38 (by omega) (by omega))
  clear g0_35
  have gr_38 : Ow _ _ _ w10 _ _ _ _ := ⟨o, gr_35.top⟩
  clear gr_35 o gg
  have B_38 := B_34.trans (n_38.below (by omega) (by omega))
  clear B_34 n_38
  have cw0_40 := w0_39.cells
  have fw0_40 := w0_39.free
  have cg0_41 := g0_39.cells
  have fg0_41 := g0_39.free
  go_wp2_with fail
  refine (heldTape_any _ n _ 1 0 _ gr_38.rd (by omega) (by omega)).mono ?_
  rintro e w11 ⟨rfl, b⟩
  clear cw0_40 fw0_40
  clear cg0_41 fg0_41
  have t_42 := b.size
  have z_42 : w.heap.size ≤ w11.heap.size := by omega
  have wr_43 := wr_39.same (same_below b (by omega))
  clear wr_39
  have w0_43 := w0_39.same (same_below b (by omega))
  clear w0_39
  have gr_43 := gr_38.same (same_below b (by omega))
  clear gr_38
  have g0_43 := g0_39.same (same_below b (by omega))
  clear g0_39
  have B_42 := B_38.trans (b.mono (by omega))
  clear B_38 b
  have cw0_44 := w0_43.cells
  have fw0_44 := w0_43.free
  have cg0_45 := g0_43.cells
  have fg0_45 := g0_43.free
  go_wp2_with fail
  refine (toByteS_any A n c xs _ (HR.out.below B_42 (Nat.le_refl _)) (by omega)).mono ?_
  rintro e w12 ⟨rfl, o, b⟩
  clear cw0_44 fw0_44
  clear cg0_45 fg0_45
  have t_46 := b.size
  have z_46 : w.heap.size ≤ w12.heap.size := by omega
  have wr_47 := wr_43.same (same_below b (by omega))
  clear wr_43
  have w0_47 := w0_43.same (same_below b (by omega))
  clear w0_43
  have gr_47 := gr_43.same (same_below b (by omega))
  clear gr_43
  have g0_47 := g0_43.same (same_below b (by omega))
  clear g0_43
  have B_46 := B_42.trans (b.mono (by omega))
  clear B_42 b
  have a_46 := Ow.of o
  clear o
  have cw0_48 := w0_47.cells
  have fw0_48 := w0_47.free
  have cg0_49 := g0_47.cells
  have fg0_49 := g0_47.free
  go_wp2_with fail
  refine (iTapeNew_yes _ n _ xs _ a_46.rd (by omega)).mono ?_
  rintro e w13 ⟨A3, c3, rfl, o, b⟩
  clear cw0_48 fw0_48
  clear cg0_49 fg0_49
  have t_50 := b.size
  have z_50 : w.heap.size ≤ w13.heap.size := by omega
  have wr_51 := wr_47.same (same_below b (by omega))
  clear wr_47
  have w0_51 := w0_47.same (same_below b (by omega))
  clear w0_47
  have gr_51 := gr_47.same (same_below b (by omega))
  clear gr_47
  have g0_51 := g0_47.same (same_below b (by omega))
  clear g0_47
  have a_51 := a_46.same (same_below b (by omega))
  clear a_46
  have B_50 := B_46.trans (b.mono (by omega))
  clear B_46 b
  have hr_50 := Ow.of o
  clear o
  have cw0_52 := w0_51.cells
  have fw0_52 := w0_51.free
  have cg0_53 := g0_51.cells
  have fg0_53 := g0_51.free
  clear a_51
  clear cw0_52 fw0_52
  clear cg0_53 fg0_53
  have wr_54 := wr_51.same (same_alloc (.cells #[.slice A3 n c3, .int .i64 0] 43) (by omega))
  clear wr_51
  have w0_54 := w0_51.same (same_alloc (.cells #[.slice A3 n c3, .int .i64 0] 43) (by omega))
  clear w0_51
  have gr_54 := gr_51.same (same_alloc (.cells #[.slice A3 n c3, .int .i64 0] 43) (by omega))
  clear gr_51
  have g0_54 := g0_51.same (same_alloc (.cells #[.slice A3 n c3, .int .i64 0] 43) (by omega))
  clear g0_51
  have hr_54 := hr_50.same (same_alloc (.cells #[.slice A3 n c3, .int .i64 0] 43) (by omega))
  clear hr_50
  have h0_55 : Bx (w13.alloc (.cells #[.slice A3 n c3, .int .i64 0] 43)) (w13.heap.size) 43 #[.slice A3 n c3, .int .i64 0] := Bx.new _ _ _
  have B_55 := B_50.alloc z_50 (.cells #[.slice A3 n c3, .int .i64 0] 43)
  clear B_50
  have cw0_56 := w0_54.cells
  have fw0_56 := w0_54.free
  have cg0_57 := g0_54.cells
  have fg0_57 := g0_54.free
  have ch0_58 := h0_55.cells
  have fh0_58 := h0_55.free
  go_wp2_with fail
  refine (eqTape_same _ _ n _ _ xs 0 _ hr_54.rd wr_54.rd (by omega)).mono ?_
  rintro e w14 ⟨rfl, b⟩
  clear cw0_56 fw0_56
  clear cg0_57 fg0_57
  clear ch0_58 fh0_58
  simp only [World.size_alloc] at b
  have t_59 := b.size
  simp only [World.size_alloc] at t_59
  have z_59 : w.heap.size ≤ w14.heap.size := by omega
  have wr_60 := wr_54.same (same_below b (by omega))
  clear wr_54
  have w0_60 := w0_54.same (same_below b (by omega))
  clear w0_54
  have gr_60 := gr_54.same (same_below b (by omega))
  clear gr_54
  have g0_60 := g0_54.same (same_below b (by omega))
  clear g0_54
  have hr_60 := hr_54.same (same_below b (by omega))
  clear hr_54
  have h0_60 := h0_55.same (same_below b (by omega))
  clear h0_55
  have B_59 := B_55.trans (b.mono (by omega))
  clear B_55 b
  have cw0_61 := w0_60.cells
  have fw0_61 := w0_60.free
  have cg0_62 := g0_60.cells
  have fg0_62 := g0_60.free
  have ch0_63 := h0_60.cells
  have fh0_63 := h0_60.free
  clear hr_60
  clear ch0_63 fh0_63
  clear h0_60
  clear wr_60
  go_wp2_with fail
  refine (heldTape_any _ n _ 1 0 _ gr_60.rd (by omega) (by omega)).mono ?_
  rintro e w15 ⟨rfl, b⟩
  clear cw0_61 fw0_61
  clear cg0_62 fg0_62
  have t_64 := b.size
  have z_64 : w.heap.size ≤ w15.heap.size := by omega
  have w0_65 := w0_60.same (same_below b (by omega))
  clear w0_60
  have gr_65 := gr_60.same (same_below b (by omega))
  clear gr_60
  have g0_65 := g0_60.same (same_below b (by omega))
  clear g0_60
  have B_64 := B_59.trans (b.mono (by omega))
  clear B_59 b
  have cw0_66 := w0_65.cells
  have fw0_66 := w0_65.free
  have cg0_67 := g0_65.cells
  have fg0_67 := g0_65.free
  go_wp2_with fail
  go_ret
  exact ⟨rfl, B_64⟩

set_option maxHeartbeats 2000000 in
theorem walk_no (w : World) (A : Option Addr) (n c : Nat) (xs : List Int) (HR : Hid (Rd w A n (xs.map (Value.int .u8)))) (hn : ¬ n ≤ 600) (hs : n ≤ 1048576) :
    Calls Try.prog 13 #[.slice A n c] w fun e w' => e = .returned (.bool true) ∧ Below w.heap.size w w' := by
  have rn : ∀ (W : World) (A : Option Addr), Rd W A 0 (([] : List Int).map (Value.int .u8)) := fun W A => Rd.none_ W A
  have rm : ∀ (W : World) (A : Option Addr), Rd W A 0 (marksByteS 1 0) := fun W A => Rd.none_ W A
  have B0 := Below.refl w.heap.size w
  have s0 : w.heap.size ≤ w.heap.size := Nat.le_refl _
  go_enter Try.func13, Try.ntmps13
  go_wp2_with fail
  refine (toByteS_any A n c xs _ (HR.out.below B0 (Nat.le_refl _)) (by omega)).mono ?_
  rintro e w1 ⟨rfl, o, b⟩
  have t_1 := b.size
  have z_1 : w.heap.size ≤ w1.heap.size := by omega
  have B_1 := B0.trans (b.mono (by omega))
  clear B0 b
  have a_1 := Ow.of o
  clear o
  go_wp2_with fail
  refine (sTapeNew_no _ n _ _ hn).mono ?_
  rintro e w2 ⟨rfl, b⟩
  have t_3 := b.size
  have z_3 : w.heap.size ≤ w2.heap.size := by omega
  have a_4 := a_1.same (same_below b (by omega))
  clear a_1
  have B_3 := B_1.trans (b.mono (by omega))
  clear B_1 b
  clear a_4
  have w0_6 : Bx (w2.alloc (.cells #[.slice none 0 0, .int .i64 0] 43)) (w2.heap.size) 43 #[.slice none 0 0, .int .i64 0] := Bx.new _ _ _
  have B_6 := B_3.alloc z_3 (.cells #[.slice none 0 0, .int .i64 0] 43)
  clear B_3
  have cw0_7 := w0_6.cells
  have fw0_7 := w0_6.free
  go_wp2_with fail
  refine (toByteS_any A n c xs _ (HR.out.below B_6 (Nat.le_refl _)) (by omega)).mono ?_
  rintro e w3 ⟨rfl, o, b⟩
  clear cw0_7 fw0_7
  simp only [World.size_alloc] at b o
  have t_8 := b.size
  simp only [World.size_alloc] at t_8
  have z_8 : w.heap.size ≤ w3.heap.size := by omega
  have w0_9 := w0_6.same (same_below b (by omega))
  clear w0_6
  have B_8 := B_6.trans (b.mono (by omega))
  clear B_6 b
  have x_8 := Ow.of o
  clear o
  have cw0_10 := w0_9.cells
  have fw0_10 := w0_9.free
  go_wp2_with fail
  refine (iTapeNew_no _ n _ _ hn).mono ?_
  rintro e w4 ⟨rfl, b⟩
  clear cw0_10 fw0_10
  have t_11 := b.size
  have z_11 : w.heap.size ≤ w4.heap.size := by omega
  have w0_12 := w0_9.same (same_below b (by omega))
  clear w0_9
  have x_12 := x_8.same (same_below b (by omega))
  clear x_8
  have B_11 := B_8.trans (b.mono (by omega))
  clear B_8 b
  have cw0_13 := w0_12.cells
  have fw0_13 := w0_12.free
  clear cw0_13 fw0_13
  have w0_14 := w0_12.same (same_alloc (.cells #[.slice none 0 0, .int .i64 0] 43) (by omega))
  clear w0_12
  have x_14 := x_12.same (same_alloc (.cells #[.slice none 0 0, .int .i64 0] 43) (by omega))
  clear x_12
  have g0_15 : Bx (w4.alloc (.cells #[.slice none 0 0, .int .i64 0] 43)) (w4.heap.size) 43 #[.slice none 0 0, .int .i64 0] := Bx.new _ _ _
  have B_15 := B_11.alloc z_11 (.cells #[.slice none 0 0, .int .i64 0] 43)
  clear B_11
  have cw0_16 := w0_14.cells
  have fw0_16 := w0_14.free
  have cg0_17 := g0_15.cells
  have fg0_17 := g0_15.free
  go_wp2_with fail
  refine (eqTape_same _ _ 0 _ _ [] 0 _ (rn _ _) (rn _ _) (by omega)).mono ?_
  rintro e w5 ⟨rfl, b⟩
  clear cw0_16 fw0_16
  clear cg0_17 fg0_17
  simp only [World.size_alloc] at b
  have t_18 := b.size
  simp only [World.size_alloc] at t_18
  have z_18 : w.heap.size ≤ w5.heap.size := by omega
  have w0_19 := w0_14.same (same_below b (by omega))
  clear w0_14
  have x_19 := x_14.same (same_below b (by omega))
  clear x_14
  have g0_19 := g0_15.same (same_below b (by omega))
  clear g0_15
  have B_18 := B_15.trans (b.mono (by omega))
  clear B_15 b
  have cw0_20 := w0_19.cells
  have fw0_20 := w0_19.free
  have cg0_21 := g0_19.cells
  have fg0_21 := g0_19.free
  go_wp2_with fail
  refine (toByteS_any A n c xs _ (HR.out.below B_18 (Nat.le_refl _)) (by omega)).mono ?_
  rintro e w6 ⟨rfl, o, b⟩
  clear cw0_20 fw0_20
  clear cg0_21 fg0_21
  have t_22 := b.size
  have z_22 : w.heap.size ≤ w6.heap.size := by omega
  have w0_23 := w0_19.same (same_below b (by omega))
  clear w0_19
  have x_23 := x_19.same (same_below b (by omega))
  clear x_19
  have g0_23 := g0_19.same (same_below b (by omega))
  clear g0_19
  have B_22 := B_18.trans (b.mono (by omega))
  clear B_18 b
  have a_22 := Ow.of o
  clear o
  have cw0_24 := w0_23.cells
  have fw0_24 := w0_23.free
  have cg0_25 := g0_23.cells
  have fg0_25 := g0_23.free
  go_wp2_with fail
  refine (eqByteS_same _ _ n _ _ xs _ x_23.rd a_22.rd (by omega)).mono ?_
  rintro e w7 ⟨rfl, b⟩
  clear cw0_24 fw0_24
  clear cg0_25 fg0_25
  have t_26 := b.size
  have z_26 : w.heap.size ≤ w7.heap.size := by omega
  have w0_27 := w0_23.same (same_below b (by omega))
  clear w0_23
  have x_27 := x_23.same (same_below b (by omega))
  clear x_23
  have g0_27 := g0_23.same (same_below b (by omega))
  clear g0_23
  have a_27 := a_22.same (same_below b (by omega))
  clear a_22
  have B_26 := B_22.trans (b.mono (by omega))
  clear B_22 b
  have cw0_28 := w0_27.cells
  have fw0_28 := w0_27.free
  have cg0_29 := g0_27.cells
  have fg0_29 := g0_27.free
  clear a_27
  go_wp2_with fail
  refine (markByteS_any _ n _ 1 _ _ _ x_27.own (by omega) (by omega)).mono ?_
  rintro e w8 ⟨rfl, o, gg, zz⟩
  clear cw0_28 fw0_28
  clear cg0_29 fg0_29
  have n_30 := Ow.only x_27 gg
  have t_30 := n_30.size
  have z_30 : w.heap.size ≤ w8.heap.size := by omega
  have w0_31 := w0_27.same (same_only n_30 (by omega) (by omega))
  clear w0_27
  have g0_31 := g0_27.same (same_only n_30 (by omega) (by omega))
  clear g0_27
  have x_30 : Ow _ _ _ w8 _ _ _ _ := ⟨o, x_27.top⟩
  clear x_27 o gg
  have B_30 := B_26.trans (n_30.below (by omega) (by omega))
  clear B_26 n_30
  clear zz
  have cw0_32 := w0_31.cells
  have fw0_32 := w0_31.free
  have cg0_33 := g0_31.cells
  have fg0_33 := g0_31.free
  clear x_30
  go_wp2_with fail
  refine (eqTape_same _ _ 0 _ _ [] 0 _ (rn _ _) (rn _ _) (by omega)).mono ?_
  rintro e w9 ⟨rfl, b⟩
  clear cw0_32 fw0_32
  clear cg0_33 fg0_33
  have t_34 := b.size
  have z_34 : w.heap.size ≤ w9.heap.size := by omega
  have w0_35 := w0_31.same (same_below b (by omega))
  clear w0_31
  have g0_35 := g0_31.same (same_below b (by omega))
  clear g0_31
  have B_34 := B_30.trans (b.mono (by omega))
  clear B_30 b
  have cw0_36 := w0_35.cells
  have fw0_36 := w0_35.free
  have cg0_37 := g0_35.cells
  have fg0_37 := g0_35.free
  go_wp2_with fail
  refine (markTape_nil 1 0 _ (by omega)).mono ?_
  rintro e w10 ⟨rfl, b⟩
  clear cw0_36 fw0_36
  clear cg0_37 fg0_37
  have t_38 := b.size
  have z_38 : w.heap.size ≤ w10.heap.size := by omega
  have w0_39 := w0_35.same (same_below b (by omega))
  clear w0_35
  have g0_39 := g0_35.same (same_below b (by omega))
  clear g0_35
  have B_38 := B_34.trans (b.mono (by omega))
  clear B_34 b
  have cw0_40 := w0_39.cells
  have fw0_40 := w0_39.free
  have cg0_41 := g0_39.cells
  have fg0_41 := g0_39.free
  go_wp2_with fail
  refine (heldTape_any _ 0 _ 1 0 _ (rm _ _) (by omega) (by omega)).mono ?_
  rintro e w11 ⟨rfl, b⟩
  clear cw0_40 fw0_40
  clear cg0_41 fg0_41
  have t_42 := b.size
  have z_42 : w.heap.size ≤ w11.heap.size := by omega
  have w0_43 := w0_39.same (same_below b (by omega))
  clear w0_39
  have g0_43 := g0_39.same (same_below b (by omega))
  clear g0_39
  have B_42 := B_38.trans (b.mono (by omega))
  clear B_38 b
  have cw0_44 := w0_43.cells
  have fw0_44 := w0_43.free
  have cg0_45 := g0_43.cells
  have fg0_45 := g0_43.free
  go_wp2_with fail
  refine (toByteS_any A n c xs _ (HR.out.below B_42 (Nat.le_refl _)) (by omega)).mono ?_
  rintro e w12 ⟨rfl, o, b⟩
  clear cw0_44 fw0_44
  clear cg0_45 fg0_45
  have t_46 := b.size
  have z_46 : w.heap.size ≤ w12.heap.size := by omega
  have w0_47 := w0_43.same (same_below b (by omega))
  clear w0_43
  have g0_47 := g0_43.same (same_below b (by omega))
  clear g0_43
  have B_46 := B_42.trans (b.mono (by omega))
  clear B_42 b
  have a_46 := Ow.of o
  clear o
  have cw0_48 := w0_47.cells
  have fw0_48 := w0_47.free
  have cg0_49 := g0_47.cells
  have fg0_49 := g0_47.free
  go_wp2_with fail
  refine (iTapeNew_no _ n _ _ hn).mono ?_
  rintro e w13 ⟨rfl, b⟩
  clear cw0_48 fw0_48
  clear cg0_49 fg0_49
  have t_50 := b.size
  have z_50 : w.heap.size ≤ w13.heap.size := by omega
  have w0_51 := w0_47.same (same_below b (by omega))
  clear w0_47
  have g0_51 := g0_47.same (same_below b (by omega))
  clear g0_47
  have a_51 := a_46.same (same_below b (by omega))
  clear a_46
  have B_50 := B_46.trans (b.mono (by omega))
  clear B_46 b
  have cw0_52 := w0_51.cells
  have fw0_52 := w0_51.free
  have cg0_53 := g0_51.cells
  have fg0_53 := g0_51.free
  clear a_51
  clear cw0_52 fw0_52
  clear cg0_53 fg0_53
  have w0_54 := w0_51.same (same_alloc (.cells #[.slice none 0 0, .int .i64 0] 43) (by omega))
  clear w0_51
  have g0_54 := g0_51.same (same_alloc (.cells #[.slice none 0 0, .int .i64 0] 43) (by omega))
  clear g0_51
  have h0_55 : Bx (w13.alloc (.cells #[.slice none 0 0, .int .i64 0] 43)) (w13.heap.size) 43 #[.slice none 0 0, .int .i64 0] := Bx.new _ _ _
  have B_55 := B_50.alloc z_50 (.cells #[.slice none 0 0, .int .i64 0] 43)
  clear B_50
  have cw0_56 := w0_54.cells
  have fw0_56 := w0_54.free
  have cg0_57 := g0_54.cells
  have fg0_57 := g0_54.free
  have ch0_58 := h0_55.cells
  have fh0_58 := h0_55.free
  go_wp2_with fail
  refine (eqTape_same _ _ 0 _ _ [] 0 _ (rn _ _) (rn _ _) (by omega)).mono ?_
  rintro e w14 ⟨rfl, b⟩
  clear cw0_56 fw0_56
  clear cg0_57 fg0_57
  clear ch0_58 fh0_58
  simp only [World.size_alloc] at b
  have t_59 := b.size
  simp only [World.size_alloc] at t_59
  have z_59 : w.heap.size ≤ w14.heap.size := by omega
  have w0_60 := w0_54.same (same_below b (by omega))
  clear w0_54
  have g0_60 := g0_54.same (same_below b (by omega))
  clear g0_54
  have h0_60 := h0_55.same (same_below b (by omega))
  clear h0_55
  have B_59 := B_55.trans (b.mono (by omega))
  clear B_55 b
  have cw0_61 := w0_60.cells
  have fw0_61 := w0_60.free
  have cg0_62 := g0_60.cells
  have fg0_62 := g0_60.free
  have ch0_63 := h0_60.cells
  have fh0_63 := h0_60.free
  clear ch0_63 fh0_63
  clear h0_60
  clear cw0_61 fw0_61
  clear w0_60
  go_wp2_with fail
  refine (heldTape_any _ 0 _ 1 0 _ (rm _ _) (by omega) (by omega)).mono ?_
  rintro e w15 ⟨rfl, b⟩
  clear cg0_62 fg0_62
  have t_64 := b.size
  have z_64 : w.heap.size ≤ w15.heap.size := by omega
  have g0_65 := g0_60.same (same_below b (by omega))
  clear g0_60
  have B_64 := B_59.trans (b.mono (by omega))
  clear B_59 b
  have cg0_66 := g0_65.cells
  have fg0_66 := g0_65.free
  go_wp2_with fail
  go_ret
  exact ⟨rfl, B_64⟩

theorem walk (w : World) (A : Option Addr) (n c : Nat) (xs : List Int) (hl : n ≤ c) (hm : c ≤ maxLen) (hr : Rd w A n (xs.map (Value.int .u8))) (_ : ∀ z ∈ xs, (Lit.int .u8 z).wf = true) :
    Calls Try.prog 13 #[.slice A n c] w fun e w' => e = .returned (.bool true) ∧ Below w.heap.size w w' := by
  unfold maxLen at hm
  have HR := Lib.hid hr
  clear hr
  have hs : n ≤ 9223372036854775807 := by omega
  clear hm hl
  by_cases hn : n ≤ 1048576
  · by_cases h6 : n ≤ 600
    · exact walk_yes w A n c xs HR h6
    · exact walk_no w A n c xs HR h6 hn
  · go_enter Try.func13, Try.ntmps13
    go_wp2_with fail
    go_ret
    exact ⟨rfl, Below.refl _ _⟩

theorem walks : Walks 13 Try.f13 := by
  intro H enc W base args ds ps hval hA _
  rw [Try.params13] at hA hval
  obtain ⟨v0, vs0, d0, ds0, p0, q0, hargs, rfl, rfl, h0, r0⟩ := trodAll_cons hA
  obtain ⟨rfl, rfl, rfl⟩ := trodAll_nil r0
  obtain rfl : args = #[v0] := by cases args; simp_all
  obtain ⟨f0, y0, z0⟩ := slice_cell Try.underlying38 (hval 0 38 v0 rfl rfl) h0
  obtain ⟨A0, n0, c0, a0, rfl, hl0, hm0, hr0, w0⟩ := open_ints_rd Try.underlying38 (by kernel_rfl) Try.underlying5 z0
  exact walk (w := W) A0 n0 c0 a0 hl0 hm0 hr0 w0

set_option maxRecDepth 100000 in
theorem lifted (os : Os) (started : os.Started) (H : Type) (enc : TypeId × Value → H) :
    ReturnsInHanded {} Try.checked os 13 .any (Rows.fnExactTapeNewSpec.pre6 enc Try.prog Try.f13 Rows.fnExactTapeNewRow.domain false) (Rows.fnExactTapeNewSpec.post enc Try.prog Try.f13 false true false false) :=
  law_lifted started (by kernel_rfl) Try.func13
    (ChangeSpec.witness6 (enc := enc) (C := Try.checked) false ⟨#[], #[.slice none 0 0], []⟩ 8 (by kernel_rfl) (by kernel_rfl) (by kernel_rfl) (by kernel_rfl))
    rfl rfl Try.underlying4 (fun ds h => match ds, h with | [_], _ => rfl) (by
      rw [Try.params13]
      intro t ht
      simp only [List.mem_cons, List.not_mem_nil, or_false] at ht
      subst ht
      exact ⟨by kernel_rfl, of_decide_eq_true (by kernel_rfl)⟩) walks

theorem over : Rows.fnExactTapeNewRow.holds Try.pinned (OpenSpec.ofChange Rows.fnExactTapeNewSpec) :=
  OpenClaim.holds_of_wide 13 Try.f13 rfl rfl rfl rfl rfl rfl rfl ⟨rfl, rfl, rfl, rfl, rfl⟩ rfl rfl rfl rfl rfl (by kernel_rfl) Try.func13 (by kernel_rfl)
    (of_decide_eq_true (by kernel_rfl)) (by unfold Func.isWrapper; first | (rw [if_pos (by decide +kernel)]; kernel_rfl) | (rw [if_neg (by decide +kernel)]; exact ⟨rfl, rfl⟩))
    (fun os started H enc _ => lifted os started H enc)

theorem proved : Rows.FnExactTapeNewSaid := over
#print axioms proved

end LawTapeNew
end Go.Proofs.Ytccohhhnfaidhaa
