/-
  Proved: laws.FnExactTakeSubset returns true for every tape and two numbers. Conditions: none.
-/
import Derived.Test.YtfdpfeaegcfglaaTakeSub
import Derived.Test.YtfdpfeaegcfglaaInts
import Derived.Test.YtfdpfeaegcfglaaObj
import Derived.Test.YtfdpfeaegcfglaaOpen
namespace Go.Proofs.Ytfdpfeaegcfglaa
open Go.ChangeShapes Go.WideShapes Go.ChangeAt Go.RowKit Go.Deep
namespace LawTakeSubset
set_option linter.unusedSimpArgs false
set_option linter.unusedVariables false
/-- toTape, read from an earlier world on. -/
theorem toT (A : Option Addr) (n c : Nat) (xs : List Int) (i : Int) (w W0 : World) (B : Nat) (h : Rd w A n (xs.map (Value.int .u8))) (hn : n ≤ 1073741824) (hB : Below B W0 w) (hs : B ≤ W0.heap.size) :
    Calls Try.prog 42 #[.agg #[.slice A n c, .int .i64 i]] w fun e w' => (∃ g, e = .returned (.agg #[.slice (some ⟨g, 0, none⟩) n n, .int .i64 i]) ∧ w'.ownsRow w.heap.size 5 1 (.slice (some ⟨g, 0, none⟩) n n) n (xs.map (Value.int .u8))) ∧ Below B W0 w' :=
  lift ((toTape_any A n c xs i w h hn).mono fun _ _ ⟨g, h1, h2, h3⟩ => ⟨⟨g, h1, h2⟩, h3⟩) hB hs
theorem markIntS_nil (k : Nat) (w : World) (hk : k ≤ 1099511627776) : Calls Try.prog 25 #[.slice none 0 0, .int .i64 k] w fun e w' => e = .returned (.int .i64 ((k + 0 : Nat) : Int)) ∧ Below w.heap.size w w' :=
  (markIntS_any 0 0 0 k none [] w (World.ownsRow_nil _ _ _ _) (by omega) hk).mono fun e w' ⟨h1, _, h3, _⟩ => ⟨h1, (Below.refl _ _).grown h3 (Nat.le_refl _) (fun k hk => by simp [Value.ownBlock] at hk)⟩

theorem tb_k {xs : List Int} {n : Nat} {i nn k : Int} (hu : ∀ z ∈ xs, 0 ≤ z ∧ z ≤ 255) (h : tbB n i (binI nn k) = true) : k.toNat ≤ 1073741824 := by
  obtain ⟨N, K, R, rfl, rfl, _, h1, h2, h3, _⟩ := subOk_nat (subOk_of_tb hu h)
  simp only [Int.toNat_natCast]; omega

set_option maxHeartbeats 4000000 in
theorem walk_yes (w : World) (A : Option Addr) (n c : Nat) (xs : List Int) (i nn k : Int) (hn : n ≤ 1048576) (HR : Hid (Rd w A n (xs.map (Value.int .u8)))) (HU : Hid (∀ z ∈ xs, 0 ≤ z ∧ z ≤ 255)) (HN : Hid (k.toNat ≤ 1073741824)) (HT : Hid (tbB n i (binI nn k) = true)) :
    Calls Try.prog 14 #[.agg #[.slice A n c, .int .i64 i], .int .i64 nn, .int .i64 k] w fun e w' => e = .returned (.bool true) ∧ Below w.heap.size w w' := by
  have HZ := Lib.hid (show szI 1048576 n = 1048576 - n by unfold szI; rw [if_neg (by omega)])
  have B0 := Below.refl w.heap.size w
  have s0 : w.heap.size ≤ w.heap.size := Nat.le_refl _
  go_enter Try.func14, Try.ntmps14
  have a_2 : Bx (w.alloc (.cells #[.slice A n c, .int .i64 i] 47)) (w.heap.size) 47 #[.slice A n c, .int .i64 i] := Bx.new _ _ _
  have B_2 := B0.alloc s0 (.cells #[.slice A n c, .int .i64 i] 47)
  clear B0
  have ca_3 := a_2.cells
  have fa_3 := a_2.free
  go_wp2_with fail
  refine (szTape_any A n c i 1048576 (by omega) (by omega) (by omega) _).mono ?_
  rw [HZ.out]
  rintro e w1 ⟨rfl, b⟩
  clear ca_3 fa_3
  simp only [World.size_alloc] at b
  have t_4 := b.size
  simp only [World.size_alloc] at t_4
  have z_4 : w.heap.size ≤ w1.heap.size := by omega
  have a_5 := a_2.same (same_below b (by omega))
  clear a_2
  have B_4 := B_2.trans (b.mono (by omega))
  clear B_2 b
  have ca_6 := a_5.cells
  have fa_6 := a_5.free
  go_wp2_with fail
  refine (toTape_any A n c xs i _ (HR.out.below B_4 (Nat.le_refl _)) (by omega)).mono ?_
  rintro e w2 ⟨g1, rfl, o, b⟩
  clear ca_6 fa_6
  have t_7 := b.size
  have z_7 : w.heap.size ≤ w2.heap.size := by omega
  have a_8 := a_5.same (same_below b (by omega))
  clear a_5
  have B_7 := B_4.trans (b.mono (by omega))
  clear B_4 b
  have d_7 := Ow.of o
  clear o
  have ca_9 := a_8.cells
  have fa_9 := a_8.free
  go_wp2_with fail
  refine (sTakeSubset_yes _ n _ _ xs i nn k _ d_7.own (by omega) HU.out HT.out).mono ?_
  rintro e w3 ⟨A1, c1, P1, r1, md1, rfl, o, oi, ⟨mL1, mH1⟩, b⟩
  clear ca_9 fa_9
  have t_10 := b.size
  have z_10 : w.heap.size ≤ w3.heap.size := by omega
  have a_11 := a_8.same (same_below b (by omega))
  clear a_8
  have d_11 := d_7.same (same_below b (by omega))
  clear d_7
  have B_10 := B_7.trans (b.mono (by omega))
  clear B_7 b
  have wr_10 := o
  clear o
  have wl_10 := oi
  clear oi
  have ca_12 := a_11.cells
  have fa_12 := a_11.free
  clear d_11
  clear ca_12 fa_12
  have a_13 := a_11.same (same_alloc (.cells #[.slice A1 n c1, .int .i64 (tbAt n i (binI nn k))] 49) (by omega))
  clear a_11
  have wr_13 := wr_10.same (same_alloc (.cells #[.slice A1 n c1, .int .i64 (tbAt n i (binI nn k))] 49) (by omega))
  clear wr_10
  have wl_13 := wl_10.same (same_alloc (.cells #[.slice A1 n c1, .int .i64 (tbAt n i (binI nn k))] 49) (by omega))
  clear wl_10
  have w0_14 : Bx (w3.alloc (.cells #[.slice A1 n c1, .int .i64 (tbAt n i (binI nn k))] 49)) (w3.heap.size) 49 #[.slice A1 n c1, .int .i64 (tbAt n i (binI nn k))] := Bx.new _ _ _
  have B_14 := B_10.alloc z_10 (.cells #[.slice A1 n c1, .int .i64 (tbAt n i (binI nn k))] 49)
  clear B_10
  have ca_15 := a_13.cells
  have fa_15 := a_13.free
  have cw0_16 := w0_14.cells
  have fw0_16 := w0_14.free
  go_wp2_with fail
  refine (toTape_any A n c xs i _ (HR.out.below B_14 (Nat.le_refl _)) (by omega)).mono ?_
  rintro e w4 ⟨g2, rfl, o, b⟩
  clear ca_15 fa_15
  clear cw0_16 fw0_16
  simp only [World.size_alloc] at b o
  have t_17 := b.size
  simp only [World.size_alloc] at t_17
  have z_17 : w.heap.size ≤ w4.heap.size := by omega
  have a_18 := a_13.same (same_below b (by omega))
  clear a_13
  have wr_18 := wr_13.same (same_below b (by omega))
  clear wr_13
  have wl_18 := wl_13.same (same_below b (by omega))
  clear wl_13
  have w0_18 := w0_14.same (same_below b (by omega))
  clear w0_14
  have B_17 := B_14.trans (b.mono (by omega))
  clear B_14 b
  have x_17 := Ow.of o
  clear o
  have ca_19 := a_18.cells
  have fa_19 := a_18.free
  have cw0_20 := w0_18.cells
  have fw0_20 := w0_18.free
  clear ca_19 fa_19
  clear cw0_20 fw0_20
  have a_21 := a_18.same (same_alloc (.cells #[.slice (some ⟨g2, 0, none⟩) n n, .int .i64 i] 49) (by omega))
  clear a_18
  have wr_21 := wr_18.same (same_alloc (.cells #[.slice (some ⟨g2, 0, none⟩) n n, .int .i64 i] 49) (by omega))
  clear wr_18
  have wl_21 := wl_18.same (same_alloc (.cells #[.slice (some ⟨g2, 0, none⟩) n n, .int .i64 i] 49) (by omega))
  clear wl_18
  have w0_21 := w0_18.same (same_alloc (.cells #[.slice (some ⟨g2, 0, none⟩) n n, .int .i64 i] 49) (by omega))
  clear w0_18
  have x_21 := x_17.same (same_alloc (.cells #[.slice (some ⟨g2, 0, none⟩) n n, .int .i64 i] 49) (by omega))
  clear x_17
  have x0_22 : Bx (w4.alloc (.cells #[.slice (some ⟨g2, 0, none⟩) n n, .int .i64 i] 49)) (w4.heap.size) 49 #[.slice (some ⟨g2, 0, none⟩) n n, .int .i64 i] := Bx.new _ _ _
  have B_22 := B_17.alloc z_17 (.cells #[.slice (some ⟨g2, 0, none⟩) n n, .int .i64 i] 49)
  clear B_17
  have ca_23 := a_21.cells
  have fa_23 := a_21.free
  have cw0_24 := w0_21.cells
  have fw0_24 := w0_21.free
  have cx0_25 := x0_22.cells
  have fx0_25 := x0_22.free
  go_wp2_with fail
  refine (iTakeSubset_yes _ n _ _ xs i nn k _ x_21.own (by omega) HU.out HT.out).mono ?_
  rintro e w5 ⟨A2, c2, P2, r2, md2, rfl, o, oi, ⟨mL2, mH2⟩, b⟩
  clear ca_23 fa_23
  clear cw0_24 fw0_24
  clear cx0_25 fx0_25
  simp only [World.size_alloc] at b o oi mL2 mH2
  have t_26 := b.size
  simp only [World.size_alloc] at t_26
  have z_26 : w.heap.size ≤ w5.heap.size := by omega
  have a_27 := a_21.same (same_below b (by omega))
  clear a_21
  have wr_27 := wr_21.same (same_below b (by omega))
  clear wr_21
  have wl_27 := wl_21.same (same_below b (by omega))
  clear wl_21
  have w0_27 := w0_21.same (same_below b (by omega))
  clear w0_21
  have x_27 := x_21.same (same_below b (by omega))
  clear x_21
  have x0_27 := x0_22.same (same_below b (by omega))
  clear x0_22
  have B_26 := B_22.trans (b.mono (by omega))
  clear B_22 b
  have gr_26 := o
  clear o
  have gl_26 := oi
  clear oi
  have ca_28 := a_27.cells
  have fa_28 := a_27.free
  have cw0_29 := w0_27.cells
  have fw0_29 := w0_27.free
  have cx0_30 := x0_27.cells
  have fx0_30 := x0_27.free
  clear ca_28 fa_28
  clear cw0_29 fw0_29
  clear cx0_30 fx0_30
  have a_31 := a_27.same (same_alloc (.cells #[.slice A2 n c2, .int .i64 (tbAt n i (binI nn k))] 49) (by omega))
  clear a_27
  have wr_31 := wr_27.same (same_alloc (.cells #[.slice A2 n c2, .int .i64 (tbAt n i (binI nn k))] 49) (by omega))
  clear wr_27
  have wl_31 := wl_27.same (same_alloc (.cells #[.slice A2 n c2, .int .i64 (tbAt n i (binI nn k))] 49) (by omega))
  clear wl_27
  have w0_31 := w0_27.same (same_alloc (.cells #[.slice A2 n c2, .int .i64 (tbAt n i (binI nn k))] 49) (by omega))
  clear w0_27
  have x_31 := x_27.same (same_alloc (.cells #[.slice A2 n c2, .int .i64 (tbAt n i (binI nn k))] 49) (by omega))
  clear x_27
  have x0_31 := x0_27.same (same_alloc (.cells #[.slice A2 n c2, .int .i64 (tbAt n i (binI nn k))] 49) (by omega))
  clear x0_27
  have gr_31 := gr_26.same (same_alloc (.cells #[.slice A2 n c2, .int .i64 (tbAt n i (binI nn k))] 49) (by omega))
  clear gr_26
  have gl_31 := gl_26.same (same_alloc (.cells #[.slice A2 n c2, .int .i64 (tbAt n i (binI nn k))] 49) (by omega))
  clear gl_26
  have g0_32 : Bx (w5.alloc (.cells #[.slice A2 n c2, .int .i64 (tbAt n i (binI nn k))] 49)) (w5.heap.size) 49 #[.slice A2 n c2, .int .i64 (tbAt n i (binI nn k))] := Bx.new _ _ _
  have B_32 := B_26.alloc z_26 (.cells #[.slice A2 n c2, .int .i64 (tbAt n i (binI nn k))] 49)
  clear B_26
  have ca_33 := a_31.cells
  have fa_33 := a_31.free
  have cw0_34 := w0_31.cells
  have fw0_34 := w0_31.free
  have cx0_35 := x0_31.cells
  have fx0_35 := x0_31.free
  have cg0_36 := g0_32.cells
  have fg0_36 := g0_32.free
  go_wp2_with fail
  refine (eqTape_same _ _ n _ _ xs (tbAt n i (binI nn k)) _ gr_31.rd wr_31.rd (by omega)).mono ?_
  rintro e w6 ⟨rfl, b⟩
  clear ca_33 fa_33
  clear cw0_34 fw0_34
  clear cx0_35 fx0_35
  clear cg0_36 fg0_36
  simp only [World.size_alloc] at b
  have t_37 := b.size
  simp only [World.size_alloc] at t_37
  have z_37 : w.heap.size ≤ w6.heap.size := by omega
  have a_38 := a_31.same (same_below b (by omega))
  clear a_31
  have wr_38 := wr_31.same (same_below b (by omega))
  clear wr_31
  have wl_38 := wl_31.same (same_below b (by omega))
  clear wl_31
  have w0_38 := w0_31.same (same_below b (by omega))
  clear w0_31
  have x_38 := x_31.same (same_below b (by omega))
  clear x_31
  have x0_38 := x0_31.same (same_below b (by omega))
  clear x0_31
  have gr_38 := gr_31.same (same_below b (by omega))
  clear gr_31
  have gl_38 := gl_31.same (same_below b (by omega))
  clear gl_31
  have g0_38 := g0_32.same (same_below b (by omega))
  clear g0_32
  have B_37 := B_32.trans (b.mono (by omega))
  clear B_32 b
  have ca_39 := a_38.cells
  have fa_39 := a_38.free
  have cw0_40 := w0_38.cells
  have fw0_40 := w0_38.free
  have cx0_41 := x0_38.cells
  have fx0_41 := x0_38.free
  have cg0_42 := g0_38.cells
  have fg0_42 := g0_38.free
  go_wp2_with fail
  refine (eqIntS_same _ _ k.toNat _ _ (subI nn k (tbV xs n i (binI nn k))) _ gl_38.rd wl_38.rd HN.out).mono ?_
  rintro e w7 ⟨rfl, b⟩
  clear ca_39 fa_39
  clear cw0_40 fw0_40
  clear cx0_41 fx0_41
  clear cg0_42 fg0_42
  have t_43 := b.size
  have z_43 : w.heap.size ≤ w7.heap.size := by omega
  have a_44 := a_38.same (same_below b (by omega))
  clear a_38
  have wr_44 := wr_38.same (same_below b (by omega))
  clear wr_38
  have wl_44 := wl_38.same (same_below b (by omega))
  clear wl_38
  have w0_44 := w0_38.same (same_below b (by omega))
  clear w0_38
  have x_44 := x_38.same (same_below b (by omega))
  clear x_38
  have x0_44 := x0_38.same (same_below b (by omega))
  clear x0_38
  have gr_44 := gr_38.same (same_below b (by omega))
  clear gr_38
  have gl_44 := gl_38.same (same_below b (by omega))
  clear gl_38
  have g0_44 := g0_38.same (same_below b (by omega))
  clear g0_38
  have B_43 := B_37.trans (b.mono (by omega))
  clear B_37 b
  have ca_45 := a_44.cells
  have fa_45 := a_44.free
  have cw0_46 := w0_44.cells
  have fw0_46 := w0_44.free
  have cx0_47 := x0_44.cells
  have fx0_47 := x0_44.free
  have cg0_48 := g0_44.cells
  have fg0_48 := g0_44.free
  go_wp2_with fail
  have la_49 := a_44.lt
  have da0_49 : w7.cell? ⟨w.heap.size, 0, none⟩ = some (.slice A n c) := a_44.cells 0
  have da1_49 : w7.cell? ⟨w.heap.size, 1, none⟩ = some (.int .i64 i) := a_44.cells 1
  have lx0_49 := x0_44.lt
  have dx00_49 : w7.cell? ⟨w4.heap.size, 0, none⟩ = some (.slice (some ⟨g2, 0, none⟩) n n) := x0_44.cells 0
  have dx01_49 : w7.cell? ⟨w4.heap.size, 1, none⟩ = some (.int .i64 i) := x0_44.cells 1
  clear ca_45 fa_45
  clear cw0_46 fw0_46
  clear cx0_47 fx0_47
  clear cg0_48 fg0_48
  have HA_49 := Lib.hid B_43
  go_region_held3 (fun w' => w'.cell? ⟨w.heap.size, 0, none⟩ = some (.slice A n c) ∧ w'.cell? ⟨w.heap.size, 1, none⟩ = some (.int .i64 i) ∧ w'.cell? ⟨w4.heap.size, 0, none⟩ = some (.slice (some ⟨g2, 0, none⟩) n n) ∧ w'.cell? ⟨w4.heap.size, 1, none⟩ = some (.int .i64 i) ∧ Below w7.heap.size w7 w')
    (first
      | exact ⟨da0_49, da1_49, dx00_49, dx01_49, (Below.refl _ _).drew⟩
      | exact ⟨(Below.cell (p := ⟨w.heap.size, 0, none⟩) b7 la_49).trans da0_49, (Below.cell (p := ⟨w.heap.size, 1, none⟩) b7 la_49).trans da1_49, (Below.cell (p := ⟨w4.heap.size, 0, none⟩) b7 lx0_49).trans dx00_49, (Below.cell (p := ⟨w4.heap.size, 1, none⟩) b7 lx0_49).trans dx01_49, b7⟩
      | exact ⟨(Below.cell (p := ⟨w.heap.size, 0, none⟩) b6 la_49).trans da0_49, (Below.cell (p := ⟨w.heap.size, 1, none⟩) b6 la_49).trans da1_49, (Below.cell (p := ⟨w4.heap.size, 0, none⟩) b6 lx0_49).trans dx00_49, (Below.cell (p := ⟨w4.heap.size, 1, none⟩) b6 lx0_49).trans dx01_49, b6⟩)
    (first
      | (go_at_call 42; go_split_ands; refine (toT A n c xs i _ w7 w7.heap.size (HR.out.below (HA_49.out.trans (Below.mono (by assumption) HA_49.out.size)) (Nat.le_refl _)) (by omega) (by assumption) (Nat.le_refl _)).mono ?_; rintro e w' ⟨⟨g9, rfl, o6⟩, b6⟩)
      | (go_at_call 44; refine (lift (eqTape_same _ _ _ _ _ xs i _ (x_44.rd.below (by assumption) (Nat.le_refl _)) (Rd.of_own o6) (by omega)) (by assumption) (Nat.le_refl _)).mono ?_; rintro e w8 ⟨rfl, b7⟩))
  have t_49 := b7.size
  have z_49 : w.heap.size ≤ w8.heap.size := by omega
  have a_50 := a_44.same (same_below b7 (by omega))
  clear a_44
  have wr_50 := wr_44.same (same_below b7 (by omega))
  clear wr_44
  have wl_50 := wl_44.same (same_below b7 (by omega))
  clear wl_44
  have w0_50 := w0_44.same (same_below b7 (by omega))
  clear w0_44
  have x_50 := x_44.same (same_below b7 (by omega))
  clear x_44
  have x0_50 := x0_44.same (same_below b7 (by omega))
  clear x0_44
  have gr_50 := gr_44.same (same_below b7 (by omega))
  clear gr_44
  have gl_50 := gl_44.same (same_below b7 (by omega))
  clear gl_44
  have g0_50 := g0_44.same (same_below b7 (by omega))
  clear g0_44
  have B_49 := B_43.trans (b7.mono (by omega))
  clear B_43 b7
  have ca_51 := a_50.cells
  have fa_51 := a_50.free
  have cw0_52 := w0_50.cells
  have fw0_52 := w0_50.free
  have cx0_53 := x0_50.cells
  have fx0_53 := x0_50.free
  have cg0_54 := g0_50.cells
  have fg0_54 := g0_50.free
  go_wp2_with fail
  refine (markTape_any _ n _ 1 _ _ i _ x_50.own (by omega) (by omega)).mono ?_
  rintro e w9 ⟨rfl, o, gg⟩
  clear ca_51 fa_51
  clear cw0_52 fw0_52
  clear cx0_53 fx0_53
  clear cg0_54 fg0_54
  have n_55 := Ow.only x_50 gg
  have t_55 := n_55.size
  have z_55 : w.heap.size ≤ w9.heap.size := by omega
  have a_56 := a_50.same (same_only n_55 (by omega) (by omega))
  clear a_50
  have wr_56 := wr_50.same (same_only n_55 (by omega) (by omega))
  clear wr_50
  have wl_56 := wl_50.same (same_only n_55 (by omega) (by omega))
  clear wl_50
  have w0_56 := w0_50.same (same_only n_55 (by omega) (by omega))
  clear w0_50
  have x0_56 := x0_50.same (same_only n_55 (by omega) (by omega))
  clear x0_50
  have gr_56 := gr_50.same (same_only n_55 (by omega) (by omega))
  clear gr_50
  have gl_56 := gl_50.same (same_only n_55 (by omega) (by omega))
  clear gl_50
  have g0_56 := g0_50.same (same_only n_55 (by omega) (by omega))
  clear g0_50
  have x_55 : Ow _ _ _ w9 _ _ _ _ := ⟨o, x_50.top⟩
  clear x_50 o gg
  have B_55 := B_49.trans (n_55.below (by omega) (by omega))
  clear B_49 n_55
  have ca_57 := a_56.cells
  have fa_57 := a_56.free
  have cw0_58 := w0_56.cells
  have fw0_58 := w0_56.free
  have cx0_59 := x0_56.cells
  have fx0_59 := x0_56.free
  have cg0_60 := g0_56.cells
  have fg0_60 := g0_56.free
  go_wp2_with fail
  refine (eqTape_same _ _ n _ _ xs (tbAt n i (binI nn k)) _ gr_56.rd wr_56.rd (by omega)).mono ?_
  rintro e w10 ⟨rfl, b⟩
  clear ca_57 fa_57
  clear cw0_58 fw0_58
  clear cx0_59 fx0_59
  clear cg0_60 fg0_60
  have t_61 := b.size
  have z_61 : w.heap.size ≤ w10.heap.size := by omega
  have a_62 := a_56.same (same_below b (by omega))
  clear a_56
  have wr_62 := wr_56.same (same_below b (by omega))
  clear wr_56
  have wl_62 := wl_56.same (same_below b (by omega))
  clear wl_56
  have w0_62 := w0_56.same (same_below b (by omega))
  clear w0_56
  have x_62 := x_55.same (same_below b (by omega))
  clear x_55
  have x0_62 := x0_56.same (same_below b (by omega))
  clear x0_56
  have gr_62 := gr_56.same (same_below b (by omega))
  clear gr_56
  have gl_62 := gl_56.same (same_below b (by omega))
  clear gl_56
  have g0_62 := g0_56.same (same_below b (by omega))
  clear g0_56
  have B_61 := B_55.trans (b.mono (by omega))
  clear B_55 b
  have ca_63 := a_62.cells
  have fa_63 := a_62.free
  have cw0_64 := w0_62.cells
  have fw0_64 := w0_62.free
  have cx0_65 := x0_62.cells
  have fx0_65 := x0_62.free
  have cg0_66 := g0_62.cells
  have fg0_66 := g0_62.free
  go_wp2_with fail
  refine (eqIntS_same _ _ k.toNat _ _ (subI nn k (tbV xs n i (binI nn k))) _ gl_62.rd wl_62.rd HN.out).mono ?_
  rintro e w11 ⟨rfl, b⟩
  clear ca_63 fa_63
  clear cw0_64 fw0_64
  clear cx0_65 fx0_65
  clear cg0_66 fg0_66
  have t_67 := b.size
  have z_67 : w.heap.size ≤ w11.heap.size := by omega
  have a_68 := a_62.same (same_below b (by omega))
  clear a_62
  have wr_68 := wr_62.same (same_below b (by omega))
  clear wr_62
  have wl_68 := wl_62.same (same_below b (by omega))
  clear wl_62
  have w0_68 := w0_62.same (same_below b (by omega))
  clear w0_62
  have x_68 := x_62.same (same_below b (by omega))
  clear x_62
  have x0_68 := x0_62.same (same_below b (by omega))
  clear x0_62
  have gr_68 := gr_62.same (same_below b (by omega))
  clear gr_62
  have gl_68 := gl_62.same (same_below b (by omega))
  clear gl_62
  have g0_68 := g0_62.same (same_below b (by omega))
  clear g0_62
  have B_67 := B_61.trans (b.mono (by omega))
  clear B_61 b
  have ca_69 := a_68.cells
  have fa_69 := a_68.free
  have cw0_70 := w0_68.cells
  have fw0_70 := w0_68.free
  have cx0_71 := x0_68.cells
  have fx0_71 := x0_68.free
  have cg0_72 := g0_68.cells
  have fg0_72 := g0_68.free
  clear x_68
  clear cx0_71 fx0_71
  clear x0_68
  go_wp2_with fail
  refine (markTape_any _ n _ 1 _ _ (tbAt n i (binI nn k)) _ gr_68.own (by omega) (by omega)).mono ?_
  rintro e w12 ⟨rfl, o, gg⟩
  clear ca_69 fa_69
  clear cw0_70 fw0_70
  clear cg0_72 fg0_72
  have n_73 := Ow.only gr_68 gg
  have t_73 := n_73.size
  have z_73 : w.heap.size ≤ w12.heap.size := by omega
  have a_74 := a_68.same (same_only n_73 (by omega) (by omega))
  clear a_68
  have wr_74 := wr_68.same (same_only n_73 (by omega) (by omega))
  clear wr_68
  have wl_74 := wl_68.same (same_only n_73 (by omega) (by omega))
  clear wl_68
  have w0_74 := w0_68.same (same_only n_73 (by omega) (by omega))
  clear w0_68
  have gl_74 := gl_68.same (same_only n_73 (by omega) (by omega))
  clear gl_68
  have g0_74 := g0_68.same (same_only n_73 (by omega) (by omega))
  clear g0_68
  have gr_73 : Ow _ _ _ w12 _ _ _ _ := ⟨o, gr_68.top⟩
  clear gr_68 o gg
  have B_73 := B_67.trans (n_73.below (by omega) (by omega))
  clear B_67 n_73
  have ca_75 := a_74.cells
  have fa_75 := a_74.free
  have cw0_76 := w0_74.cells
  have fw0_76 := w0_74.free
  have cg0_77 := g0_74.cells
  have fg0_77 := g0_74.free
  go_wp2_with fail
  refine (markIntS_any _ k.toNat _ (1 + n) _ _ _ gl_74.own HN.out (by omega)).mono ?_
  rintro e w13 ⟨rfl, o, gg, zz⟩
  clear ca_75 fa_75
  clear cw0_76 fw0_76
  clear cg0_77 fg0_77
  have n_78 := Ow.only gl_74 gg
  have t_78 := n_78.size
  have z_78 : w.heap.size ≤ w13.heap.size := by omega
  have a_79 := a_74.same (same_only n_78 (by omega) (by omega))
  clear a_74
  have wr_79 := wr_74.same (same_only n_78 (by omega) (by omega))
  clear wr_74
  have wl_79 := wl_74.same (same_only n_78 (by omega) (by omega))
  clear wl_74
  have w0_79 := w0_74.same (same_only n_78 (by omega) (by omega))
  clear w0_74
  have gr_79 := gr_73.same (same_only n_78 (by omega) (by omega))
  clear gr_73
  have g0_79 := g0_74.same (same_only n_78 (by omega) (by omega))
  clear g0_74
  have gl_78 : Ow _ _ _ w13 _ _ _ _ := ⟨o, gl_74.top⟩
  clear gl_74 o gg
  have B_78 := B_73.trans (n_78.below (by omega) (by omega))
  clear B_73 n_78
  clear zz
  have ca_80 := a_79.cells
  have fa_80 := a_79.free
  have cw0_81 := w0_79.cells
  have fw0_81 := w0_79.free
  have cg0_82 := g0_79.cells
  have fg0_82 := g0_79.free
  go_wp2_with fail
  refine (heldTape_any _ n _ 1 (tbAt n i (binI nn k)) _ gr_79.rd (by omega) (by omega)).mono ?_
  rintro e w14 ⟨rfl, b⟩
  clear ca_80 fa_80
  clear cw0_81 fw0_81
  clear cg0_82 fg0_82
  have t_83 := b.size
  have z_83 : w.heap.size ≤ w14.heap.size := by omega
  have a_84 := a_79.same (same_below b (by omega))
  clear a_79
  have wr_84 := wr_79.same (same_below b (by omega))
  clear wr_79
  have wl_84 := wl_79.same (same_below b (by omega))
  clear wl_79
  have w0_84 := w0_79.same (same_below b (by omega))
  clear w0_79
  have gr_84 := gr_79.same (same_below b (by omega))
  clear gr_79
  have gl_84 := gl_78.same (same_below b (by omega))
  clear gl_78
  have g0_84 := g0_79.same (same_below b (by omega))
  clear g0_79
  have B_83 := B_78.trans (b.mono (by omega))
  clear B_78 b
  have ca_85 := a_84.cells
  have fa_85 := a_84.free
  have cw0_86 := w0_84.cells
  have fw0_86 := w0_84.free
  have cg0_87 := g0_84.cells
  have fg0_87 := g0_84.free
  go_wp2_with fail
  refine (heldIntS_any _ k.toNat _ (1 + n) _ gl_84.rd HN.out (by omega)).mono ?_
  rintro e w15 ⟨rfl, rfl⟩
  go_wp2_with fail
  refine (toTape_any A n c xs i _ (HR.out.below B_83 (Nat.le_refl _)) (by omega)).mono ?_
  rintro e w15 ⟨g3, rfl, o, b⟩
  clear ca_85 fa_85
  clear cw0_86 fw0_86
  clear cg0_87 fg0_87
  have t_88 := b.size
  have z_88 : w.heap.size ≤ w15.heap.size := by omega
  have a_89 := a_84.same (same_below b (by omega))
  clear a_84
  have wr_89 := wr_84.same (same_below b (by omega))
  clear wr_84
  have wl_89 := wl_84.same (same_below b (by omega))
  clear wl_84
  have w0_89 := w0_84.same (same_below b (by omega))
  clear w0_84
  have gr_89 := gr_84.same (same_below b (by omega))
  clear gr_84
  have gl_89 := gl_84.same (same_below b (by omega))
  clear gl_84
  have g0_89 := g0_84.same (same_below b (by omega))
  clear g0_84
  have B_88 := B_83.trans (b.mono (by omega))
  clear B_83 b
  have d_88 := Ow.of o
  clear o
  have ca_90 := a_89.cells
  have fa_90 := a_89.free
  have cw0_91 := w0_89.cells
  have fw0_91 := w0_89.free
  have cg0_92 := g0_89.cells
  have fg0_92 := g0_89.free
  go_wp2_with fail
  refine (iTakeSubset_yes _ n _ _ xs i nn k _ d_88.own (by omega) HU.out HT.out).mono ?_
  rintro e w16 ⟨A3, c3, P3, r3, md3, rfl, o, oi, ⟨mL3, mH3⟩, b⟩
  clear ca_90 fa_90
  clear cw0_91 fw0_91
  clear cg0_92 fg0_92
  have t_93 := b.size
  have z_93 : w.heap.size ≤ w16.heap.size := by omega
  have a_94 := a_89.same (same_below b (by omega))
  clear a_89
  have wr_94 := wr_89.same (same_below b (by omega))
  clear wr_89
  have wl_94 := wl_89.same (same_below b (by omega))
  clear wl_89
  have w0_94 := w0_89.same (same_below b (by omega))
  clear w0_89
  have gr_94 := gr_89.same (same_below b (by omega))
  clear gr_89
  have gl_94 := gl_89.same (same_below b (by omega))
  clear gl_89
  have g0_94 := g0_89.same (same_below b (by omega))
  clear g0_89
  have d_94 := d_88.same (same_below b (by omega))
  clear d_88
  have B_93 := B_88.trans (b.mono (by omega))
  clear B_88 b
  have hr_93 := o
  clear o
  have hl_93 := oi
  clear oi
  have ca_95 := a_94.cells
  have fa_95 := a_94.free
  have cw0_96 := w0_94.cells
  have fw0_96 := w0_94.free
  have cg0_97 := g0_94.cells
  have fg0_97 := g0_94.free
  clear d_94
  clear ca_95 fa_95
  clear cw0_96 fw0_96
  clear cg0_97 fg0_97
  have a_98 := a_94.same (same_alloc (.cells #[.slice A3 n c3, .int .i64 (tbAt n i (binI nn k))] 49) (by omega))
  clear a_94
  have wr_98 := wr_94.same (same_alloc (.cells #[.slice A3 n c3, .int .i64 (tbAt n i (binI nn k))] 49) (by omega))
  clear wr_94
  have wl_98 := wl_94.same (same_alloc (.cells #[.slice A3 n c3, .int .i64 (tbAt n i (binI nn k))] 49) (by omega))
  clear wl_94
  have w0_98 := w0_94.same (same_alloc (.cells #[.slice A3 n c3, .int .i64 (tbAt n i (binI nn k))] 49) (by omega))
  clear w0_94
  have gr_98 := gr_94.same (same_alloc (.cells #[.slice A3 n c3, .int .i64 (tbAt n i (binI nn k))] 49) (by omega))
  clear gr_94
  have gl_98 := gl_94.same (same_alloc (.cells #[.slice A3 n c3, .int .i64 (tbAt n i (binI nn k))] 49) (by omega))
  clear gl_94
  have g0_98 := g0_94.same (same_alloc (.cells #[.slice A3 n c3, .int .i64 (tbAt n i (binI nn k))] 49) (by omega))
  clear g0_94
  have hr_98 := hr_93.same (same_alloc (.cells #[.slice A3 n c3, .int .i64 (tbAt n i (binI nn k))] 49) (by omega))
  clear hr_93
  have hl_98 := hl_93.same (same_alloc (.cells #[.slice A3 n c3, .int .i64 (tbAt n i (binI nn k))] 49) (by omega))
  clear hl_93
  have h0_99 : Bx (w16.alloc (.cells #[.slice A3 n c3, .int .i64 (tbAt n i (binI nn k))] 49)) (w16.heap.size) 49 #[.slice A3 n c3, .int .i64 (tbAt n i (binI nn k))] := Bx.new _ _ _
  have B_99 := B_93.alloc z_93 (.cells #[.slice A3 n c3, .int .i64 (tbAt n i (binI nn k))] 49)
  clear B_93
  have ca_100 := a_98.cells
  have fa_100 := a_98.free
  have cw0_101 := w0_98.cells
  have fw0_101 := w0_98.free
  have cg0_102 := g0_98.cells
  have fg0_102 := g0_98.free
  have ch0_103 := h0_99.cells
  have fh0_103 := h0_99.free
  go_wp2_with fail
  refine (eqTape_same _ _ n _ _ xs (tbAt n i (binI nn k)) _ hr_98.rd wr_98.rd (by omega)).mono ?_
  rintro e w17 ⟨rfl, b⟩
  clear ca_100 fa_100
  clear cw0_101 fw0_101
  clear cg0_102 fg0_102
  clear ch0_103 fh0_103
  simp only [World.size_alloc] at b
  have t_104 := b.size
  simp only [World.size_alloc] at t_104
  have z_104 : w.heap.size ≤ w17.heap.size := by omega
  have a_105 := a_98.same (same_below b (by omega))
  clear a_98
  have wr_105 := wr_98.same (same_below b (by omega))
  clear wr_98
  have wl_105 := wl_98.same (same_below b (by omega))
  clear wl_98
  have w0_105 := w0_98.same (same_below b (by omega))
  clear w0_98
  have gr_105 := gr_98.same (same_below b (by omega))
  clear gr_98
  have gl_105 := gl_98.same (same_below b (by omega))
  clear gl_98
  have g0_105 := g0_98.same (same_below b (by omega))
  clear g0_98
  have hr_105 := hr_98.same (same_below b (by omega))
  clear hr_98
  have hl_105 := hl_98.same (same_below b (by omega))
  clear hl_98
  have h0_105 := h0_99.same (same_below b (by omega))
  clear h0_99
  have B_104 := B_99.trans (b.mono (by omega))
  clear B_99 b
  have ca_106 := a_105.cells
  have fa_106 := a_105.free
  have cw0_107 := w0_105.cells
  have fw0_107 := w0_105.free
  have cg0_108 := g0_105.cells
  have fg0_108 := g0_105.free
  have ch0_109 := h0_105.cells
  have fh0_109 := h0_105.free
  go_wp2_with fail
  refine (eqIntS_same _ _ k.toNat _ _ (subI nn k (tbV xs n i (binI nn k))) _ hl_105.rd wl_105.rd HN.out).mono ?_
  rintro e w18 ⟨rfl, b⟩
  clear ca_106 fa_106
  clear cw0_107 fw0_107
  clear cg0_108 fg0_108
  clear ch0_109 fh0_109
  have t_110 := b.size
  have z_110 : w.heap.size ≤ w18.heap.size := by omega
  have a_111 := a_105.same (same_below b (by omega))
  clear a_105
  have wr_111 := wr_105.same (same_below b (by omega))
  clear wr_105
  have wl_111 := wl_105.same (same_below b (by omega))
  clear wl_105
  have w0_111 := w0_105.same (same_below b (by omega))
  clear w0_105
  have gr_111 := gr_105.same (same_below b (by omega))
  clear gr_105
  have gl_111 := gl_105.same (same_below b (by omega))
  clear gl_105
  have g0_111 := g0_105.same (same_below b (by omega))
  clear g0_105
  have hr_111 := hr_105.same (same_below b (by omega))
  clear hr_105
  have hl_111 := hl_105.same (same_below b (by omega))
  clear hl_105
  have h0_111 := h0_105.same (same_below b (by omega))
  clear h0_105
  have B_110 := B_104.trans (b.mono (by omega))
  clear B_104 b
  have ca_112 := a_111.cells
  have fa_112 := a_111.free
  have cw0_113 := w0_111.cells
  have fw0_113 := w0_111.free
  have cg0_114 := g0_111.cells
  have fg0_114 := g0_111.free
  have ch0_115 := h0_111.cells
  have fh0_115 := h0_111.free
  clear hr_111
  clear ch0_115 fh0_115
  clear h0_111
  clear wr_111
  clear cw0_113 fw0_113
  clear w0_111
  clear hl_111
  clear wl_111
  go_wp2_with fail
  refine (heldTape_any _ n _ 1 (tbAt n i (binI nn k)) _ gr_111.rd (by omega) (by omega)).mono ?_
  rintro e w19 ⟨rfl, b⟩
  clear ca_112 fa_112
  clear cg0_114 fg0_114
  have t_116 := b.size
  have z_116 : w.heap.size ≤ w19.heap.size := by omega
  have a_117 := a_111.same (same_below b (by omega))
  clear a_111
  have gr_117 := gr_111.same (same_below b (by omega))
  clear gr_111
  have gl_117 := gl_111.same (same_below b (by omega))
  clear gl_111
  have g0_117 := g0_111.same (same_below b (by omega))
  clear g0_111
  have B_116 := B_110.trans (b.mono (by omega))
  clear B_110 b
  have ca_118 := a_117.cells
  have fa_118 := a_117.free
  have cg0_119 := g0_117.cells
  have fg0_119 := g0_117.free
  go_wp2_with fail
  refine (heldIntS_any _ k.toNat _ (1 + n) _ gl_117.rd HN.out (by omega)).mono ?_
  rintro e w20 ⟨rfl, rfl⟩
  go_wp2_with fail
  go_ret
  exact ⟨rfl, B_116⟩

set_option maxHeartbeats 4000000 in
theorem walk_no (w : World) (A : Option Addr) (n c : Nat) (xs : List Int) (i nn k : Int) (hn : n ≤ 1048576) (HR : Hid (Rd w A n (xs.map (Value.int .u8)))) (HU : Hid (∀ z ∈ xs, 0 ≤ z ∧ z ≤ 255)) (HT : Hid (tbB n i (binI nn k) = false)) :
    Calls Try.prog 14 #[.agg #[.slice A n c, .int .i64 i], .int .i64 nn, .int .i64 k] w fun e w' => e = .returned (.bool true) ∧ Below w.heap.size w w' := by
  have rn : ∀ (W : World) (A : Option Addr), Rd W A 0 (([] : List Int).map (Value.int .i64)) := fun W A => Rd.none_ W A
  have rm : ∀ (W : World) (A : Option Addr), Rd W A 0 (marksIntS (1 + n) 0) := fun W A => Rd.none_ W A
  have HZ := Lib.hid (show szI 1048576 n = 1048576 - n by unfold szI; rw [if_neg (by omega)])
  have B0 := Below.refl w.heap.size w
  have s0 : w.heap.size ≤ w.heap.size := Nat.le_refl _
  go_enter Try.func14, Try.ntmps14
  have a_2 : Bx (w.alloc (.cells #[.slice A n c, .int .i64 i] 47)) (w.heap.size) 47 #[.slice A n c, .int .i64 i] := Bx.new _ _ _
  have B_2 := B0.alloc s0 (.cells #[.slice A n c, .int .i64 i] 47)
  clear B0
  have ca_3 := a_2.cells
  have fa_3 := a_2.free
  go_wp2_with fail
  refine (szTape_any A n c i 1048576 (by omega) (by omega) (by omega) _).mono ?_
  rw [HZ.out]
  rintro e w1 ⟨rfl, b⟩
  clear ca_3 fa_3
  simp only [World.size_alloc] at b
  have t_4 := b.size
  simp only [World.size_alloc] at t_4
  have z_4 : w.heap.size ≤ w1.heap.size := by omega
  have a_5 := a_2.same (same_below b (by omega))
  clear a_2
  have B_4 := B_2.trans (b.mono (by omega))
  clear B_2 b
  have ca_6 := a_5.cells
  have fa_6 := a_5.free
  go_wp2_with fail
  refine (toTape_any A n c xs i _ (HR.out.below B_4 (Nat.le_refl _)) (by omega)).mono ?_
  rintro e w2 ⟨g1, rfl, o, b⟩
  clear ca_6 fa_6
  have t_7 := b.size
  have z_7 : w.heap.size ≤ w2.heap.size := by omega
  have a_8 := a_5.same (same_below b (by omega))
  clear a_5
  have B_7 := B_4.trans (b.mono (by omega))
  clear B_4 b
  have d_7 := Ow.of o
  clear o
  have ca_9 := a_8.cells
  have fa_9 := a_8.free
  go_wp2_with fail
  refine (sTakeSubset_no _ n _ _ xs i nn k _ d_7.own (by omega) HU.out HT.out).mono ?_
  rintro e w3 ⟨A1, c1, P1, r1, rfl, o, b⟩
  clear ca_9 fa_9
  have t_10 := b.size
  have z_10 : w.heap.size ≤ w3.heap.size := by omega
  have a_11 := a_8.same (same_below b (by omega))
  clear a_8
  have d_11 := d_7.same (same_below b (by omega))
  clear d_7
  have B_10 := B_7.trans (b.mono (by omega))
  clear B_7 b
  have wr_10 := Ow.of o
  clear o
  have ca_12 := a_11.cells
  have fa_12 := a_11.free
  clear d_11
  clear ca_12 fa_12
  have a_13 := a_11.same (same_alloc (.cells #[.slice A1 n c1, .int .i64 i] 49) (by omega))
  clear a_11
  have wr_13 := wr_10.same (same_alloc (.cells #[.slice A1 n c1, .int .i64 i] 49) (by omega))
  clear wr_10
  have w0_14 : Bx (w3.alloc (.cells #[.slice A1 n c1, .int .i64 i] 49)) (w3.heap.size) 49 #[.slice A1 n c1, .int .i64 i] := Bx.new _ _ _
  have B_14 := B_10.alloc z_10 (.cells #[.slice A1 n c1, .int .i64 i] 49)
  clear B_10
  have ca_15 := a_13.cells
  have fa_15 := a_13.free
  have cw0_16 := w0_14.cells
  have fw0_16 := w0_14.free
  go_wp2_with fail
  refine (toTape_any A n c xs i _ (HR.out.below B_14 (Nat.le_refl _)) (by omega)).mono ?_
  rintro e w4 ⟨g2, rfl, o, b⟩
  clear ca_15 fa_15
  clear cw0_16 fw0_16
  simp only [World.size_alloc] at b o
  have t_17 := b.size
  simp only [World.size_alloc] at t_17
  have z_17 : w.heap.size ≤ w4.heap.size := by omega
  have a_18 := a_13.same (same_below b (by omega))
  clear a_13
  have wr_18 := wr_13.same (same_below b (by omega))
  clear wr_13
  have w0_18 := w0_14.same (same_below b (by omega))
  clear w0_14
  have B_17 := B_14.trans (b.mono (by omega))
  clear B_14 b
  have x_17 := Ow.of o
  clear o
  have ca_19 := a_18.cells
  have fa_19 := a_18.free
  have cw0_20 := w0_18.cells
  have fw0_20 := w0_18.free
  clear ca_19 fa_19
  clear cw0_20 fw0_20
  have a_21 := a_18.same (same_alloc (.cells #[.slice (some ⟨g2, 0, none⟩) n n, .int .i64 i] 49) (by omega))
  clear a_18
  have wr_21 := wr_18.same (same_alloc (.cells #[.slice (some ⟨g2, 0, none⟩) n n, .int .i64 i] 49) (by omega))
  clear wr_18
  have w0_21 := w0_18.same (same_alloc (.cells #[.slice (some ⟨g2, 0, none⟩) n n, .int .i64 i] 49) (by omega))
  clear w0_18
  have x_21 := x_17.same (same_alloc (.cells #[.slice (some ⟨g2, 0, none⟩) n n, .int .i64 i] 49) (by omega))
  clear x_17
  have x0_22 : Bx (w4.alloc (.cells #[.slice (some ⟨g2, 0, none⟩) n n, .int .i64 i] 49)) (w4.heap.size) 49 #[.slice (some ⟨g2, 0, none⟩) n n, .int .i64 i] := Bx.new _ _ _
  have B_22 := B_17.alloc z_17 (.cells #[.slice (some ⟨g2, 0, none⟩) n n, .int .i64 i] 49)
  clear B_17
  have ca_23 := a_21.cells
  have fa_23 := a_21.free
  have cw0_24 := w0_21.cells
  have fw0_24 := w0_21.free
  have cx0_25 := x0_22.cells
  have fx0_25 := x0_22.free
  go_wp2_with fail
  refine (iTakeSubset_no _ n _ _ xs i nn k _ x_21.own (by omega) HU.out HT.out).mono ?_
  rintro e w5 ⟨A2, c2, rfl, o, b⟩
  clear ca_23 fa_23
  clear cw0_24 fw0_24
  clear cx0_25 fx0_25
  simp only [World.size_alloc] at b o
  have t_26 := b.size
  simp only [World.size_alloc] at t_26
  have z_26 : w.heap.size ≤ w5.heap.size := by omega
  have a_27 := a_21.same (same_below b (by omega))
  clear a_21
  have wr_27 := wr_21.same (same_below b (by omega))
  clear wr_21
  have w0_27 := w0_21.same (same_below b (by omega))
  clear w0_21
  have x_27 := x_21.same (same_below b (by omega))
  clear x_21
  have x0_27 := x0_22.same (same_below b (by omega))
  clear x0_22
  have B_26 := B_22.trans (b.mono (by omega))
  clear B_22 b
  have gr_26 := Ow.of o
  clear o
  have ca_28 := a_27.cells
  have fa_28 := a_27.free
  have cw0_29 := w0_27.cells
  have fw0_29 := w0_27.free
  have cx0_30 := x0_27.cells
  have fx0_30 := x0_27.free
  clear ca_28 fa_28
  clear cw0_29 fw0_29
  clear cx0_30 fx0_30
  have a_31 := a_27.same (same_alloc (.cells #[.slice A2 n c2, .int .i64 i] 49) (by omega))
  clear a_27
  have wr_31 := wr_27.same (same_alloc (.cells #[.slice A2 n c2, .int .i64 i] 49) (by omega))
  clear wr_27
  have w0_31 := w0_27.same (same_alloc (.cells #[.slice A2 n c2, .int .i64 i] 49) (by omega))
  clear w0_27
  have x_31 := x_27.same (same_alloc (.cells #[.slice A2 n c2, .int .i64 i] 49) (by omega))
  clear x_27
  have x0_31 := x0_27.same (same_alloc (.cells #[.slice A2 n c2, .int .i64 i] 49) (by omega))
  clear x0_27
  have gr_31 := gr_26.same (same_alloc (.cells #[.slice A2 n c2, .int .i64 i] 49) (by omega))
  clear gr_26
  have g0_32 : Bx (w5.alloc (.cells #[.slice A2 n c2, .int .i64 i] 49)) (w5.heap.size) 49 #[.slice A2 n c2, .int .i64 i] := Bx.new _ _ _
  have B_32 := B_26.alloc z_26 (.cells #[.slice A2 n c2, .int .i64 i] 49)
  clear B_26
  have ca_33 := a_31.cells
  have fa_33 := a_31.free
  have cw0_34 := w0_31.cells
  have fw0_34 := w0_31.free
  have cx0_35 := x0_31.cells
  have fx0_35 := x0_31.free
  have cg0_36 := g0_32.cells
  have fg0_36 := g0_32.free
  go_wp2_with fail
  refine (eqTape_same _ _ n _ _ xs i _ gr_31.rd wr_31.rd (by omega)).mono ?_
  rintro e w6 ⟨rfl, b⟩
  clear ca_33 fa_33
  clear cw0_34 fw0_34
  clear cx0_35 fx0_35
  clear cg0_36 fg0_36
  simp only [World.size_alloc] at b
  have t_37 := b.size
  simp only [World.size_alloc] at t_37
  have z_37 : w.heap.size ≤ w6.heap.size := by omega
  have a_38 := a_31.same (same_below b (by omega))
  clear a_31
  have wr_38 := wr_31.same (same_below b (by omega))
  clear wr_31
  have w0_38 := w0_31.same (same_below b (by omega))
  clear w0_31
  have x_38 := x_31.same (same_below b (by omega))
  clear x_31
  have x0_38 := x0_31.same (same_below b (by omega))
  clear x0_31
  have gr_38 := gr_31.same (same_below b (by omega))
  clear gr_31
  have g0_38 := g0_32.same (same_below b (by omega))
  clear g0_32
  have B_37 := B_32.trans (b.mono (by omega))
  clear B_32 b
  have ca_39 := a_38.cells
  have fa_39 := a_38.free
  have cw0_40 := w0_38.cells
  have fw0_40 := w0_38.free
  have cx0_41 := x0_38.cells
  have fx0_41 := x0_38.free
  have cg0_42 := g0_38.cells
  have fg0_42 := g0_38.free
  go_wp2_with fail
  refine (eqIntS_same _ _ 0 _ _ [] _ (rn _ _) (rn _ _) (by omega)).mono ?_
  rintro e w7 ⟨rfl, b⟩
  clear ca_39 fa_39
  clear cw0_40 fw0_40
  clear cx0_41 fx0_41
  clear cg0_42 fg0_42
  have t_43 := b.size
  have z_43 : w.heap.size ≤ w7.heap.size := by omega
  have a_44 := a_38.same (same_below b (by omega))
  clear a_38
  have wr_44 := wr_38.same (same_below b (by omega))
  clear wr_38
  have w0_44 := w0_38.same (same_below b (by omega))
  clear w0_38
  have x_44 := x_38.same (same_below b (by omega))
  clear x_38
  have x0_44 := x0_38.same (same_below b (by omega))
  clear x0_38
  have gr_44 := gr_38.same (same_below b (by omega))
  clear gr_38
  have g0_44 := g0_38.same (same_below b (by omega))
  clear g0_38
  have B_43 := B_37.trans (b.mono (by omega))
  clear B_37 b
  have ca_45 := a_44.cells
  have fa_45 := a_44.free
  have cw0_46 := w0_44.cells
  have fw0_46 := w0_44.free
  have cx0_47 := x0_44.cells
  have fx0_47 := x0_44.free
  have cg0_48 := g0_44.cells
  have fg0_48 := g0_44.free
  go_wp2_with fail
  have la_49 := a_44.lt
  have da0_49 : w7.cell? ⟨w.heap.size, 0, none⟩ = some (.slice A n c) := a_44.cells 0
  have da1_49 : w7.cell? ⟨w.heap.size, 1, none⟩ = some (.int .i64 i) := a_44.cells 1
  have lx0_49 := x0_44.lt
  have dx00_49 : w7.cell? ⟨w4.heap.size, 0, none⟩ = some (.slice (some ⟨g2, 0, none⟩) n n) := x0_44.cells 0
  have dx01_49 : w7.cell? ⟨w4.heap.size, 1, none⟩ = some (.int .i64 i) := x0_44.cells 1
  clear ca_45 fa_45
  clear cw0_46 fw0_46
  clear cx0_47 fx0_47
  clear cg0_48 fg0_48
  have HA_49 := Lib.hid B_43
  go_region_held3 (fun w' => w'.cell? ⟨w.heap.size, 0, none⟩ = some (.slice A n c) ∧ w'.cell? ⟨w.heap.size, 1, none⟩ = some (.int .i64 i) ∧ w'.cell? ⟨w4.heap.size, 0, none⟩ = some (.slice (some ⟨g2, 0, none⟩) n n) ∧ w'.cell? ⟨w4.heap.size, 1, none⟩ = some (.int .i64 i) ∧ Below w7.heap.size w7 w')
    (first
      | exact ⟨da0_49, da1_49, dx00_49, dx01_49, (Below.refl _ _).drew⟩
      | exact ⟨(Below.cell (p := ⟨w.heap.size, 0, none⟩) b7 la_49).trans da0_49, (Below.cell (p := ⟨w.heap.size, 1, none⟩) b7 la_49).trans da1_49, (Below.cell (p := ⟨w4.heap.size, 0, none⟩) b7 lx0_49).trans dx00_49, (Below.cell (p := ⟨w4.heap.size, 1, none⟩) b7 lx0_49).trans dx01_49, b7⟩
      | exact ⟨(Below.cell (p := ⟨w.heap.size, 0, none⟩) b6 la_49).trans da0_49, (Below.cell (p := ⟨w.heap.size, 1, none⟩) b6 la_49).trans da1_49, (Below.cell (p := ⟨w4.heap.size, 0, none⟩) b6 lx0_49).trans dx00_49, (Below.cell (p := ⟨w4.heap.size, 1, none⟩) b6 lx0_49).trans dx01_49, b6⟩)
    (first
      | (go_at_call 42; go_split_ands; refine (toT A n c xs i _ w7 w7.heap.size (HR.out.below (HA_49.out.trans (Below.mono (by assumption) HA_49.out.size)) (Nat.le_refl _)) (by omega) (by assumption) (Nat.le_refl _)).mono ?_; rintro e w' ⟨⟨g9, rfl, o6⟩, b6⟩)
      | (go_at_call 44; refine (lift (eqTape_same _ _ _ _ _ xs i _ (x_44.rd.below (by assumption) (Nat.le_refl _)) (Rd.of_own o6) (by omega)) (by assumption) (Nat.le_refl _)).mono ?_; rintro e w8 ⟨rfl, b7⟩))
  have t_49 := b7.size
  have z_49 : w.heap.size ≤ w8.heap.size := by omega
  have a_50 := a_44.same (same_below b7 (by omega))
  clear a_44
  have wr_50 := wr_44.same (same_below b7 (by omega))
  clear wr_44
  have w0_50 := w0_44.same (same_below b7 (by omega))
  clear w0_44
  have x_50 := x_44.same (same_below b7 (by omega))
  clear x_44
  have x0_50 := x0_44.same (same_below b7 (by omega))
  clear x0_44
  have gr_50 := gr_44.same (same_below b7 (by omega))
  clear gr_44
  have g0_50 := g0_44.same (same_below b7 (by omega))
  clear g0_44
  have B_49 := B_43.trans (b7.mono (by omega))
  clear B_43 b7
  have ca_51 := a_50.cells
  have fa_51 := a_50.free
  have cw0_52 := w0_50.cells
  have fw0_52 := w0_50.free
  have cx0_53 := x0_50.cells
  have fx0_53 := x0_50.free
  have cg0_54 := g0_50.cells
  have fg0_54 := g0_50.free
  go_wp2_with fail
  refine (markTape_any _ n _ 1 _ _ i _ x_50.own (by omega) (by omega)).mono ?_
  rintro e w9 ⟨rfl, o, gg⟩
  clear ca_51 fa_51
  clear cw0_52 fw0_52
  clear cx0_53 fx0_53
  clear cg0_54 fg0_54
  have n_55 := Ow.only x_50 gg
  have t_55 := n_55.size
  have z_55 : w.heap.size ≤ w9.heap.size := by omega
  have a_56 := a_50.same (same_only n_55 (by omega) (by omega))
  clear a_50
  have wr_56 := wr_50.same (same_only n_55 (by omega) (by omega))
  clear wr_50
  have w0_56 := w0_50.same (same_only n_55 (by omega) (by omega))
  clear w0_50
  have x0_56 := x0_50.same (same_only n_55 (by omega) (by omega))
  clear x0_50
  have gr_56 := gr_50.same (same_only n_55 (by omega) (by omega))
  clear gr_50
  have g0_56 := g0_50.same (same_only n_55 (by omega) (by omega))
  clear g0_50
  have x_55 : Ow _ _ _ w9 _ _ _ _ := ⟨o, x_50.top⟩
  clear x_50 o gg
  have B_55 := B_49.trans (n_55.below (by omega) (by omega))
  clear B_49 n_55
  have ca_57 := a_56.cells
  have fa_57 := a_56.free
  have cw0_58 := w0_56.cells
  have fw0_58 := w0_56.free
  have cx0_59 := x0_56.cells
  have fx0_59 := x0_56.free
  have cg0_60 := g0_56.cells
  have fg0_60 := g0_56.free
  go_wp2_with fail
  refine (eqTape_same _ _ n _ _ xs i _ gr_56.rd wr_56.rd (by omega)).mono ?_
  rintro e w10 ⟨rfl, b⟩
  clear ca_57 fa_57
  clear cw0_58 fw0_58
  clear cx0_59 fx0_59
  clear cg0_60 fg0_60
  have t_61 := b.size
  have z_61 : w.heap.size ≤ w10.heap.size := by omega
  have a_62 := a_56.same (same_below b (by omega))
  clear a_56
  have wr_62 := wr_56.same (same_below b (by omega))
  clear wr_56
  have w0_62 := w0_56.same (same_below b (by omega))
  clear w0_56
  have x_62 := x_55.same (same_below b (by omega))
  clear x_55
  have x0_62 := x0_56.same (same_below b (by omega))
  clear x0_56
  have gr_62 := gr_56.same (same_below b (by omega))
  clear gr_56
  have g0_62 := g0_56.same (same_below b (by omega))
  clear g0_56
  have B_61 := B_55.trans (b.mono (by omega))
  clear B_55 b
  have ca_63 := a_62.cells
  have fa_63 := a_62.free
  have cw0_64 := w0_62.cells
  have fw0_64 := w0_62.free
  have cx0_65 := x0_62.cells
  have fx0_65 := x0_62.free
  have cg0_66 := g0_62.cells
  have fg0_66 := g0_62.free
  go_wp2_with fail
  refine (eqIntS_same _ _ 0 _ _ [] _ (rn _ _) (rn _ _) (by omega)).mono ?_
  rintro e w11 ⟨rfl, b⟩
  clear ca_63 fa_63
  clear cw0_64 fw0_64
  clear cx0_65 fx0_65
  clear cg0_66 fg0_66
  have t_67 := b.size
  have z_67 : w.heap.size ≤ w11.heap.size := by omega
  have a_68 := a_62.same (same_below b (by omega))
  clear a_62
  have wr_68 := wr_62.same (same_below b (by omega))
  clear wr_62
  have w0_68 := w0_62.same (same_below b (by omega))
  clear w0_62
  have x_68 := x_62.same (same_below b (by omega))
  clear x_62
  have x0_68 := x0_62.same (same_below b (by omega))
  clear x0_62
  have gr_68 := gr_62.same (same_below b (by omega))
  clear gr_62
  have g0_68 := g0_62.same (same_below b (by omega))
  clear g0_62
  have B_67 := B_61.trans (b.mono (by omega))
  clear B_61 b
  have ca_69 := a_68.cells
  have fa_69 := a_68.free
  have cw0_70 := w0_68.cells
  have fw0_70 := w0_68.free
  have cx0_71 := x0_68.cells
  have fx0_71 := x0_68.free
  have cg0_72 := g0_68.cells
  have fg0_72 := g0_68.free
  clear x_68
  clear cx0_71 fx0_71
  clear x0_68
  go_wp2_with fail
  refine (markTape_any _ n _ 1 _ _ i _ gr_68.own (by omega) (by omega)).mono ?_
  rintro e w12 ⟨rfl, o, gg⟩
  clear ca_69 fa_69
  clear cw0_70 fw0_70
  clear cg0_72 fg0_72
  have n_73 := Ow.only gr_68 gg
  have t_73 := n_73.size
  have z_73 : w.heap.size ≤ w12.heap.size := by omega
  have a_74 := a_68.same (same_only n_73 (by omega) (by omega))
  clear a_68
  have wr_74 := wr_68.same (same_only n_73 (by omega) (by omega))
  clear wr_68
  have w0_74 := w0_68.same (same_only n_73 (by omega) (by omega))
  clear w0_68
  have g0_74 := g0_68.same (same_only n_73 (by omega) (by omega))
  clear g0_68
  have gr_73 : Ow _ _ _ w12 _ _ _ _ := ⟨o, gr_68.top⟩
  clear gr_68 o gg
  have B_73 := B_67.trans (n_73.below (by omega) (by omega))
  clear B_67 n_73
  have ca_75 := a_74.cells
  have fa_75 := a_74.free
  have cw0_76 := w0_74.cells
  have fw0_76 := w0_74.free
  have cg0_77 := g0_74.cells
  have fg0_77 := g0_74.free
  go_wp2_with fail
  refine (markIntS_nil (1 + n) _ (by omega)).mono ?_
  rintro e w13 ⟨rfl, b⟩
  clear ca_75 fa_75
  clear cw0_76 fw0_76
  clear cg0_77 fg0_77
  have t_78 := b.size
  have z_78 : w.heap.size ≤ w13.heap.size := by omega
  have a_79 := a_74.same (same_below b (by omega))
  clear a_74
  have wr_79 := wr_74.same (same_below b (by omega))
  clear wr_74
  have w0_79 := w0_74.same (same_below b (by omega))
  clear w0_74
  have gr_79 := gr_73.same (same_below b (by omega))
  clear gr_73
  have g0_79 := g0_74.same (same_below b (by omega))
  clear g0_74
  have B_78 := B_73.trans (b.mono (by omega))
  clear B_73 b
  have ca_80 := a_79.cells
  have fa_80 := a_79.free
  have cw0_81 := w0_79.cells
  have fw0_81 := w0_79.free
  have cg0_82 := g0_79.cells
  have fg0_82 := g0_79.free
  go_wp2_with fail
  refine (heldTape_any _ n _ 1 i _ gr_79.rd (by omega) (by omega)).mono ?_
  rintro e w14 ⟨rfl, b⟩
  clear ca_80 fa_80
  clear cw0_81 fw0_81
  clear cg0_82 fg0_82
  have t_83 := b.size
  have z_83 : w.heap.size ≤ w14.heap.size := by omega
  have a_84 := a_79.same (same_below b (by omega))
  clear a_79
  have wr_84 := wr_79.same (same_below b (by omega))
  clear wr_79
  have w0_84 := w0_79.same (same_below b (by omega))
  clear w0_79
  have gr_84 := gr_79.same (same_below b (by omega))
  clear gr_79
  have g0_84 := g0_79.same (same_below b (by omega))
  clear g0_79
  have B_83 := B_78.trans (b.mono (by omega))
  clear B_78 b
  have ca_85 := a_84.cells
  have fa_85 := a_84.free
  have cw0_86 := w0_84.cells
  have fw0_86 := w0_84.free
  have cg0_87 := g0_84.cells
  have fg0_87 := g0_84.free
  go_wp2_with fail
  refine (heldIntS_any _ 0 _ (1 + n) _ (rm _ _) (by omega) (by omega)).mono ?_
  rintro e w15 ⟨rfl, rfl⟩
  go_wp2_with fail
  refine (toTape_any A n c xs i _ (HR.out.below B_83 (Nat.le_refl _)) (by omega)).mono ?_
  rintro e w15 ⟨g3, rfl, o, b⟩
  clear ca_85 fa_85
  clear cw0_86 fw0_86
  clear cg0_87 fg0_87
  have t_88 := b.size
  have z_88 : w.heap.size ≤ w15.heap.size := by omega
  have a_89 := a_84.same (same_below b (by omega))
  clear a_84
  have wr_89 := wr_84.same (same_below b (by omega))
  clear wr_84
  have w0_89 := w0_84.same (same_below b (by omega))
  clear w0_84
  have gr_89 := gr_84.same (same_below b (by omega))
  clear gr_84
  have g0_89 := g0_84.same (same_below b (by omega))
  clear g0_84
  have B_88 := B_83.trans (b.mono (by omega))
  clear B_83 b
  have d_88 := Ow.of o
  clear o
  have ca_90 := a_89.cells
  have fa_90 := a_89.free
  have cw0_91 := w0_89.cells
  have fw0_91 := w0_89.free
  have cg0_92 := g0_89.cells
  have fg0_92 := g0_89.free
  go_wp2_with fail
  refine (iTakeSubset_no _ n _ _ xs i nn k _ d_88.own (by omega) HU.out HT.out).mono ?_
  rintro e w16 ⟨A3, c3, rfl, o, b⟩
  clear ca_90 fa_90
  clear cw0_91 fw0_91
  clear cg0_92 fg0_92
  have t_93 := b.size
  have z_93 : w.heap.size ≤ w16.heap.size := by omega
  have a_94 := a_89.same (same_below b (by omega))
  clear a_89
  have wr_94 := wr_89.same (same_below b (by omega))
  clear wr_89
  have w0_94 := w0_89.same (same_below b (by omega))
  clear w0_89
  have gr_94 := gr_89.same (same_below b (by omega))
  clear gr_89
  have g0_94 := g0_89.same (same_below b (by omega))
  clear g0_89
  have d_94 := d_88.same (same_below b (by omega))
  clear d_88
  have B_93 := B_88.trans (b.mono (by omega))
  clear B_88 b
  have hr_93 := Ow.of o
  clear o
  have ca_95 := a_94.cells
  have fa_95 := a_94.free
  have cw0_96 := w0_94.cells
  have fw0_96 := w0_94.free
  have cg0_97 := g0_94.cells
  have fg0_97 := g0_94.free
  clear d_94
  clear ca_95 fa_95
  clear cw0_96 fw0_96
  clear cg0_97 fg0_97
  have a_98 := a_94.same (same_alloc (.cells #[.slice A3 n c3, .int .i64 i] 49) (by omega))
  clear a_94
  have wr_98 := wr_94.same (same_alloc (.cells #[.slice A3 n c3, .int .i64 i] 49) (by omega))
  clear wr_94
  have w0_98 := w0_94.same (same_alloc (.cells #[.slice A3 n c3, .int .i64 i] 49) (by omega))
  clear w0_94
  have gr_98 := gr_94.same (same_alloc (.cells #[.slice A3 n c3, .int .i64 i] 49) (by omega))
  clear gr_94
  have g0_98 := g0_94.same (same_alloc (.cells #[.slice A3 n c3, .int .i64 i] 49) (by omega))
  clear g0_94
  have hr_98 := hr_93.same (same_alloc (.cells #[.slice A3 n c3, .int .i64 i] 49) (by omega))
  clear hr_93
  have h0_99 : Bx (w16.alloc (.cells #[.slice A3 n c3, .int .i64 i] 49)) (w16.heap.size) 49 #[.slice A3 n c3, .int .i64 i] := Bx.new _ _ _
  have B_99 := B_93.alloc z_93 (.cells #[.slice A3 n c3, .int .i64 i] 49)
  clear B_93
  have ca_100 := a_98.cells
  have fa_100 := a_98.free
  have cw0_101 := w0_98.cells
  have fw0_101 := w0_98.free
  have cg0_102 := g0_98.cells
  have fg0_102 := g0_98.free
  have ch0_103 := h0_99.cells
  have fh0_103 := h0_99.free
  go_wp2_with fail
  refine (eqTape_same _ _ n _ _ xs i _ hr_98.rd wr_98.rd (by omega)).mono ?_
  rintro e w17 ⟨rfl, b⟩
  clear ca_100 fa_100
  clear cw0_101 fw0_101
  clear cg0_102 fg0_102
  clear ch0_103 fh0_103
  simp only [World.size_alloc] at b
  have t_104 := b.size
  simp only [World.size_alloc] at t_104
  have z_104 : w.heap.size ≤ w17.heap.size := by omega
  have a_105 := a_98.same (same_below b (by omega))
  clear a_98
  have wr_105 := wr_98.same (same_below b (by omega))
  clear wr_98
  have w0_105 := w0_98.same (same_below b (by omega))
  clear w0_98
  have gr_105 := gr_98.same (same_below b (by omega))
  clear gr_98
  have g0_105 := g0_98.same (same_below b (by omega))
  clear g0_98
  have hr_105 := hr_98.same (same_below b (by omega))
  clear hr_98
  have h0_105 := h0_99.same (same_below b (by omega))
  clear h0_99
  have B_104 := B_99.trans (b.mono (by omega))
  clear B_99 b
  have ca_106 := a_105.cells
  have fa_106 := a_105.free
  have cw0_107 := w0_105.cells
  have fw0_107 := w0_105.free
  have cg0_108 := g0_105.cells
  have fg0_108 := g0_105.free
  have ch0_109 := h0_105.cells
  have fh0_109 := h0_105.free
  go_wp2_with fail
  refine (eqIntS_same _ _ 0 _ _ [] _ (rn _ _) (rn _ _) (by omega)).mono ?_
  rintro e w18 ⟨rfl, b⟩
  clear ca_106 fa_106
  clear cw0_107 fw0_107
  clear cg0_108 fg0_108
  clear ch0_109 fh0_109
  have t_110 := b.size
  have z_110 : w.heap.size ≤ w18.heap.size := by omega
  have a_111 := a_105.same (same_below b (by omega))
  clear a_105
  have wr_111 := wr_105.same (same_below b (by omega))
  clear wr_105
  have w0_111 := w0_105.same (same_below b (by omega))
  clear w0_105
  have gr_111 := gr_105.same (same_below b (by omega))
  clear gr_105
  have g0_111 := g0_105.same (same_below b (by omega))
  clear g0_105
  have hr_111 := hr_105.same (same_below b (by omega))
  clear hr_105
  have h0_111 := h0_105.same (same_below b (by omega))
  clear h0_105
  have B_110 := B_104.trans (b.mono (by omega))
  clear B_104 b
  have ca_112 := a_111.cells
  have fa_112 := a_111.free
  have cw0_113 := w0_111.cells
  have fw0_113 := w0_111.free
  have cg0_114 := g0_111.cells
  have fg0_114 := g0_111.free
  have ch0_115 := h0_111.cells
  have fh0_115 := h0_111.free
  clear hr_111
  clear ch0_115 fh0_115
  clear h0_111
  clear wr_111
  clear cw0_113 fw0_113
  clear w0_111
  go_wp2_with fail
  refine (heldTape_any _ n _ 1 i _ gr_111.rd (by omega) (by omega)).mono ?_
  rintro e w19 ⟨rfl, b⟩
  clear ca_112 fa_112
  clear cg0_114 fg0_114
  have t_116 := b.size
  have z_116 : w.heap.size ≤ w19.heap.size := by omega
  have a_117 := a_111.same (same_below b (by omega))
  clear a_111
  have gr_117 := gr_111.same (same_below b (by omega))
  clear gr_111
  have g0_117 := g0_111.same (same_below b (by omega))
  clear g0_111
  have B_116 := B_110.trans (b.mono (by omega))
  clear B_110 b
  have ca_118 := a_117.cells
  have fa_118 := a_117.free
  have cg0_119 := g0_117.cells
  have fg0_119 := g0_117.free
  go_wp2_with fail
  refine (heldIntS_any _ 0 _ (1 + n) _ (rm _ _) (by omega) (by omega)).mono ?_
  rintro e w20 ⟨rfl, rfl⟩
  go_wp2_with fail
  go_ret
  exact ⟨rfl, B_116⟩

theorem walk (w : World) (A : Option Addr) (n c : Nat) (xs : List Int) (i nn k : Int) (hl : n ≤ c) (hm : c ≤ maxLen) (hr : Rd w A n (xs.map (Value.int .u8))) (hu : ∀ z ∈ xs, (Lit.int .u8 z).wf = true) (hi : (Lit.int .i64 i).wf = true) (_ : (Lit.int .i64 nn).wf = true) (_ : (Lit.int .i64 k).wf = true) :
    Calls Try.prog 14 #[.agg #[.slice A n c, .int .i64 i], .int .i64 nn, .int .i64 k] w fun e w' => e = .returned (.bool true) ∧ Below w.heap.size w w' := by
  unfold maxLen at hm
  have HR := Lib.hid hr
  have HU : Hid (∀ z ∈ xs, 0 ≤ z ∧ z ≤ 255) := fun z hz => u8_wf (hu z hz)
  clear hr hu hi
  by_cases hn : n ≤ 1048576
  · cases hT : tbB n i (binI nn k)
    · exact walk_no w A n c xs i nn k hn HR HU (Lib.hid hT)
    · exact walk_yes w A n c xs i nn k hn HR HU (Lib.hid (tb_k HU.out hT)) (Lib.hid hT)
  · have HB := Lib.hid (Below.refl (w.heap.size + 1) (w.alloc (.cells #[.slice A n c, .int .i64 i] 47)))
    have HS := Lib.hid (show w.heap.size + 1 ≤ (w.alloc (.cells #[.slice A n c, .int .i64 i] 47)).heap.size by simp)
    have HZ := Lib.hid (show szI 1048576 n = -1 by unfold szI; rw [if_pos (by omega)])
    go_enter Try.func14, Try.ntmps14
    go_wp2_with fail
    refine (lift (szTape_any A n c i 1048576 (by omega) (by omega) (by omega) _) HB.out HS.out).mono ?_
    rw [HZ.out]
    rintro e w1 ⟨rfl, b1⟩
    go_wp2_with fail
    go_ret
    exact ⟨rfl, fin_below b1 (by go_grown) (by omega)⟩

theorem walks : Walks 14 Try.f14 := by
  intro H enc W base args ds ps hval hA _
  rw [Try.params14] at hA hval
  obtain ⟨v0, vs0, d0, ds0, p0, q0, hargs, rfl, rfl, h0, r0⟩ := trodAll_cons hA
  obtain ⟨v1, vs1, d1, ds1, p1, q1, rfl, rfl, rfl, h1, r1⟩ := trodAll_cons r0
  obtain ⟨v2, vs2, d2, ds2, p2, q2, rfl, rfl, rfl, h2, r2⟩ := trodAll_cons r1
  obtain ⟨rfl, rfl, rfl⟩ := trodAll_nil r2
  obtain rfl : args = #[v0, v1, v2] := by cases args; simp_all
  obtain ⟨cs0, rfl, hl0, nn0, hf0⟩ := open_agg Try.underlying47 (by kernel_rfl) (by kernel_rfl) (hval 0 47 v0 rfl rfl) h0
  obtain ⟨c0_0, _, e0_0, y0_0⟩ := hf0 0 _ rfl
  obtain ⟨c0_1, _, e0_1, y0_1⟩ := hf0 1 _ rfl
  obtain ⟨a0_0, a0_1, rfl⟩ : ∃ a0_0 a0_1, cs0 = [a0_0, a0_1] := by
    match cs0, hl0 with
    | [a0, a1], _ => exact ⟨a0, a1, rfl⟩
  simp only [List.getElem?_cons_zero, List.getElem?_cons_succ, Option.some.injEq] at e0_0 e0_1
  subst e0_0 e0_1
  obtain ⟨A0_0, n0_0, c0_0, x0_0, rfl, hl0_0, hm0_0, hr0_0, w0_0⟩ := open_ints_rd Try.underlying22 (by kernel_rfl) Try.underlying5 y0_0
  obtain ⟨x0_1, rfl, w0_1⟩ := field_int Try.underlying3 y0_1
  obtain ⟨a1, rfl, rfl, rfl, w1⟩ := open_int Try.underlying3 (hval 1 3 v1 rfl rfl) h1
  obtain ⟨a2, rfl, rfl, rfl, w2⟩ := open_int Try.underlying3 (hval 2 3 v2 rfl rfl) h2
  exact walk (w := W) A0_0 n0_0 c0_0 x0_0 x0_1 a1 a2 hl0_0 hm0_0 hr0_0 w0_0 w0_1 w1 w2

set_option maxRecDepth 100000 in
theorem lifted (os : Os) (started : os.Started) (H : Type) (enc : TypeId × Value → H) :
    ReturnsInHanded {} Try.checked os 14 .any (Rows.fnExactTakeSubsetSpec.pre6 enc Try.prog Try.f14 Rows.fnExactTakeSubsetRow.domain false) (Rows.fnExactTakeSubsetSpec.post enc Try.prog Try.f14 false true false false) :=
  law_lifted started (by kernel_rfl) Try.func14
    (ChangeSpec.witness6 (enc := enc) (C := Try.checked) false ⟨#[], #[.agg #[.slice none 0 0, .int .i64 0], .int .i64 0, .int .i64 0], []⟩ 8 (by kernel_rfl) (by kernel_rfl) (by kernel_rfl) (by kernel_rfl))
    rfl rfl Try.underlying4 (fun ds h => match ds, h with | [_, _, _], _ => rfl) (by
      rw [Try.params14]
      intro t ht
      simp only [List.mem_cons, List.not_mem_nil, or_false] at ht
      rcases ht with rfl | rfl | rfl <;> exact ⟨by kernel_rfl, of_decide_eq_true (by kernel_rfl)⟩) walks

theorem over : Rows.fnExactTakeSubsetRow.holds Try.pinned (OpenSpec.ofChange Rows.fnExactTakeSubsetSpec) :=
  OpenClaim.holds_of_wide 14 Try.f14 rfl rfl rfl rfl rfl rfl rfl ⟨rfl, rfl, rfl, rfl, rfl⟩ rfl rfl rfl rfl rfl (by kernel_rfl) Try.func14 (by kernel_rfl)
    (of_decide_eq_true (by kernel_rfl)) (by unfold Func.isWrapper; first | (rw [if_pos (by decide +kernel)]; kernel_rfl) | (rw [if_neg (by decide +kernel)]; exact ⟨rfl, rfl⟩))
    (fun os started H enc _ => lifted os started H enc)

theorem proved : Rows.FnExactTakeSubsetSaid := over
#print axioms proved

end LawTakeSubset
end Go.Proofs.Ytfdpfeaegcfglaa
