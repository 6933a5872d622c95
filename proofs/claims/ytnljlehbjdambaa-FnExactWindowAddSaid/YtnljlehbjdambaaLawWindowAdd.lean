/-
  Proved: laws.FnExactWindowAdd returns true for every window and number. Conditions: none.
-/
import Derived.Test.YtnljlehbjdambaaAddI
import Derived.Test.YtnljlehbjdambaaAddS
import Derived.Test.YtnljlehbjdambaaOpenSS
import Derived.Test.YtnljlehbjdambaaObj
namespace Go.Proofs.Ytnljlehbjdambaa
open Go.ChangeShapes Go.WideShapes Go.ChangeAt Go.RowKit Go.Deep
namespace LawWindowAdd
set_option linter.unusedSimpArgs false
set_option linter.unusedVariables false

theorem i64wf {z : Int} (h : (Lit.int .i64 z).wf = true) : -9223372036854775808 ≤ z ∧ z ≤ 9223372036854775807 := by
  simp [Lit.wf, IntKind.min, IntKind.max, IntKind.bits, IntKind.signed] at h
  omega
/-- toWindow, read from an earlier world on. -/
theorem toW (A : Option Addr) (n c : Nat) (hs : List Hd) (xss : List (List Int)) (w W0 : World) (B : Nat) (h : RdSS w A n hs (iss xss)) (hn : n ≤ 1048576) (hb : totI xss ≤ 1048576) (hB : Below B W0 w) (hs' : B ≤ W0.heap.size) :
    Calls Try.prog 18 #[.agg #[.slice A n c]] w fun e w' => (∃ g gs, e = .returned (.agg #[.slice (some ⟨g, 0, none⟩) n n]) ∧ OwSS w.heap.size w'.heap.size w' (some ⟨g, 0, none⟩) n n gs (iss xss)) ∧ Below B W0 w' :=
  lift ((toWindow_any A n c hs xss w h hn hb).mono fun _ _ ⟨g, gs, h1, h2, h3⟩ => ⟨⟨g, gs, h1, h2⟩, h3⟩) hB hs'

theorem totI_le : ∀ (xss : List (List Int)), (∀ xs ∈ xss, xs.length ≤ 3) → totI xss ≤ 3 * xss.length
  | [], _ => by simp [totI]
  | xs :: t, h => by
    have ih := totI_le t fun x hx => h x (by simp [hx])
    have h1 := h xs (by simp)
    simp only [totI, List.map_cons, List.sum_cons, List.length_cons] at ih ⊢; omega
theorem win_tot {xss : List (List Int)} (h : winB xss = true) : totI xss ≤ 24 ∧ xss.length ≤ 8 := by
  have h8 := winB_len h
  have h1 := totI_le xss fun xs hx => by
    obtain ⟨j, hj⟩ := List.getElem?_of_mem hx
    exact (rowB_len (winB_row h hj)).2
  omega
theorem addR_le (xss : List (List Int)) (bit : Int) : totI (addR xss bit) ≤ max (totI xss) 24 ∧ (addR xss bit).length ≤ max xss.length 8 := by
  cases h : addB xss bit
  · unfold addR; rw [h, if_neg (by simp)]; omega
  · have := win_tot (addR_win h); omega

theorem sadd2 (A : Option Addr) (n c : Nat) (hs : List Hd) (xss yss : List (List Int)) (z : Bool) (M : Nat) (bit : Int) (hz : addB xss bit = z) (hy : addR xss bit = yss) (hM : yss.length = M) (w : World) (h : RdSS w A n hs (iss xss)) (hb : totI xss ≤ 1048576) (hn : n ≤ 1048576) :
    Calls Try.prog 27 #[.agg #[.slice A n c], .int .i64 bit] w fun e w' => ∃ A' c' hs', e = .returned (.tuple #[.agg #[.slice A' M c'], .bool z]) ∧ OwSS w.heap.size w'.heap.size w' A' M c' hs' (iss yss) ∧ Below w.heap.size w w' := by
  refine (sWindowAdd_any A n c hs xss bit w h hb hn).mono ?_
  rintro e w' ⟨A', n', c', hs', rfl, o, b⟩
  have hl := o.len
  rw [iss_len, hy, hM] at hl
  subst hl hz hy
  exact ⟨A', c', hs', rfl, o, b⟩

theorem iadd2 (A : Option Addr) (n c : Nat) (hs : List Hd) (xss yss : List (List Int)) (z : Bool) (M : Nat) (bit : Int) (hz : addB xss bit = z) (hy : addR xss bit = yss) (hM : yss.length = M) (w : World) (h : RdSS w A n hs (iss xss)) (hb : totI xss ≤ 1048576) (hn : n ≤ 1048576) (hwf : ∀ xs ∈ xss, ∀ x ∈ xs, -9223372036854775808 ≤ x ∧ x ≤ 9223372036854775807) :
    Calls Try.prog 28 #[.agg #[.slice A n c], .int .i64 bit] w fun e w' => ∃ A' c' hs', e = .returned (.tuple #[.agg #[.slice A' M c'], .bool z]) ∧ OwSS w.heap.size w'.heap.size w' A' M c' hs' (iss yss) ∧ Below w.heap.size w w' := by
  refine (iWindowAdd_any A n c hs xss bit w h hb hn hwf).mono ?_
  rintro e w' ⟨A', n', c', hs', rfl, o, b⟩
  have hl := o.len
  rw [iss_len, hy, hM] at hl
  subst hl hz hy
  exact ⟨A', c', hs', rfl, o, b⟩

set_option maxHeartbeats 4000000 in
theorem walk (w : World) (A : Option Addr) (n c : Nat) (hs : List Hd) (xss : List (List Int)) (bit : Int) (hl : n ≤ c) (hm : c ≤ maxLen) (hr : RdSS w A n hs (iss xss)) (hb : ∀ x ∈ hs, x.2.1 ≤ x.2.2 ∧ x.2.2 ≤ maxLen) (hw : ∀ xs ∈ xss, ∀ z ∈ xs, (Lit.int .i64 z).wf = true) (_ : (Lit.int .i64 bit).wf = true) :
    Calls Try.prog 6 #[.agg #[.slice A n c], .int .i64 bit] w fun e w' => e = .returned (.bool true) ∧ Below w.heap.size w w' := by
  unfold maxLen at hm hb
  obtain ⟨z, hz⟩ : ∃ z, addB xss bit = z := ⟨_, rfl⟩
  obtain ⟨yss, hy⟩ : ∃ yss, addR xss bit = yss := ⟨_, rfl⟩
  obtain ⟨M, hM⟩ : ∃ M, yss.length = M := ⟨_, rfl⟩
  have hle := addR_le xss bit
  have hxl := hr.len
  rw [iss_len] at hxl
  rw [hy, hM, hxl] at hle
  obtain ⟨hle1, hle2⟩ := hle
  have HD := Lib.hid hz; have HY := Lib.hid hy; have HM := Lib.hid hM
  have HLM : Hid ((iss yss).length = M) := by unfold Hid; rw [iss_len]; exact hM
  have HTY := Lib.hid (tot_iss yss)
  clear hz hy hM hxl
  have HR := Lib.hid hr
  have HBd : Hid (∀ x ∈ hs, x.2.1 ≤ 9223372036854775807) := fun x hx => by have := hb x hx; omega
  have HW : Hid (∀ xs ∈ xss, ∀ x ∈ xs, -9223372036854775808 ≤ x ∧ x ≤ 9223372036854775807) := fun xs h1 x h2 => i64wf (hw xs h1 x h2)
  have HT := Lib.hid (tot_iss xss)
  clear hr hb hw
  by_cases hn : (n : Int) + (tot (iss xss) : Int) ≤ 1048576
  · have HZ := Lib.hid (szI_yes hn)
    have hty : totI yss = tot (iss yss) := HTY.out.symm
    have ht : totI xss = tot (iss xss) := HT.out.symm
    have B0 := Below.refl w.heap.size w
    have s0 : w.heap.size ≤ w.heap.size := Nat.le_refl _
    go_enter Try.func6, Try.ntmps6
    have p_2 : Bx (w.alloc (.cells #[.slice A n c] 34)) (w.heap.size) 34 #[.slice A n c] := Bx.new _ _ _
    have B_2 := B0.alloc s0 (.cells #[.slice A n c] 34)
    clear B0
    have cp_3 := p_2.cells
    have fp_3 := p_2.free
    go_wp2_with fail
    refine (szWindow_any A n c hs (iss xss) 1048576 _ (by omega) (by omega) (by omega) (HR.out.below B_2 (Nat.le_refl _)) HBd.out).mono ?_
    rw [HZ.out]
    rintro e w1 ⟨rfl, b⟩
    clear cp_3 fp_3
    simp only [World.size_alloc] at b
    have t_4 := b.size
    simp only [World.size_alloc] at t_4
    have z_4 : w.heap.size ≤ w1.heap.size := by omega
    have p_5 := p_2.same (same_below b (by omega))
    clear p_2
    have B_4 := B_2.trans (b.mono (by omega))
    clear B_2 b
    have cp_6 := p_5.cells
    have fp_6 := p_5.free
    go_wp2_with fail
    refine (toWindow_any A n c hs xss _ (HR.out.below B_4 (Nat.le_refl _)) (by omega) (by omega)).mono ?_
    rintro e w2 ⟨g1, gsd, rfl, o, b⟩
    clear cp_6 fp_6
    have t_7 := b.size
    have z_7 : w.heap.size ≤ w2.heap.size := by omega
    have p_8 := p_5.same (same_below b (by omega))
    clear p_5
    have B_7 := B_4.trans (b.mono (by omega))
    clear B_4 b
    have d_7 := o
    clear o
    have cp_9 := p_8.cells
    have fp_9 := p_8.free
    go_wp2_with fail
    refine (sadd2 _ _ _ _ xss yss z M bit HD.out HY.out HM.out _ d_7.rd (by omega) (by omega)).mono ?_
    rintro e w3 ⟨A1, c1, h1, rfl, o, b⟩
    clear cp_9 fp_9
    have t_10 := b.size
    have z_10 : w.heap.size ≤ w3.heap.size := by omega
    have p_11 := p_8.same (same_below b (by omega))
    clear p_8
    have d_11 := d_7.same (same_below b (by omega))
    clear d_7
    have B_10 := B_7.trans (b.mono (by omega))
    clear B_7 b
    have wr_10 := o
    clear o
    have cp_12 := p_11.cells
    have fp_12 := p_11.free
    clear d_11
    clear cp_12 fp_12
    have p_13 := p_11.same (same_alloc (.cells #[.slice A1 M c1] 26) (by omega))
    clear p_11
    have wr_13 := wr_10.same (same_alloc (.cells #[.slice A1 M c1] 26) (by omega))
    clear wr_10
    have w0_14 : Bx (w3.alloc (.cells #[.slice A1 M c1] 26)) (w3.heap.size) 26 #[.slice A1 M c1] := Bx.new _ _ _
    have B_14 := B_10.alloc z_10 (.cells #[.slice A1 M c1] 26)
    clear B_10
    have cp_15 := p_13.cells
    have fp_15 := p_13.free
    have cw0_16 := w0_14.cells
    have fw0_16 := w0_14.free
    go_wp2_with fail
    refine (toWindow_any A n c hs xss _ (HR.out.below B_14 (Nat.le_refl _)) (by omega) (by omega)).mono ?_
    rintro e w4 ⟨g2, gsx, rfl, o, b⟩
    clear cp_15 fp_15
    clear cw0_16 fw0_16
    simp only [World.size_alloc] at b o
    have t_17 := b.size
    simp only [World.size_alloc] at t_17
    have z_17 : w.heap.size ≤ w4.heap.size := by omega
    have p_18 := p_13.same (same_below b (by omega))
    clear p_13
    have wr_18 := wr_13.same (same_below b (by omega))
    clear wr_13
    have w0_18 := w0_14.same (same_below b (by omega))
    clear w0_14
    have B_17 := B_14.trans (b.mono (by omega))
    clear B_14 b
    have x_17 := o
    clear o
    have cp_19 := p_18.cells
    have fp_19 := p_18.free
    have cw0_20 := w0_18.cells
    have fw0_20 := w0_18.free
    clear cp_19 fp_19
    clear cw0_20 fw0_20
    have p_21 := p_18.same (same_alloc (.cells #[.slice (some ⟨g2, 0, none⟩) n n] 26) (by omega))
    clear p_18
    have wr_21 := wr_18.same (same_alloc (.cells #[.slice (some ⟨g2, 0, none⟩) n n] 26) (by omega))
    clear wr_18
    have w0_21 := w0_18.same (same_alloc (.cells #[.slice (some ⟨g2, 0, none⟩) n n] 26) (by omega))
    clear w0_18
    have x_21 := x_17.same (same_alloc (.cells #[.slice (some ⟨g2, 0, none⟩) n n] 26) (by omega))
    clear x_17
    have x0_22 : Bx (w4.alloc (.cells #[.slice (some ⟨g2, 0, none⟩) n n] 26)) (w4.heap.size) 26 #[.slice (some ⟨g2, 0, none⟩) n n] := Bx.new _ _ _
    have B_22 := B_17.alloc z_17 (.cells #[.slice (some ⟨g2, 0, none⟩) n n] 26)
    clear B_17
    have cp_23 := p_21.cells
    have fp_23 := p_21.free
    have cw0_24 := w0_21.cells
    have fw0_24 := w0_21.free
    have cx0_25 := x0_22.cells
    have fx0_25 := x0_22.free
    go_wp2_with fail
    refine (iadd2 _ _ _ _ xss yss z M bit HD.out HY.out HM.out _ x_21.rd (by omega) (by omega) HW.out).mono ?_
    rintro e w5 ⟨A2, c2, h2, rfl, o, b⟩
    clear cp_23 fp_23
    clear cw0_24 fw0_24
    clear cx0_25 fx0_25
    simp only [World.size_alloc] at b o
    have t_26 := b.size
    simp only [World.size_alloc] at t_26
    have z_26 : w.heap.size ≤ w5.heap.size := by omega
    have p_27 := p_21.same (same_below b (by omega))
    clear p_21
    have wr_27 := wr_21.same (same_below b (by omega))
    clear wr_21
    have w0_27 := w0_21.same (same_below b (by omega))
    clear w0_21
    have x_27 := x_21.same (same_below b (by omega))
    clear x_21
    have x0_27 := x0_22.same (same_below b (by omega))
    clear x0_22
    have B_26 := B_22.trans (b.mono (by omega))
    clear B_22 b
    have gr_26 := o
    clear o
    have cp_28 := p_27.cells
    have fp_28 := p_27.free
    have cw0_29 := w0_27.cells
    have fw0_29 := w0_27.free
    have cx0_30 := x0_27.cells
    have fx0_30 := x0_27.free
    clear cp_28 fp_28
    clear cw0_29 fw0_29
    clear cx0_30 fx0_30
    have p_31 := p_27.same (same_alloc (.cells #[.slice A2 M c2] 26) (by omega))
    clear p_27
    have wr_31 := wr_27.same (same_alloc (.cells #[.slice A2 M c2] 26) (by omega))
    clear wr_27
    have w0_31 := w0_27.same (same_alloc (.cells #[.slice A2 M c2] 26) (by omega))
    clear w0_27
    have x_31 := x_27.same (same_alloc (.cells #[.slice A2 M c2] 26) (by omega))
    clear x_27
    have x0_31 := x0_27.same (same_alloc (.cells #[.slice A2 M c2] 26) (by omega))
    clear x0_27
    have gr_31 := gr_26.same (same_alloc (.cells #[.slice A2 M c2] 26) (by omega))
    clear gr_26
    have g0_32 : Bx (w5.alloc (.cells #[.slice A2 M c2] 26)) (w5.heap.size) 26 #[.slice A2 M c2] := Bx.new _ _ _
    have B_32 := B_26.alloc z_26 (.cells #[.slice A2 M c2] 26)
    clear B_26
    have cp_33 := p_31.cells
    have fp_33 := p_31.free
    have cw0_34 := w0_31.cells
    have fw0_34 := w0_31.free
    have cx0_35 := x0_31.cells
    have fx0_35 := x0_31.free
    have cg0_36 := g0_32.cells
    have fg0_36 := g0_32.free
    go_wp2_with fail
    refine (eqWindow_same _ _ M _ _ _ _ yss _ gr_31.rd wr_31.rd (by omega) (by omega)).mono ?_
    rintro e w6 ⟨rfl, b⟩
    clear cp_33 fp_33
    clear cw0_34 fw0_34
    clear cx0_35 fx0_35
    clear cg0_36 fg0_36
    simp only [World.size_alloc] at b
    have t_37 := b.size
    simp only [World.size_alloc] at t_37
    have z_37 : w.heap.size ≤ w6.heap.size := by omega
    have p_38 := p_31.same (same_below b (by omega))
    clear p_31
    have wr_38 := wr_31.same (same_below b (by omega))
    clear wr_31
    have w0_38 := w0_31.same (same_below b (by omega))
    clear w0_31
    have x_38 := x_31.same (same_below b (by omega))
    clear x_31
    have x0_38 := x0_31.same (same_below b (by omega))
    clear x0_31
    have gr_38 := gr_31.same (same_below b (by omega))
    clear gr_31
    have g0_38 := g0_32.same (same_below b (by omega))
    clear g0_32
    have B_37 := B_32.trans (b.mono (by omega))
    clear B_32 b
    have cp_39 := p_38.cells
    have fp_39 := p_38.free
    have cw0_40 := w0_38.cells
    have fw0_40 := w0_38.free
    have cx0_41 := x0_38.cells
    have fx0_41 := x0_38.free
    have cg0_42 := g0_38.cells
    have fg0_42 := g0_38.free
    go_wp2_with fail
    have lp_43 := p_38.lt
    have dp0_43 : w6.cell? ⟨w.heap.size, 0, none⟩ = some (.slice A n c) := p_38.cells 0
    have lx0_43 := x0_38.lt
    have dx00_43 : w6.cell? ⟨w4.heap.size, 0, none⟩ = some (.slice (some ⟨g2, 0, none⟩) n n) := x0_38.cells 0
    clear cp_39 fp_39
    clear cw0_40 fw0_40
    clear cx0_41 fx0_41
    clear cg0_42 fg0_42
    have HA_43 := Lib.hid B_37
    go_region_held3 (fun w' => w'.cell? ⟨w.heap.size, 0, none⟩ = some (.slice A n c) ∧ w'.cell? ⟨w4.heap.size, 0, none⟩ = some (.slice (some ⟨g2, 0, none⟩) n n) ∧ Below w6.heap.size w6 w')
      (first
        | exact ⟨dp0_43, dx00_43, (Below.refl _ _).drew⟩
        | exact ⟨(Below.cell (p := ⟨w.heap.size, 0, none⟩) b7 lp_43).trans dp0_43, (Below.cell (p := ⟨w4.heap.size, 0, none⟩) b7 lx0_43).trans dx00_43, b7⟩
        | exact ⟨(Below.cell (p := ⟨w.heap.size, 0, none⟩) b6 lp_43).trans dp0_43, (Below.cell (p := ⟨w4.heap.size, 0, none⟩) b6 lx0_43).trans dx00_43, b6⟩)
      (first
        | (go_at_call 18; go_split_ands; refine (toW A n c hs xss _ w6 w6.heap.size (HR.out.below (HA_43.out.trans (Below.mono (by assumption) HA_43.out.size)) (Nat.le_refl _)) (by omega) (by omega) (by assumption) (Nat.le_refl _)).mono ?_; rintro e w' ⟨⟨g9, gs9, rfl, o6⟩, b6⟩)
        | (go_at_call 20; refine (lift (eqWindow_same _ _ _ _ _ _ _ xss _ (x_38.rd.below (by assumption) (Nat.le_refl _)) o6.rd (by omega) (by omega)) (by assumption) (Nat.le_refl _)).mono ?_; rintro e w7 ⟨rfl, b7⟩))
    have t_43 := b7.size
    have z_43 : w.heap.size ≤ w7.heap.size := by omega
    have p_44 := p_38.same (same_below b7 (by omega))
    clear p_38
    have wr_44 := wr_38.same (same_below b7 (by omega))
    clear wr_38
    have w0_44 := w0_38.same (same_below b7 (by omega))
    clear w0_38
    have x_44 := x_38.same (same_below b7 (by omega))
    clear x_38
    have x0_44 := x0_38.same (same_below b7 (by omega))
    clear x0_38
    have gr_44 := gr_38.same (same_below b7 (by omega))
    clear gr_38
    have g0_44 := g0_38.same (same_below b7 (by omega))
    clear g0_38
    have B_43 := B_37.trans (b7.mono (by omega))
    clear B_37 b7
    have cp_45 := p_44.cells
    have fp_45 := p_44.free
    have cw0_46 := w0_44.cells
    have fw0_46 := w0_44.free
    have cx0_47 := x0_44.cells
    have fx0_47 := x0_44.free
    have cg0_48 := g0_44.cells
    have fg0_48 := g0_44.free
    go_wp2_with fail
    refine (markWindow_any _ _ n _ 1 _ _ _ _ x_44 (by omega) (by omega) (by omega) (by omega)).mono ?_
    rintro e w8 ⟨rfl, o, gg⟩
    clear cp_45 fp_45
    clear cw0_46 fw0_46
    clear cx0_47 fx0_47
    clear cg0_48 fg0_48
    have t_49 := gg.size
    have z_49 : w.heap.size ≤ w8.heap.size := by omega
    have p_50 := p_44.same (same_only gg (by omega) (by omega))
    clear p_44
    have wr_50 := wr_44.same (same_only gg (by omega) (by omega))
    clear wr_44
    have w0_50 := w0_44.same (same_only gg (by omega) (by omega))
    clear w0_44
    have x0_50 := x0_44.same (same_only gg (by omega) (by omega))
    clear x0_44
    have gr_50 := gr_44.same (same_only gg (by omega) (by omega))
    clear gr_44
    have g0_50 := g0_44.same (same_only gg (by omega) (by omega))
    clear g0_44
    have x_49 := o
    clear x_44 o
    have B_49 := B_43.trans (gg.below (by omega) (by omega))
    clear B_43 gg
    have cp_51 := p_50.cells
    have fp_51 := p_50.free
    have cw0_52 := w0_50.cells
    have fw0_52 := w0_50.free
    have cx0_53 := x0_50.cells
    have fx0_53 := x0_50.free
    have cg0_54 := g0_50.cells
    have fg0_54 := g0_50.free
    go_wp2_with fail
    refine (eqWindow_same _ _ M _ _ _ _ yss _ gr_50.rd wr_50.rd (by omega) (by omega)).mono ?_
    rintro e w9 ⟨rfl, b⟩
    clear cp_51 fp_51
    clear cw0_52 fw0_52
    clear cx0_53 fx0_53
    clear cg0_54 fg0_54
    have t_55 := b.size
    have z_55 : w.heap.size ≤ w9.heap.size := by omega
    have p_56 := p_50.same (same_below b (by omega))
    clear p_50
    have wr_56 := wr_50.same (same_below b (by omega))
    clear wr_50
    have w0_56 := w0_50.same (same_below b (by omega))
    clear w0_50
    have x_56 := x_49.same (same_below b (by omega))
    clear x_49
    have x0_56 := x0_50.same (same_below b (by omega))
    clear x0_50
    have gr_56 := gr_50.same (same_below b (by omega))
    clear gr_50
    have g0_56 := g0_50.same (same_below b (by omega))
    clear g0_50
    have B_55 := B_49.trans (b.mono (by omega))
    clear B_49 b
    have cp_57 := p_56.cells
    have fp_57 := p_56.free
    have cw0_58 := w0_56.cells
    have fw0_58 := w0_56.free
    have cx0_59 := x0_56.cells
    have fx0_59 := x0_56.free
    have cg0_60 := g0_56.cells
    have fg0_60 := g0_56.free
    clear x_56
    clear cx0_59 fx0_59
    clear x0_56
    go_wp2_with fail
    refine (markWindow_any _ _ M _ 1 _ _ _ _ gr_56 (by omega) (by omega) (by omega) (by omega)).mono ?_
    rintro e w10 ⟨rfl, o, gg⟩
    clear cp_57 fp_57
    clear cw0_58 fw0_58
    clear cg0_60 fg0_60
    have t_61 := gg.size
    have z_61 : w.heap.size ≤ w10.heap.size := by omega
    have p_62 := p_56.same (same_only gg (by omega) (by omega))
    clear p_56
    have wr_62 := wr_56.same (same_only gg (by omega) (by omega))
    clear wr_56
    have w0_62 := w0_56.same (same_only gg (by omega) (by omega))
    clear w0_56
    have g0_62 := g0_56.same (same_only gg (by omega) (by omega))
    clear g0_56
    have gr_61 := o
    clear gr_56 o
    have B_61 := B_55.trans (gg.below (by omega) (by omega))
    clear B_55 gg
    have cp_63 := p_62.cells
    have fp_63 := p_62.free
    have cw0_64 := w0_62.cells
    have fw0_64 := w0_62.free
    have cg0_65 := g0_62.cells
    have fg0_65 := g0_62.free
    go_wp2_with fail
    refine (heldWindow_any _ M _ 1 _ _ _ gr_61.rd HLM.out (by omega) (by omega) (by omega)).mono ?_
    rintro e w11 ⟨rfl, b⟩
    clear cp_63 fp_63
    clear cw0_64 fw0_64
    clear cg0_65 fg0_65
    have t_66 := b.size
    have z_66 : w.heap.size ≤ w11.heap.size := by omega
    have p_67 := p_62.same (same_below b (by omega))
    clear p_62
    have wr_67 := wr_62.same (same_below b (by omega))
    clear wr_62
    have w0_67 := w0_62.same (same_below b (by omega))
    clear w0_62
    have gr_67 := gr_61.same (same_below b (by omega))
    clear gr_61
    have g0_67 := g0_62.same (same_below b (by omega))
    clear g0_62
    have B_66 := B_61.trans (b.mono (by omega))
    clear B_61 b
    have cp_68 := p_67.cells
    have fp_68 := p_67.free
    have cw0_69 := w0_67.cells
    have fw0_69 := w0_67.free
    have cg0_70 := g0_67.cells
    have fg0_70 := g0_67.free
    go_wp2_with fail
    refine (toWindow_any A n c hs xss _ (HR.out.below B_66 (Nat.le_refl _)) (by omega) (by omega)).mono ?_
    rintro e w12 ⟨g3, gsd, rfl, o, b⟩
    clear cp_68 fp_68
    clear cw0_69 fw0_69
    clear cg0_70 fg0_70
    have t_71 := b.size
    have z_71 : w.heap.size ≤ w12.heap.size := by omega
    have p_72 := p_67.same (same_below b (by omega))
    clear p_67
    have wr_72 := wr_67.same (same_below b (by omega))
    clear wr_67
    have w0_72 := w0_67.same (same_below b (by omega))
    clear w0_67
    have gr_72 := gr_67.same (same_below b (by omega))
    clear gr_67
    have g0_72 := g0_67.same (same_below b (by omega))
    clear g0_67
    have B_71 := B_66.trans (b.mono (by omega))
    clear B_66 b
    have d_71 := o
    clear o
    have cp_73 := p_72.cells
    have fp_73 := p_72.free
    have cw0_74 := w0_72.cells
    have fw0_74 := w0_72.free
    have cg0_75 := g0_72.cells
    have fg0_75 := g0_72.free
    go_wp2_with fail
    refine (iadd2 _ _ _ _ xss yss z M bit HD.out HY.out HM.out _ d_71.rd (by omega) (by omega) HW.out).mono ?_
    rintro e w13 ⟨A3, c3, h3, rfl, o, b⟩
    clear cp_73 fp_73
    clear cw0_74 fw0_74
    clear cg0_75 fg0_75
    have t_76 := b.size
    have z_76 : w.heap.size ≤ w13.heap.size := by omega
    have p_77 := p_72.same (same_below b (by omega))
    clear p_72
    have wr_77 := wr_72.same (same_below b (by omega))
    clear wr_72
    have w0_77 := w0_72.same (same_below b (by omega))
    clear w0_72
    have gr_77 := gr_72.same (same_below b (by omega))
    clear gr_72
    have g0_77 := g0_72.same (same_below b (by omega))
    clear g0_72
    have d_77 := d_71.same (same_below b (by omega))
    clear d_71
    have B_76 := B_71.trans (b.mono (by omega))
    clear B_71 b
    have hr_76 := o
    clear o
    have cp_78 := p_77.cells
    have fp_78 := p_77.free
    have cw0_79 := w0_77.cells
    have fw0_79 := w0_77.free
    have cg0_80 := g0_77.cells
    have fg0_80 := g0_77.free
    clear d_77
    clear cp_78 fp_78
    clear cw0_79 fw0_79
    clear cg0_80 fg0_80
    have p_81 := p_77.same (same_alloc (.cells #[.slice A3 M c3] 26) (by omega))
    clear p_77
    have wr_81 := wr_77.same (same_alloc (.cells #[.slice A3 M c3] 26) (by omega))
    clear wr_77
    have w0_81 := w0_77.same (same_alloc (.cells #[.slice A3 M c3] 26) (by omega))
    clear w0_77
    have gr_81 := gr_77.same (same_alloc (.cells #[.slice A3 M c3] 26) (by omega))
    clear gr_77
    have g0_81 := g0_77.same (same_alloc (.cells #[.slice A3 M c3] 26) (by omega))
    clear g0_77
    have hr_81 := hr_76.same (same_alloc (.cells #[.slice A3 M c3] 26) (by omega))
    clear hr_76
    have h0_82 : Bx (w13.alloc (.cells #[.slice A3 M c3] 26)) (w13.heap.size) 26 #[.slice A3 M c3] := Bx.new _ _ _
    have B_82 := B_76.alloc z_76 (.cells #[.slice A3 M c3] 26)
    clear B_76
    have cp_83 := p_81.cells
    have fp_83 := p_81.free
    have cw0_84 := w0_81.cells
    have fw0_84 := w0_81.free
    have cg0_85 := g0_81.cells
    have fg0_85 := g0_81.free
    have ch0_86 := h0_82.cells
    have fh0_86 := h0_82.free
    go_wp2_with fail
    refine (eqWindow_same _ _ M _ _ _ _ yss _ hr_81.rd wr_81.rd (by omega) (by omega)).mono ?_
    rintro e w14 ⟨rfl, b⟩
    clear cp_83 fp_83
    clear cw0_84 fw0_84
    clear cg0_85 fg0_85
    clear ch0_86 fh0_86
    simp only [World.size_alloc] at b
    have t_87 := b.size
    simp only [World.size_alloc] at t_87
    have z_87 : w.heap.size ≤ w14.heap.size := by omega
    have p_88 := p_81.same (same_below b (by omega))
    clear p_81
    have wr_88 := wr_81.same (same_below b (by omega))
    clear wr_81
    have w0_88 := w0_81.same (same_below b (by omega))
    clear w0_81
    have gr_88 := gr_81.same (same_below b (by omega))
    clear gr_81
    have g0_88 := g0_81.same (same_below b (by omega))
    clear g0_81
    have hr_88 := hr_81.same (same_below b (by omega))
    clear hr_81
    have h0_88 := h0_82.same (same_below b (by omega))
    clear h0_82
    have B_87 := B_82.trans (b.mono (by omega))
    clear B_82 b
    have cp_89 := p_88.cells
    have fp_89 := p_88.free
    have cw0_90 := w0_88.cells
    have fw0_90 := w0_88.free
    have cg0_91 := g0_88.cells
    have fg0_91 := g0_88.free
    have ch0_92 := h0_88.cells
    have fh0_92 := h0_88.free
    clear hr_88
    clear ch0_92 fh0_92
    clear h0_88
    clear wr_88
    clear cw0_90 fw0_90
    clear w0_88
    go_wp2_with fail
    refine (heldWindow_any _ M _ 1 _ _ _ gr_88.rd HLM.out (by omega) (by omega) (by omega)).mono ?_
    rintro e w15 ⟨rfl, b⟩
    clear cp_89 fp_89
    clear cg0_91 fg0_91
    have t_93 := b.size
    have z_93 : w.heap.size ≤ w15.heap.size := by omega
    have p_94 := p_88.same (same_below b (by omega))
    clear p_88
    have gr_94 := gr_88.same (same_below b (by omega))
    clear gr_88
    have g0_94 := g0_88.same (same_below b (by omega))
    clear g0_88
    have B_93 := B_87.trans (b.mono (by omega))
    clear B_87 b
    have cp_95 := p_94.cells
    have fp_95 := p_94.free
    have cg0_96 := g0_94.cells
    have fg0_96 := g0_94.free
    go_wp2_with fail
    go_ret
    exact ⟨rfl, B_93⟩
  · have HZ := Lib.hid (szI_no (left := 1048576) (n := (n : Int) + (tot (iss xss) : Int)) (by omega))
    have B0 := Below.refl w.heap.size w
    have s0 : w.heap.size ≤ w.heap.size := Nat.le_refl _
    go_enter Try.func6, Try.ntmps6
    have p_2 : Bx (w.alloc (.cells #[.slice A n c] 34)) (w.heap.size) 34 #[.slice A n c] := Bx.new _ _ _
    have B_2 := B0.alloc s0 (.cells #[.slice A n c] 34)
    clear B0
    have cp_3 := p_2.cells
    have fp_3 := p_2.free
    go_wp2_with fail
    refine (szWindow_any A n c hs (iss xss) 1048576 _ (by omega) (by omega) (by omega) (HR.out.below B_2 (Nat.le_refl _)) HBd.out).mono ?_
    rw [HZ.out]
    rintro e w1 ⟨rfl, b⟩
    clear cp_3 fp_3
    simp only [World.size_alloc] at b
    have t_4 := b.size
    simp only [World.size_alloc] at t_4
    have z_4 : w.heap.size ≤ w1.heap.size := by omega
    have p_5 := p_2.same (same_below b (by omega))
    clear p_2
    have B_4 := B_2.trans (b.mono (by omega))
    clear B_2 b
    have cp_6 := p_5.cells
    have fp_6 := p_5.free
    go_wp2_with fail
    go_ret
    exact ⟨rfl, B_4⟩

set_option maxRecDepth 100000 in
theorem walks : Walks 6 Try.f6 := by
  intro H enc W base args ds ps hval hA _
  rw [Try.params6] at hA hval
  obtain ⟨v0, vs0, d0, ds0, p0, q0, hargs, rfl, rfl, h0, r0⟩ := trodAll_cons hA
  obtain ⟨v1, vs1, d1, ds1, p1, q1, rfl, rfl, rfl, h1, r1⟩ := trodAll_cons r0
  obtain ⟨rfl, rfl, rfl⟩ := trodAll_nil r1
  obtain rfl : args = #[v0, v1] := by cases args; simp_all
  obtain ⟨cs0, rfl, hl0, nn0, hf0⟩ := open_agg Try.underlying34 (by kernel_rfl) (by kernel_rfl) (hval 0 34 v0 rfl rfl) h0
  obtain ⟨c0_0, _, e0_0, y0_0⟩ := hf0 0 _ rfl
  obtain ⟨a0_0, rfl⟩ : ∃ a0_0, cs0 = [a0_0] := by
    match cs0, hl0 with
    | [a0], _ => exact ⟨a0, rfl⟩
  simp only [List.getElem?_cons_zero, List.getElem?_cons_succ, Option.some.injEq] at e0_0
  subst e0_0
  obtain ⟨A0_0, n0_0, c0_0, g0_0, x0_0, rfl, hl0_0, hm0_0, hr0_0, hb0_0, w0_0⟩ := open_rows Try.underlying24 (by kernel_rfl) Try.underlying54 (by kernel_rfl) Try.underlying3 y0_0
  obtain ⟨a1, rfl, rfl, rfl, w1⟩ := open_int Try.underlying3 (hval 1 3 v1 rfl rfl) h1
  exact walk (w := W) A0_0 n0_0 c0_0 g0_0 x0_0 a1 hl0_0 hm0_0 hr0_0 hb0_0 w0_0 w1

set_option maxRecDepth 100000 in
theorem lifted (os : Os) (started : os.Started) (H : Type) (enc : TypeId × Value → H) :
    ReturnsInHanded {} Try.checked os 6 .any (Rows.fnExactWindowAddSpec.pre6 enc Try.prog Try.f6 Rows.fnExactWindowAddRow.domain false) (Rows.fnExactWindowAddSpec.post enc Try.prog Try.f6 false true false false) :=
  law_lifted started (by kernel_rfl) Try.func6
    (ChangeSpec.witness6 (enc := enc) (C := Try.checked) false ⟨#[], #[.agg #[.slice none 0 0], .int .i64 0], []⟩ 8 (by kernel_rfl) (by kernel_rfl) (by kernel_rfl) (by kernel_rfl))
    rfl rfl Try.underlying4 (fun ds h => match ds, h with | [_, _], _ => rfl) (by
      rw [Try.params6]
      intro t ht
      simp only [List.mem_cons, List.not_mem_nil, or_false] at ht
      rcases ht with rfl | rfl <;> exact ⟨by kernel_rfl, of_decide_eq_true (by kernel_rfl)⟩) walks

theorem over : Rows.fnExactWindowAddRow.holds Try.pinned (OpenSpec.ofChange Rows.fnExactWindowAddSpec) :=
  OpenClaim.holds_of_wide 6 Try.f6 rfl rfl rfl rfl rfl rfl rfl ⟨rfl, rfl, rfl, rfl, rfl⟩ rfl rfl rfl rfl rfl (by kernel_rfl) Try.func6 (by kernel_rfl)
    (of_decide_eq_true (by kernel_rfl)) (by unfold Func.isWrapper; first | (rw [if_pos (by decide +kernel)]; kernel_rfl) | (rw [if_neg (by decide +kernel)]; exact ⟨rfl, rfl⟩))
    (fun os started H enc _ => lifted os started H enc)

theorem proved : Rows.FnExactWindowAddSaid := over
#print axioms proved

end LawWindowAdd
end Go.Proofs.Ytnljlehbjdambaa
