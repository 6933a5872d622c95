/-
  Proved: laws.FnExactBuckets returns true for every window. Conditions: none.
-/
import Derived.Test.YtfeangiaghpfkaaObjB
import Derived.Test.YtfeangiaghpfkaaOpenSS
import Derived.Test.YtfeangiaghpfkaaObj
namespace Go.Proofs.Ytfeangiaghpfkaa
open Go.ChangeShapes Go.WideShapes Go.ChangeAt Go.RowKit Go.Deep
namespace LawBuckets
set_option linter.unusedSimpArgs false
set_option linter.unusedVariables false

theorem i64wf {z : Int} (h : (Lit.int .i64 z).wf = true) : -9223372036854775808 ≤ z ∧ z ≤ 9223372036854775807 := by
  simp [Lit.wf, IntKind.min, IntKind.max, IntKind.bits, IntKind.signed] at h
  omega
/-- toWindow, read from an earlier world on. -/
theorem to (A : Option Addr) (n c : Nat) (hs : List Hd) (xss : List (List Int)) (w W0 : World) (B : Nat) (h : RdSS w A n hs (iss xss)) (hn : n ≤ 1048576) (hb : totI xss ≤ 1048576) (hB : Below B W0 w) (hs' : B ≤ W0.heap.size) :
    Calls Try.prog 15 #[.agg #[.slice A n c]] w fun e w' => (∃ g gs, e = .returned (.agg #[.slice (some ⟨g, 0, none⟩) n n]) ∧ OwSS w.heap.size w'.heap.size w' (some ⟨g, 0, none⟩) n n gs (iss xss)) ∧ Below B W0 w' :=
  lift ((toWindow_any A n c hs xss w h hn hb).mono fun _ _ ⟨g, gs, h1, h2, h3⟩ => ⟨⟨g, gs, h1, h2⟩, h3⟩) hB hs'

set_option maxHeartbeats 4000000 in
theorem walk (w : World) (A : Option Addr) (n c : Nat) (hs : List Hd) (xss : List (List Int)) (hl : n ≤ c) (hm : c ≤ maxLen) (hr : RdSS w A n hs (iss xss)) (hb : ∀ x ∈ hs, x.2.1 ≤ x.2.2 ∧ x.2.2 ≤ maxLen) (hw : ∀ xs ∈ xss, ∀ z ∈ xs, (Lit.int .i64 z).wf = true) :
    Calls Try.prog 8 #[.agg #[.slice A n c]] w fun e w' => e = .returned (.bool true) ∧ Below w.heap.size w w' := by
  unfold maxLen at hm hb
  have HR := Lib.hid hr
  have HBd : Hid (∀ x ∈ hs, x.2.1 ≤ 9223372036854775807) := fun x hx => by have := hb x hx; omega
  have HW : Hid (∀ xs ∈ xss, ∀ x ∈ xs, -9223372036854775808 ≤ x ∧ x ≤ 9223372036854775807) := fun xs h1 x h2 => i64wf (hw xs h1 x h2)
  have HT := Lib.hid (tot_iss xss)
  clear hr hb hw
  by_cases hn : (n : Int) + (tot (iss xss) : Int) ≤ 1048576
  · have HZ := Lib.hid (szI_yes hn)
    obtain ⟨bs, hbs⟩ : ∃ bs, bucketsL xss = bs := ⟨_, rfl⟩
    obtain ⟨M, hM⟩ : ∃ M, bs.length = M := ⟨_, rfl⟩
    have hM24 : M ≤ 24 := by rw [← hM, ← hbs]; exact bk_len xss
    have HBs := Lib.hid hbs; have HM := Lib.hid hM
    clear hbs hM
    have ht : totI xss = tot (iss xss) := HT.out.symm
    have B0 := Below.refl w.heap.size w
    have s0 : w.heap.size ≤ w.heap.size := Nat.le_refl _
    go_enter Try.func8, Try.ntmps8
    have p_2 : Bx (w.alloc (.cells #[.slice A n c] 24)) (w.heap.size) 24 #[.slice A n c] := Bx.new _ _ _
    have B_2 := B0.alloc s0 (.cells #[.slice A n c] 24)
    clear B0
    have cp_3 := p_2.cells
    have fp_3 := p_2.free
    go_wp2_with fail
    refine (szWindow_any A n c hs (iss xss) 1048576 _ (by omega) (by omega) (by omega) (HR.out.below B_2 (Nat.le_refl _)) HBd.out).mono ?_
    rw [HZ.out]
    rintro e w1 ⟨rfl, b⟩
    clear cp_3 fp_3
    simp only [World.size_alloc] at b
    have t_4 := b.size
    simp only [World.size_alloc] at t_4
    have z_4 : w.heap.size ≤ w1.heap.size := by omega
    have p_5 := p_2.same (same_below b (by omega))
    clear p_2
    have B_4 := B_2.trans (b.mono (by omega))
    clear B_2 b
    have cp_6 := p_5.cells
    have fp_6 := p_5.free
    go_wp2_with fail
    refine (toWindow_any A n c hs xss _ (HR.out.below B_4 (Nat.le_refl _)) (by omega) (by omega)).mono ?_
    rintro e w2 ⟨g1, gsd, rfl, o, b⟩
    clear cp_6 fp_6
    have t_7 := b.size
    have z_7 : w.heap.size ≤ w2.heap.size := by omega
    have p_8 := p_5.same (same_below b (by omega))
    clear p_5
    have B_7 := B_4.trans (b.mono (by omega))
    clear B_4 b
    have d_7 := o
    clear o
    have cp_9 := p_8.cells
    have fp_9 := p_8.free
    go_wp2_with fail
    refine (sBuckets2 _ _ _ _ xss bs M _ HBs.out HM.out d_7.rd (by omega) (by omega)).mono ?_
    rintro e w3 ⟨A1, c1, rfl, o, b⟩
    clear cp_9 fp_9
    have t_10 := b.size
    have z_10 : w.heap.size ≤ w3.heap.size := by omega
    have p_11 := p_8.same (same_below b (by omega))
    clear p_8
    have d_11 := d_7.same (same_below b (by omega))
    clear d_7
    have B_10 := B_7.trans (b.mono (by omega))
    clear B_7 b
    have wr_10 := Ow2.of o
    clear o
    have cp_12 := p_11.cells
    have fp_12 := p_11.free
    clear d_11
    go_wp2_with fail
    refine (toWindow_any A n c hs xss _ (HR.out.below B_10 (Nat.le_refl _)) (by omega) (by omega)).mono ?_
    rintro e w4 ⟨g2, gsx, rfl, o, b⟩
    clear cp_12 fp_12
    have t_13 := b.size
    have z_13 : w.heap.size ≤ w4.heap.size := by omega
    have p_14 := p_11.same (same_below b (by omega))
    clear p_11
    have wr_14 := wr_10.same (same_below b (by omega))
    clear wr_10
    have B_13 := B_10.trans (b.mono (by omega))
    clear B_10 b
    have x_13 := o
    clear o
    have cp_15 := p_14.cells
    have fp_15 := p_14.free
    clear cp_15 fp_15
    have p_16 := p_14.same (same_alloc (.cells #[.slice (some ⟨g2, 0, none⟩) n n] 27) (by omega))
    clear p_14
    have wr_16 := wr_14.same (same_alloc (.cells #[.slice (some ⟨g2, 0, none⟩) n n] 27) (by omega))
    clear wr_14
    have x_16 := x_13.same (same_alloc (.cells #[.slice (some ⟨g2, 0, none⟩) n n] 27) (by omega))
    clear x_13
    have x0_17 : Bx (w4.alloc (.cells #[.slice (some ⟨g2, 0, none⟩) n n] 27)) (w4.heap.size) 27 #[.slice (some ⟨g2, 0, none⟩) n n] := Bx.new _ _ _
    have B_17 := B_13.alloc z_13 (.cells #[.slice (some ⟨g2, 0, none⟩) n n] 27)
    clear B_13
    have cp_18 := p_16.cells
    have fp_18 := p_16.free
    have cx0_19 := x0_17.cells
    have fx0_19 := x0_17.free
    go_wp2_with fail
    refine (iBuckets2 _ _ _ _ xss bs M _ HBs.out HM.out x_16.rd (by omega) (by omega) HW.out).mono ?_
    rintro e w5 ⟨A2, c2, rfl, o, b⟩
    clear cp_18 fp_18
    clear cx0_19 fx0_19
    simp only [World.size_alloc] at b o
    have t_20 := b.size
    simp only [World.size_alloc] at t_20
    have z_20 : w.heap.size ≤ w5.heap.size := by omega
    have p_21 := p_16.same (same_below b (by omega))
    clear p_16
    have wr_21 := wr_16.same (same_below b (by omega))
    clear wr_16
    have x_21 := x_16.same (same_below b (by omega))
    clear x_16
    have x0_21 := x0_17.same (same_below b (by omega))
    clear x0_17
    have B_20 := B_17.trans (b.mono (by omega))
    clear B_17 b
    have gr_20 := Ow2.of o
    clear o
    have cp_22 := p_21.cells
    have fp_22 := p_21.free
    have cx0_23 := x0_21.cells
    have fx0_23 := x0_21.free
    go_wp2_with fail
    refine (eqBucketS_same _ _ M _ _ bs _ gr_20.rd wr_21.rd (by omega)).mono ?_
    rintro e w6 ⟨rfl, b⟩
    clear cp_22 fp_22
    clear cx0_23 fx0_23
    have t_24 := b.size
    have z_24 : w.heap.size ≤ w6.heap.size := by omega
    have p_25 := p_21.same (same_below b (by omega))
    clear p_21
    have wr_25 := wr_21.same (same_below b (by omega))
    clear wr_21
    have x_25 := x_21.same (same_below b (by omega))
    clear x_21
    have x0_25 := x0_21.same (same_below b (by omega))
    clear x0_21
    have gr_25 := gr_20.same (same_below b (by omega))
    clear gr_20
    have B_24 := B_20.trans (b.mono (by omega))
    clear B_20 b
    have cp_26 := p_25.cells
    have fp_26 := p_25.free
    have cx0_27 := x0_25.cells
    have fx0_27 := x0_25.free
    go_wp2_with fail
    have lp_28 := p_25.lt
    have dp0_28 : w6.cell? ⟨w.heap.size, 0, none⟩ = some (.slice A n c) := p_25.cells 0
    have lx0_28 := x0_25.lt
    have dx00_28 : w6.cell? ⟨w4.heap.size, 0, none⟩ = some (.slice (some ⟨g2, 0, none⟩) n n) := x0_25.cells 0
    clear cp_26 fp_26
    clear cx0_27 fx0_27
    have HA_28 := Lib.hid B_24
    go_region_held3 (fun w' => w'.cell? ⟨w.heap.size, 0, none⟩ = some (.slice A n c) ∧ w'.cell? ⟨w4.heap.size, 0, none⟩ = some (.slice (some ⟨g2, 0, none⟩) n n) ∧ Below w6.heap.size w6 w')
      (first
        | exact ⟨dp0_28, dx00_28, (Below.refl _ _).drew⟩
        | exact ⟨(Below.cell (p := ⟨w.heap.size, 0, none⟩) b7 lp_28).trans dp0_28, (Below.cell (p := ⟨w4.heap.size, 0, none⟩) b7 lx0_28).trans dx00_28, b7⟩
        | exact ⟨(Below.cell (p := ⟨w.heap.size, 0, none⟩) b6 lp_28).trans dp0_28, (Below.cell (p := ⟨w4.heap.size, 0, none⟩) b6 lx0_28).trans dx00_28, b6⟩)
      (first
        | (go_at_call 15; go_split_ands; refine (to A n c hs xss _ w6 w6.heap.size (HR.out.below (HA_28.out.trans (Below.mono (by assumption) HA_28.out.size)) (Nat.le_refl _)) (by omega) (by omega) (by assumption) (Nat.le_refl _)).mono ?_; rintro e w' ⟨⟨g9, gs9, rfl, o6⟩, b6⟩)
        | (go_at_call 17; refine (lift (eqWindow_same _ _ _ _ _ _ _ xss _ (x_25.rd.below (by assumption) (Nat.le_refl _)) o6.rd (by omega) (by omega)) (by assumption) (Nat.le_refl _)).mono ?_; rintro e w7 ⟨rfl, b7⟩))
    have t_28 := b7.size
    have z_28 : w.heap.size ≤ w7.heap.size := by omega
    have p_29 := p_25.same (same_below b7 (by omega))
    clear p_25
    have wr_29 := wr_25.same (same_below b7 (by omega))
    clear wr_25
    have x_29 := x_25.same (same_below b7 (by omega))
    clear x_25
    have x0_29 := x0_25.same (same_below b7 (by omega))
    clear x0_25
    have gr_29 := gr_25.same (same_below b7 (by omega))
    clear gr_25
    have B_28 := B_24.trans (b7.mono (by omega))
    clear B_24 b7
    have cp_30 := p_29.cells
    have fp_30 := p_29.free
    have cx0_31 := x0_29.cells
    have fx0_31 := x0_29.free
    go_wp2_with fail
    refine (markWindow_any _ _ n _ 1 _ _ _ _ x_29 (by omega) (by omega) (by omega) (by omega)).mono ?_
    rintro e w8 ⟨rfl, o, gg⟩
    clear cp_30 fp_30
    clear cx0_31 fx0_31
    have t_32 := gg.size
    have z_32 : w.heap.size ≤ w8.heap.size := by omega
    have p_33 := p_29.same (same_only gg (by omega) (by omega))
    clear p_29
    have wr_33 := wr_29.same (same_only gg (by omega) (by omega))
    clear wr_29
    have x0_33 := x0_29.same (same_only gg (by omega) (by omega))
    clear x0_29
    have gr_33 := gr_29.same (same_only gg (by omega) (by omega))
    clear gr_29
    have x_32 := o
    clear x_29 o
    have B_32 := B_28.trans (gg.below (by omega) (by omega))
    clear B_28 gg
    have cp_34 := p_33.cells
    have fp_34 := p_33.free
    have cx0_35 := x0_33.cells
    have fx0_35 := x0_33.free
    go_wp2_with fail
    refine (eqBucketS_same _ _ M _ _ bs _ gr_33.rd wr_33.rd (by omega)).mono ?_
    rintro e w9 ⟨rfl, b⟩
    clear cp_34 fp_34
    clear cx0_35 fx0_35
    have t_36 := b.size
    have z_36 : w.heap.size ≤ w9.heap.size := by omega
    have p_37 := p_33.same (same_below b (by omega))
    clear p_33
    have wr_37 := wr_33.same (same_below b (by omega))
    clear wr_33
    have x_37 := x_32.same (same_below b (by omega))
    clear x_32
    have x0_37 := x0_33.same (same_below b (by omega))
    clear x0_33
    have gr_37 := gr_33.same (same_below b (by omega))
    clear gr_33
    have B_36 := B_32.trans (b.mono (by omega))
    clear B_32 b
    have cp_38 := p_37.cells
    have fp_38 := p_37.free
    have cx0_39 := x0_37.cells
    have fx0_39 := x0_37.free
    clear x_37
    clear cx0_39 fx0_39
    clear x0_37
    go_wp2_with fail
    refine (markB2 _ _ M _ 1 _ _ _ gr_37 (by omega) (by omega)).mono ?_
    rintro e w10 ⟨rfl, o, gg⟩
    clear cp_38 fp_38
    have t_40 := gg.size
    have z_40 : w.heap.size ≤ w10.heap.size := by omega
    have p_41 := p_37.same (same_only gg (by omega) (by omega))
    clear p_37
    have wr_41 := wr_37.same (same_only gg (by omega) (by omega))
    clear wr_37
    have gr_40 := o
    clear gr_37 o
    have B_40 := B_36.trans (gg.below (by omega) (by omega))
    clear B_36 gg
    have cp_42 := p_41.cells
    have fp_42 := p_41.free
    go_wp2_with fail
    refine (heldBucketS_any _ M _ 1 _ gr_40.rd (by omega) (by omega)).mono ?_
    rintro e w11 ⟨rfl, rfl⟩
    go_wp2_with fail
    refine (toWindow_any A n c hs xss _ (HR.out.below B_40 (Nat.le_refl _)) (by omega) (by omega)).mono ?_
    rintro e w11 ⟨g3, gsd, rfl, o, b⟩
    clear cp_42 fp_42
    have t_43 := b.size
    have z_43 : w.heap.size ≤ w11.heap.size := by omega
    have p_44 := p_41.same (same_below b (by omega))
    clear p_41
    have wr_44 := wr_41.same (same_below b (by omega))
    clear wr_41
    have gr_44 := gr_40.same (same_below b (by omega))
    clear gr_40
    have B_43 := B_40.trans (b.mono (by omega))
    clear B_40 b
    have d_43 := o
    clear o
    have cp_45 := p_44.cells
    have fp_45 := p_44.free
    go_wp2_with fail
    refine (iBuckets2 _ _ _ _ xss bs M _ HBs.out HM.out d_43.rd (by omega) (by omega) HW.out).mono ?_
    rintro e w12 ⟨A3, c3, rfl, o, b⟩
    clear cp_45 fp_45
    have t_46 := b.size
    have z_46 : w.heap.size ≤ w12.heap.size := by omega
    have p_47 := p_44.same (same_below b (by omega))
    clear p_44
    have wr_47 := wr_44.same (same_below b (by omega))
    clear wr_44
    have gr_47 := gr_44.same (same_below b (by omega))
    clear gr_44
    have d_47 := d_43.same (same_below b (by omega))
    clear d_43
    have B_46 := B_43.trans (b.mono (by omega))
    clear B_43 b
    have hr_46 := Ow2.of o
    clear o
    have cp_48 := p_47.cells
    have fp_48 := p_47.free
    clear d_47
    go_wp2_with fail
    refine (eqBucketS_same _ _ M _ _ bs _ hr_46.rd wr_47.rd (by omega)).mono ?_
    rintro e w13 ⟨rfl, b⟩
    clear cp_48 fp_48
    have t_49 := b.size
    have z_49 : w.heap.size ≤ w13.heap.size := by omega
    have p_50 := p_47.same (same_below b (by omega))
    clear p_47
    have wr_50 := wr_47.same (same_below b (by omega))
    clear wr_47
    have gr_50 := gr_47.same (same_below b (by omega))
    clear gr_47
    have hr_50 := hr_46.same (same_below b (by omega))
    clear hr_46
    have B_49 := B_46.trans (b.mono (by omega))
    clear B_46 b
    have cp_51 := p_50.cells
    have fp_51 := p_50.free
    clear hr_50
    clear wr_50
    go_wp2_with fail
    refine (heldBucketS_any _ M _ 1 _ gr_50.rd (by omega) (by omega)).mono ?_
    rintro e w14 ⟨rfl, rfl⟩
    go_wp2_with fail
    go_ret
    exact ⟨rfl, B_49⟩
  · have HZ := Lib.hid (szI_no (left := 1048576) (n := (n : Int) + (tot (iss xss) : Int)) (by omega))
    have B0 := Below.refl w.heap.size w
    have s0 : w.heap.size ≤ w.heap.size := Nat.le_refl _
    go_enter Try.func8, Try.ntmps8
    have p_2 : Bx (w.alloc (.cells #[.slice A n c] 24)) (w.heap.size) 24 #[.slice A n c] := Bx.new _ _ _
    have B_2 := B0.alloc s0 (.cells #[.slice A n c] 24)
    clear B0
    have cp_3 := p_2.cells
    have fp_3 := p_2.free
    go_wp2_with fail
    refine (szWindow_any A n c hs (iss xss) 1048576 _ (by omega) (by omega) (by omega) (HR.out.below B_2 (Nat.le_refl _)) HBd.out).mono ?_
    rw [HZ.out]
    rintro e w1 ⟨rfl, b⟩
    clear cp_3 fp_3
    simp only [World.size_alloc] at b
    have t_4 := b.size
    simp only [World.size_alloc] at t_4
    have z_4 : w.heap.size ≤ w1.heap.size := by omega
    have p_5 := p_2.same (same_below b (by omega))
    clear p_2
    have B_4 := B_2.trans (b.mono (by omega))
    clear B_2 b
    have cp_6 := p_5.cells
    have fp_6 := p_5.free
    go_wp2_with fail
    go_ret
    exact ⟨rfl, B_4⟩

theorem walks : Walks 8 Try.f8 := by
  intro H enc W base args ds ps hval hA _
  rw [Try.params8] at hA hval
  obtain ⟨v0, vs0, d0, ds0, p0, q0, hargs, rfl, rfl, h0, r0⟩ := trodAll_cons hA
  obtain ⟨rfl, rfl, rfl⟩ := trodAll_nil r0
  obtain rfl : args = #[v0] := by cases args; simp_all
  obtain ⟨cs0, rfl, hl0, nn0, hf0⟩ := open_agg Try.underlying24 (by kernel_rfl) (by kernel_rfl) (hval 0 24 v0 rfl rfl) h0
  obtain ⟨c0_0, _, e0_0, y0_0⟩ := hf0 0 _ rfl
  obtain ⟨a0_0, rfl⟩ : ∃ a0_0, cs0 = [a0_0] := by
    match cs0, hl0 with
    | [a0], _ => exact ⟨a0, rfl⟩
  simp only [List.getElem?_cons_zero, List.getElem?_cons_succ, Option.some.injEq] at e0_0
  subst e0_0
  obtain ⟨A0_0, n0_0, c0_0, g0_0, x0_0, rfl, hl0_0, hm0_0, hr0_0, hb0_0, w0_0⟩ := open_rows Try.underlying22 (by kernel_rfl) Try.underlying55 (by kernel_rfl) Try.underlying3 y0_0
  exact walk (w := W) A0_0 n0_0 c0_0 g0_0 x0_0 hl0_0 hm0_0 hr0_0 hb0_0 w0_0

set_option maxRecDepth 100000 in
theorem lifted (os : Os) (started : os.Started) (H : Type) (enc : TypeId × Value → H) :
    ReturnsInHanded {} Try.checked os 8 .any (Rows.fnExactBucketsSpec.pre6 enc Try.prog Try.f8 Rows.fnExactBucketsRow.domain false) (Rows.fnExactBucketsSpec.post enc Try.prog Try.f8 false true false false) :=
  law_lifted started (by kernel_rfl) Try.func8
    (ChangeSpec.witness6 (enc := enc) (C := Try.checked) false ⟨#[], #[.agg #[.slice none 0 0]], []⟩ 8 (by kernel_rfl) (by kernel_rfl) (by kernel_rfl) (by kernel_rfl))
    rfl rfl Try.underlying4 (fun ds h => match ds, h with | [_], _ => rfl) (by
      rw [Try.params8]
      intro t ht
      simp only [List.mem_cons, List.not_mem_nil, or_false] at ht
      subst ht
      exact ⟨by kernel_rfl, of_decide_eq_true (by kernel_rfl)⟩) walks

theorem over : Rows.fnExactBucketsRow.holds Try.pinned (OpenSpec.ofChange Rows.fnExactBucketsSpec) :=
  OpenClaim.holds_of_wide 8 Try.f8 rfl rfl rfl rfl rfl rfl rfl ⟨rfl, rfl, rfl, rfl, rfl⟩ rfl rfl rfl rfl rfl (by kernel_rfl) Try.func8 (by kernel_rfl)
    (of_decide_eq_true (by kernel_rfl)) (by unfold Func.isWrapper; first | (rw [if_pos (by decide +kernel)]; kernel_rfl) | (rw [if_neg (by decide +kernel)]; exact ⟨rfl, rfl⟩))
    (fun os started H enc _ => lifted os started H enc)

theorem proved : Rows.FnExactBucketsSaid := over
#print axioms proved

end LawBuckets
end Go.Proofs.Ytfeangiaghpfkaa
