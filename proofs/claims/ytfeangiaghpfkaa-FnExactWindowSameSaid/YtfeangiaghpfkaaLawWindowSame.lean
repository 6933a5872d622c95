/-
  Proved: laws.FnExactWindowSame returns true for every two windows. Conditions: none.
-/
import Derived.Test.YtfeangiaghpfkaaWinSame
import Derived.Test.YtfeangiaghpfkaaOpenSS
import Derived.Test.YtfeangiaghpfkaaObj
namespace Go.Proofs.Ytfeangiaghpfkaa
open Go.ChangeShapes Go.WideShapes Go.ChangeAt Go.RowKit Go.Deep
namespace LawWindowSame
set_option linter.unusedSimpArgs false
set_option linter.unusedVariables false

theorem i64wf {z : Int} (h : (Lit.int .i64 z).wf = true) : -9223372036854775808 ≤ z ∧ z ≤ 9223372036854775807 := by
  simp [Lit.wf, IntKind.min, IntKind.max, IntKind.bits, IntKind.signed] at h
  omega
/-- toWindow, read from an earlier world on. -/
theorem to (A : Option Addr) (n c : Nat) (hs : List Hd) (xss : List (List Int)) (w W0 : World) (B : Nat) (h : RdSS w A n hs (iss xss)) (hn : n ≤ 1048576) (hb : totI xss ≤ 1048576) (hB : Below B W0 w) (hs' : B ≤ W0.heap.size) :
    Calls Try.prog 15 #[.agg #[.slice A n c]] w fun e w' => (∃ g gs, e = .returned (.agg #[.slice (some ⟨g, 0, none⟩) n n]) ∧ OwSS w.heap.size w'.heap.size w' (some ⟨g, 0, none⟩) n n gs (iss xss)) ∧ Below B W0 w' :=
  lift ((toWindow_any A n c hs xss w h hn hb).mono fun _ _ ⟨g, gs, h1, h2, h3⟩ => ⟨⟨g, gs, h1, h2⟩, h3⟩) hB hs'

theorem to2 (A : Option Addr) (n c : Nat) (hs : List Hd) (xss : List (List Int)) (w W0 : World) (B : Nat) (h : RdSS w A n hs (iss xss)) (hn : n ≤ 1048576) (hb : totI xss ≤ 1048576) (hB : Below B W0 w) (hs' : B ≤ W0.heap.size) :
    Calls Try.prog 15 #[.agg #[.slice A n c]] w fun e w' => (∃ g gs, e = .returned (.agg #[.slice (some ⟨g, 0, none⟩) n n]) ∧ RdSS w' (some ⟨g, 0, none⟩) n gs (iss xss) ∧ Below w.heap.size w w') ∧ Below B W0 w' :=
  lift ((toWindow_any A n c hs xss w h hn hb).mono fun _ _ ⟨g, gs, h1, h2, h3⟩ => ⟨⟨g, gs, h1, h2.rd, h3⟩, h3⟩) hB hs'

set_option maxHeartbeats 4000000 in
theorem walk (w : World) (Aa : Option Addr) (na ca : Nat) (hsa : List Hd) (xssa : List (List Int)) (Ab : Option Addr) (nb cb : Nat) (hsb : List Hd) (xssb : List (List Int)) (hla : na ≤ ca) (hma : ca ≤ maxLen) (hra : RdSS w Aa na hsa (iss xssa)) (hba : ∀ x ∈ hsa, x.2.1 ≤ x.2.2 ∧ x.2.2 ≤ maxLen) (hwa : ∀ xs ∈ xssa, ∀ z ∈ xs, (Lit.int .i64 z).wf = true) (hlb : nb ≤ cb) (hmb : cb ≤ maxLen) (hrb : RdSS w Ab nb hsb (iss xssb)) (hbb : ∀ x ∈ hsb, x.2.1 ≤ x.2.2 ∧ x.2.2 ≤ maxLen) (hwb : ∀ xs ∈ xssb, ∀ z ∈ xs, (Lit.int .i64 z).wf = true) :
    Calls Try.prog 4 #[.agg #[.slice Aa na ca], .agg #[.slice Ab nb cb]] w fun e w' => e = .returned (.bool true) ∧ Below w.heap.size w w' := by
  unfold maxLen at hma hba hmb hbb
  have HRa := Lib.hid hra
  have HBda : Hid (∀ x ∈ hsa, x.2.1 ≤ 9223372036854775807) := fun x hx => by have := hba x hx; omega
  have HWa : Hid (∀ xs ∈ xssa, ∀ x ∈ xs, -9223372036854775808 ≤ x ∧ x ≤ 9223372036854775807) := fun xs h1 x h2 => i64wf (hwa xs h1 x h2)
  have HTa := Lib.hid (tot_iss xssa)
  have HRb := Lib.hid hrb
  have HBdb : Hid (∀ x ∈ hsb, x.2.1 ≤ 9223372036854775807) := fun x hx => by have := hbb x hx; omega
  have HWb : Hid (∀ xs ∈ xssb, ∀ x ∈ xs, -9223372036854775808 ≤ x ∧ x ≤ 9223372036854775807) := fun xs h1 x h2 => i64wf (hwb xs h1 x h2)
  have HTb := Lib.hid (tot_iss xssb)
  clear hra hba hwa hrb hbb hwb
  by_cases hna : (na : Int) + (tot (iss xssa) : Int) ≤ 1048576
  · have HZa := Lib.hid (szI_yes hna)
    by_cases hnb : (nb : Int) + (tot (iss xssb) : Int) ≤ (1048576 - ((na : Int) + (tot (iss xssa) : Int)))
    · have HZb := Lib.hid (szI_yes hnb)
      obtain ⟨z, hz⟩ : ∃ z, decide (xssa = xssb) = z := ⟨_, rfl⟩
      have HD := Lib.hid hz
      clear hz
      have hta : totI xssa = tot (iss xssa) := HTa.out.symm
      have htb : totI xssb = tot (iss xssb) := HTb.out.symm
      have B0 := Below.refl w.heap.size w
      have s0 : w.heap.size ≤ w.heap.size := Nat.le_refl _
      go_enter Try.func4, Try.ntmps4
      have pa_2 : Bx (w.alloc (.cells #[.slice Aa na ca] 24)) (w.heap.size) 24 #[.slice Aa na ca] := Bx.new _ _ _
      have B_2 := B0.alloc s0 (.cells #[.slice Aa na ca] 24)
      clear B0
      have cpa_3 := pa_2.cells
      have fpa_3 := pa_2.free
      clear cpa_3 fpa_3
      have pa_4 := pa_2.same (same_alloc (.cells #[.slice Ab nb cb] 24) (by simp only [World.size_alloc]; omega))
      clear pa_2
      have pb_5 : Bx ((w.alloc (.cells #[.slice Aa na ca] 24)).alloc (.cells #[.slice Ab nb cb] 24)) (w.heap.size + 1) 24 #[.slice Ab nb cb] := by
        have h := Bx.new (w.alloc (.cells #[.slice Aa na ca] 24)) 24 #[.slice Ab nb cb]
        simpa only [World.size_alloc] using h
      have B_5 := B_2.alloc (by simp only [World.size_alloc]; omega) (.cells #[.slice Ab nb cb] 24)
      clear B_2
      have cpa_6 := pa_4.cells
      have fpa_6 := pa_4.free
      have cpb_7 := pb_5.cells
      have fpb_7 := pb_5.free
      go_wp2_with fail
      refine (szWindow_any Aa na ca hsa (iss xssa) 1048576 _ (by omega) (by omega) (by omega) (HRa.out.below B_5 (Nat.le_refl _)) HBda.out).mono ?_
      rw [HZa.out]
      rintro e w1 ⟨rfl, b⟩
      clear cpa_6 fpa_6
      clear cpb_7 fpb_7
      simp only [World.size_alloc] at b
      have t_8 := b.size
      simp only [World.size_alloc] at t_8
      have z_8 : w.heap.size ≤ w1.heap.size := by omega
      have pa_9 := pa_4.same (same_below b (by omega))
      clear pa_4
      have pb_9 := pb_5.same (same_below b (by omega))
      clear pb_5
      have B_8 := B_5.trans (b.mono (by omega))
      clear B_5 b
      have cpa_10 := pa_9.cells
      have fpa_10 := pa_9.free
      have cpb_11 := pb_9.cells
      have fpb_11 := pb_9.free
      go_wp2_with fail
      refine (szWindow_any Ab nb cb hsb (iss xssb) (1048576 - ((na : Int) + (tot (iss xssa) : Int))) _ (by omega) (by omega) (by omega) (HRb.out.below B_8 (Nat.le_refl _)) HBdb.out).mono ?_
      rw [HZb.out]
      rintro e w2 ⟨rfl, b⟩
      clear cpa_10 fpa_10
      clear cpb_11 fpb_11
      have t_12 := b.size
      have z_12 : w.heap.size ≤ w2.heap.size := by omega
      have pa_13 := pa_9.same (same_below b (by omega))
      clear pa_9
      have pb_13 := pb_9.same (same_below b (by omega))
      clear pb_9
      have B_12 := B_8.trans (b.mono (by omega))
      clear B_8 b
      have cpa_14 := pa_13.cells
      have fpa_14 := pa_13.free
      have cpb_15 := pb_13.cells
      have fpb_15 := pb_13.free
      go_wp2_with fail
      have lpa_16 := pa_13.lt
      have dpa0_16 : Hid (w2.cell? ⟨w.heap.size, 0, none⟩ = some (.slice Aa na ca)) := pa_13.cells 0
      have lpb_16 := pb_13.lt
      have dpb0_16 : Hid (w2.cell? ⟨w.heap.size + 1, 0, none⟩ = some (.slice Ab nb cb)) := pb_13.cells 0
      clear cpa_14 fpa_14
      clear cpb_15 fpb_15
      have HA_16 := Lib.hid B_12
      go_region_held3 (fun w' => w'.cell? ⟨w.heap.size, 0, none⟩ = some (.slice Aa na ca) ∧ w'.cell? ⟨w.heap.size + 1, 0, none⟩ = some (.slice Ab nb cb) ∧ Below w2.heap.size w2 w')
        (first
          | exact ⟨dpa0_16.out, dpb0_16.out, (Below.refl _ _).drew⟩
          | exact ⟨(Below.cell (p := ⟨w.heap.size, 0, none⟩) b9 lpa_16).trans dpa0_16.out, (Below.cell (p := ⟨w.heap.size + 1, 0, none⟩) b9 lpb_16).trans dpb0_16.out, b9⟩
          | exact ⟨(Below.cell (p := ⟨w.heap.size, 0, none⟩) b8 lpa_16).trans dpa0_16.out, (Below.cell (p := ⟨w.heap.size + 1, 0, none⟩) b8 lpb_16).trans dpb0_16.out, b8⟩
          | exact ⟨(Below.cell (p := ⟨w.heap.size, 0, none⟩) b7 lpa_16).trans dpa0_16.out, (Below.cell (p := ⟨w.heap.size + 1, 0, none⟩) b7 lpb_16).trans dpb0_16.out, b7⟩)
        (first
          | (go_at_call 15; go_split_ands; refine (to2 Aa na ca hsa xssa _ w2 w2.heap.size (HRa.out.below (HA_16.out.trans (Below.mono (by assumption) HA_16.out.size)) (Nat.le_refl _)) (by omega) (by omega) (by assumption) (Nat.le_refl _)).mono ?_; rintro e w' ⟨⟨g7, gs7, rfl, r7, c7⟩, b7⟩; try (replace r8 := r8.below c7 (Nat.le_refl _)))
          | (go_at_call 15; go_split_ands; refine (to2 Ab nb cb hsb xssb _ w2 w2.heap.size (HRb.out.below (HA_16.out.trans (Below.mono (by assumption) HA_16.out.size)) (Nat.le_refl _)) (by omega) (by omega) (by assumption) (Nat.le_refl _)).mono ?_; rintro e w' ⟨⟨g8, gs8, rfl, r8, c8⟩, b8⟩; try (replace r7 := r7.below c8 (Nat.le_refl _)))
          | (go_at_call 18; refine (lift (W0 := w2) (B := w2.heap.size) (sWindowSame_any _ _ _ _ _ _ _ _ xssa xssb _ r7 r8 (by omega) (by omega) (by omega) (by omega)) (by assumption) (Nat.le_refl _)).mono ?_; rw [HD.out]; rintro e w3 ⟨rfl, b9⟩))
      have t_16 := b9.size
      have z_16 : w.heap.size ≤ w3.heap.size := by omega
      have pa_17 := pa_13.same (same_below b9 (by omega))
      clear pa_13
      have pb_17 := pb_13.same (same_below b9 (by omega))
      clear pb_13
      have B_16 := B_12.trans (b9.mono (by omega))
      clear B_12 b9
      have cpa_18 := pa_17.cells
      have fpa_18 := pa_17.free
      have cpb_19 := pb_17.cells
      have fpb_19 := pb_17.free
      go_wp2_with fail
      refine (toWindow_any Aa na ca hsa xssa _ (HRa.out.below B_16 (Nat.le_refl _)) (by omega) (by omega)).mono ?_
      rintro e w4 ⟨g2, gsx, rfl, o, b⟩
      clear cpa_18 fpa_18
      clear cpb_19 fpb_19
      have t_20 := b.size
      have z_20 : w.heap.size ≤ w4.heap.size := by omega
      have pa_21 := pa_17.same (same_below b (by omega))
      clear pa_17
      have pb_21 := pb_17.same (same_below b (by omega))
      clear pb_17
      have B_20 := B_16.trans (b.mono (by omega))
      clear B_16 b
      have x_20 := o
      clear o
      have cpa_22 := pa_21.cells
      have fpa_22 := pa_21.free
      have cpb_23 := pb_21.cells
      have fpb_23 := pb_21.free
      clear cpa_22 fpa_22
      clear cpb_23 fpb_23
      have pa_24 := pa_21.same (same_alloc (.cells #[.slice (some ⟨g2, 0, none⟩) na na] 27) (by omega))
      clear pa_21
      have pb_24 := pb_21.same (same_alloc (.cells #[.slice (some ⟨g2, 0, none⟩) na na] 27) (by omega))
      clear pb_21
      have x_24 := x_20.same (same_alloc (.cells #[.slice (some ⟨g2, 0, none⟩) na na] 27) (by omega))
      clear x_20
      have x0_25 : Bx (w4.alloc (.cells #[.slice (some ⟨g2, 0, none⟩) na na] 27)) (w4.heap.size) 27 #[.slice (some ⟨g2, 0, none⟩) na na] := Bx.new _ _ _
      have B_25 := B_20.alloc z_20 (.cells #[.slice (some ⟨g2, 0, none⟩) na na] 27)
      clear B_20
      have cpa_26 := pa_24.cells
      have fpa_26 := pa_24.free
      have cpb_27 := pb_24.cells
      have fpb_27 := pb_24.free
      have cx0_28 := x0_25.cells
      have fx0_28 := x0_25.free
      go_wp2_with fail
      refine (toWindow_any Ab nb cb hsb xssb _ (HRb.out.below B_25 (Nat.le_refl _)) (by omega) (by omega)).mono ?_
      rintro e w5 ⟨g3, gsy, rfl, o, b⟩
      clear cpa_26 fpa_26
      clear cpb_27 fpb_27
      clear cx0_28 fx0_28
      simp only [World.size_alloc] at b o
      have t_29 := b.size
      simp only [World.size_alloc] at t_29
      have z_29 : w.heap.size ≤ w5.heap.size := by omega
      have pa_30 := pa_24.same (same_below b (by omega))
      clear pa_24
      have pb_30 := pb_24.same (same_below b (by omega))
      clear pb_24
      have x_30 := x_24.same (same_below b (by omega))
      clear x_24
      have x0_30 := x0_25.same (same_below b (by omega))
      clear x0_25
      have B_29 := B_25.trans (b.mono (by omega))
      clear B_25 b
      have y_29 := o
      clear o
      have cpa_31 := pa_30.cells
      have fpa_31 := pa_30.free
      have cpb_32 := pb_30.cells
      have fpb_32 := pb_30.free
      have cx0_33 := x0_30.cells
      have fx0_33 := x0_30.free
      clear cpa_31 fpa_31
      clear cpb_32 fpb_32
      clear cx0_33 fx0_33
      have pa_34 := pa_30.same (same_alloc (.cells #[.slice (some ⟨g3, 0, none⟩) nb nb] 27) (by omega))
      clear pa_30
      have pb_34 := pb_30.same (same_alloc (.cells #[.slice (some ⟨g3, 0, none⟩) nb nb] 27) (by omega))
      clear pb_30
      have x_34 := x_30.same (same_alloc (.cells #[.slice (some ⟨g3, 0, none⟩) nb nb] 27) (by omega))
      clear x_30
      have x0_34 := x0_30.same (same_alloc (.cells #[.slice (some ⟨g3, 0, none⟩) nb nb] 27) (by omega))
      clear x0_30
      have y_34 := y_29.same (same_alloc (.cells #[.slice (some ⟨g3, 0, none⟩) nb nb] 27) (by omega))
      clear y_29
      have y0_35 : Bx (w5.alloc (.cells #[.slice (some ⟨g3, 0, none⟩) nb nb] 27)) (w5.heap.size) 27 #[.slice (some ⟨g3, 0, none⟩) nb nb] := Bx.new _ _ _
      have B_35 := B_29.alloc z_29 (.cells #[.slice (some ⟨g3, 0, none⟩) nb nb] 27)
      clear B_29
      have cpa_36 := pa_34.cells
      have fpa_36 := pa_34.free
      have cpb_37 := pb_34.cells
      have fpb_37 := pb_34.free
      have cx0_38 := x0_34.cells
      have fx0_38 := x0_34.free
      have cy0_39 := y0_35.cells
      have fy0_39 := y0_35.free
      go_wp2_with fail
      refine (iWindowSame_any _ _ _ _ _ _ _ _ xssa xssb _ x_34.rd y_34.rd (by omega) (by omega) (by omega) (by omega)).mono ?_
      rw [HD.out]
      rintro e w6 ⟨rfl, b⟩
      clear cpa_36 fpa_36
      clear cpb_37 fpb_37
      clear cx0_38 fx0_38
      clear cy0_39 fy0_39
      simp only [World.size_alloc] at b
      have t_40 := b.size
      simp only [World.size_alloc] at t_40
      have z_40 : w.heap.size ≤ w6.heap.size := by omega
      have pa_41 := pa_34.same (same_below b (by omega))
      clear pa_34
      have pb_41 := pb_34.same (same_below b (by omega))
      clear pb_34
      have x_41 := x_34.same (same_below b (by omega))
      clear x_34
      have x0_41 := x0_34.same (same_below b (by omega))
      clear x0_34
      have y_41 := y_34.same (same_below b (by omega))
      clear y_34
      have y0_41 := y0_35.same (same_below b (by omega))
      clear y0_35
      have B_40 := B_35.trans (b.mono (by omega))
      clear B_35 b
      have cpa_42 := pa_41.cells
      have fpa_42 := pa_41.free
      have cpb_43 := pb_41.cells
      have fpb_43 := pb_41.free
      have cx0_44 := x0_41.cells
      have fx0_44 := x0_41.free
      have cy0_45 := y0_41.cells
      have fy0_45 := y0_41.free
      go_wp2_with fail
      have lpa_46 := pa_41.lt
      have dpa0_46 : w6.cell? ⟨w.heap.size, 0, none⟩ = some (.slice Aa na ca) := pa_41.cells 0
      have lx0_46 := x0_41.lt
      have dx00_46 : w6.cell? ⟨w4.heap.size, 0, none⟩ = some (.slice (some ⟨g2, 0, none⟩) na na) := x0_41.cells 0
      clear cpa_42 fpa_42
      clear cpb_43 fpb_43
      clear cx0_44 fx0_44
      clear cy0_45 fy0_45
      have HA_46 := Lib.hid B_40
      go_region_held3 (fun w' => w'.cell? ⟨w.heap.size, 0, none⟩ = some (.slice Aa na ca) ∧ w'.cell? ⟨w4.heap.size, 0, none⟩ = some (.slice (some ⟨g2, 0, none⟩) na na) ∧ Below w6.heap.size w6 w')
        (first
          | exact ⟨dpa0_46, dx00_46, (Below.refl _ _).drew⟩
          | exact ⟨(Below.cell (p := ⟨w.heap.size, 0, none⟩) b7 lpa_46).trans dpa0_46, (Below.cell (p := ⟨w4.heap.size, 0, none⟩) b7 lx0_46).trans dx00_46, b7⟩
          | exact ⟨(Below.cell (p := ⟨w.heap.size, 0, none⟩) b6 lpa_46).trans dpa0_46, (Below.cell (p := ⟨w4.heap.size, 0, none⟩) b6 lx0_46).trans dx00_46, b6⟩)
        (first
          | (go_at_call 15; go_split_ands; refine (to Aa na ca hsa xssa _ w6 w6.heap.size (HRa.out.below (HA_46.out.trans (Below.mono (by assumption) HA_46.out.size)) (Nat.le_refl _)) (by omega) (by omega) (by assumption) (Nat.le_refl _)).mono ?_; rintro e w' ⟨⟨g9, gs9, rfl, o6⟩, b6⟩)
          | (go_at_call 17; refine (lift (eqWindow_same _ _ _ _ _ _ _ xssa _ (x_41.rd.below (by assumption) (Nat.le_refl _)) o6.rd (by omega) (by omega)) (by assumption) (Nat.le_refl _)).mono ?_; rintro e w7 ⟨rfl, b7⟩))
      have t_46 := b7.size
      have z_46 : w.heap.size ≤ w7.heap.size := by omega
      have pa_47 := pa_41.same (same_below b7 (by omega))
      clear pa_41
      have pb_47 := pb_41.same (same_below b7 (by omega))
      clear pb_41
      have x_47 := x_41.same (same_below b7 (by omega))
      clear x_41
      have x0_47 := x0_41.same (same_below b7 (by omega))
      clear x0_41
      have y_47 := y_41.same (same_below b7 (by omega))
      clear y_41
      have y0_47 := y0_41.same (same_below b7 (by omega))
      clear y0_41
      have B_46 := B_40.trans (b7.mono (by omega))
      clear B_40 b7
      have cpa_48 := pa_47.cells
      have fpa_48 := pa_47.free
      have cpb_49 := pb_47.cells
      have fpb_49 := pb_47.free
      have cx0_50 := x0_47.cells
      have fx0_50 := x0_47.free
      have cy0_51 := y0_47.cells
      have fy0_51 := y0_47.free
      go_wp2_with fail
      have lpb_52 := pb_47.lt
      have dpb0_52 : w7.cell? ⟨w.heap.size + 1, 0, none⟩ = some (.slice Ab nb cb) := pb_47.cells 0
      have ly0_52 := y0_47.lt
      have dy00_52 : w7.cell? ⟨w5.heap.size, 0, none⟩ = some (.slice (some ⟨g3, 0, none⟩) nb nb) := y0_47.cells 0
      clear cpa_48 fpa_48
      clear cpb_49 fpb_49
      clear cx0_50 fx0_50
      clear cy0_51 fy0_51
      have HA_52 := Lib.hid B_46
      go_region_held3 (fun w' => w'.cell? ⟨w.heap.size + 1, 0, none⟩ = some (.slice Ab nb cb) ∧ w'.cell? ⟨w5.heap.size, 0, none⟩ = some (.slice (some ⟨g3, 0, none⟩) nb nb) ∧ Below w7.heap.size w7 w')
        (first
          | exact ⟨dpb0_52, dy00_52, (Below.refl _ _).drew⟩
          | exact ⟨(Below.cell (p := ⟨w.heap.size + 1, 0, none⟩) b7 lpb_52).trans dpb0_52, (Below.cell (p := ⟨w5.heap.size, 0, none⟩) b7 ly0_52).trans dy00_52, b7⟩
          | exact ⟨(Below.cell (p := ⟨w.heap.size + 1, 0, none⟩) b6 lpb_52).trans dpb0_52, (Below.cell (p := ⟨w5.heap.size, 0, none⟩) b6 ly0_52).trans dy00_52, b6⟩)
        (first
          | (go_at_call 15; go_split_ands; refine (to Ab nb cb hsb xssb _ w7 w7.heap.size (HRb.out.below (HA_52.out.trans (Below.mono (by assumption) HA_52.out.size)) (Nat.le_refl _)) (by omega) (by omega) (by assumption) (Nat.le_refl _)).mono ?_; rintro e w' ⟨⟨g9, gs9, rfl, o6⟩, b6⟩)
          | (go_at_call 17; refine (lift (eqWindow_same _ _ _ _ _ _ _ xssb _ (y_47.rd.below (by assumption) (Nat.le_refl _)) o6.rd (by omega) (by omega)) (by assumption) (Nat.le_refl _)).mono ?_; rintro e w8 ⟨rfl, b7⟩))
      have t_52 := b7.size
      have z_52 : w.heap.size ≤ w8.heap.size := by omega
      have pa_53 := pa_47.same (same_below b7 (by omega))
      clear pa_47
      have pb_53 := pb_47.same (same_below b7 (by omega))
      clear pb_47
      have x_53 := x_47.same (same_below b7 (by omega))
      clear x_47
      have x0_53 := x0_47.same (same_below b7 (by omega))
      clear x0_47
      have y_53 := y_47.same (same_below b7 (by omega))
      clear y_47
      have y0_53 := y0_47.same (same_below b7 (by omega))
      clear y0_47
      have B_52 := B_46.trans (b7.mono (by omega))
      clear B_46 b7
      have cpa_54 := pa_53.cells
      have fpa_54 := pa_53.free
      have cpb_55 := pb_53.cells
      have fpb_55 := pb_53.free
      have cx0_56 := x0_53.cells
      have fx0_56 := x0_53.free
      have cy0_57 := y0_53.cells
      have fy0_57 := y0_53.free
      go_wp2_with fail
      go_ret
      exact ⟨rfl, B_52⟩
    · have HZb := Lib.hid (szI_no (left := (1048576 - ((na : Int) + (tot (iss xssa) : Int)))) (n := (nb : Int) + (tot (iss xssb) : Int)) (by omega))
      have B0 := Below.refl w.heap.size w
      have s0 : w.heap.size ≤ w.heap.size := Nat.le_refl _
      go_enter Try.func4, Try.ntmps4
      have pa_2 : Bx (w.alloc (.cells #[.slice Aa na ca] 24)) (w.heap.size) 24 #[.slice Aa na ca] := Bx.new _ _ _
      have B_2 := B0.alloc s0 (.cells #[.slice Aa na ca] 24)
      clear B0
      have cpa_3 := pa_2.cells
      have fpa_3 := pa_2.free
      clear cpa_3 fpa_3
      have pa_4 := pa_2.same (same_alloc (.cells #[.slice Ab nb cb] 24) (by simp only [World.size_alloc]; omega))
      clear pa_2
      have pb_5 : Bx ((w.alloc (.cells #[.slice Aa na ca] 24)).alloc (.cells #[.slice Ab nb cb] 24)) (w.heap.size + 1) 24 #[.slice Ab nb cb] := by
        have h := Bx.new (w.alloc (.cells #[.slice Aa na ca] 24)) 24 #[.slice Ab nb cb]
        simpa only [World.size_alloc] using h
      have B_5 := B_2.alloc (by simp only [World.size_alloc]; omega) (.cells #[.slice Ab nb cb] 24)
      clear B_2
      have cpa_6 := pa_4.cells
      have fpa_6 := pa_4.free
      have cpb_7 := pb_5.cells
      have fpb_7 := pb_5.free
      go_wp2_with fail
      refine (szWindow_any Aa na ca hsa (iss xssa) 1048576 _ (by omega) (by omega) (by omega) (HRa.out.below B_5 (Nat.le_refl _)) HBda.out).mono ?_
      rw [HZa.out]
      rintro e w1 ⟨rfl, b⟩
      clear cpa_6 fpa_6
      clear cpb_7 fpb_7
      simp only [World.size_alloc] at b
      have t_8 := b.size
      simp only [World.size_alloc] at t_8
      have z_8 : w.heap.size ≤ w1.heap.size := by omega
      have pa_9 := pa_4.same (same_below b (by omega))
      clear pa_4
      have pb_9 := pb_5.same (same_below b (by omega))
      clear pb_5
      have B_8 := B_5.trans (b.mono (by omega))
      clear B_5 b
      have cpa_10 := pa_9.cells
      have fpa_10 := pa_9.free
      have cpb_11 := pb_9.cells
      have fpb_11 := pb_9.free
      go_wp2_with fail
      refine (szWindow_any Ab nb cb hsb (iss xssb) (1048576 - ((na : Int) + (tot (iss xssa) : Int))) _ (by omega) (by omega) (by omega) (HRb.out.below B_8 (Nat.le_refl _)) HBdb.out).mono ?_
      rw [HZb.out]
      rintro e w2 ⟨rfl, b⟩
      clear cpa_10 fpa_10
      clear cpb_11 fpb_11
      have t_12 := b.size
      have z_12 : w.heap.size ≤ w2.heap.size := by omega
      have pa_13 := pa_9.same (same_below b (by omega))
      clear pa_9
      have pb_13 := pb_9.same (same_below b (by omega))
      clear pb_9
      have B_12 := B_8.trans (b.mono (by omega))
      clear B_8 b
      have cpa_14 := pa_13.cells
      have fpa_14 := pa_13.free
      have cpb_15 := pb_13.cells
      have fpb_15 := pb_13.free
      go_wp2_with fail
      go_ret
      exact ⟨rfl, B_12⟩
  · have HZa := Lib.hid (szI_no (left := 1048576) (n := (na : Int) + (tot (iss xssa) : Int)) (by omega))
    have B0 := Below.refl w.heap.size w
    have s0 : w.heap.size ≤ w.heap.size := Nat.le_refl _
    go_enter Try.func4, Try.ntmps4
    have pa_2 : Bx (w.alloc (.cells #[.slice Aa na ca] 24)) (w.heap.size) 24 #[.slice Aa na ca] := Bx.new _ _ _
    have B_2 := B0.alloc s0 (.cells #[.slice Aa na ca] 24)
    clear B0
    have cpa_3 := pa_2.cells
    have fpa_3 := pa_2.free
    clear cpa_3 fpa_3
    have pa_4 := pa_2.same (same_alloc (.cells #[.slice Ab nb cb] 24) (by simp only [World.size_alloc]; omega))
    clear pa_2
    have pb_5 : Bx ((w.alloc (.cells #[.slice Aa na ca] 24)).alloc (.cells #[.slice Ab nb cb] 24)) (w.heap.size + 1) 24 #[.slice Ab nb cb] := by
      have h := Bx.new (w.alloc (.cells #[.slice Aa na ca] 24)) 24 #[.slice Ab nb cb]
      simpa only [World.size_alloc] using h
    have B_5 := B_2.alloc (by simp only [World.size_alloc]; omega) (.cells #[.slice Ab nb cb] 24)
    clear B_2
    have cpa_6 := pa_4.cells
    have fpa_6 := pa_4.free
    have cpb_7 := pb_5.cells
    have fpb_7 := pb_5.free
    go_wp2_with fail
    refine (szWindow_any Aa na ca hsa (iss xssa) 1048576 _ (by omega) (by omega) (by omega) (HRa.out.below B_5 (Nat.le_refl _)) HBda.out).mono ?_
    rw [HZa.out]
    rintro e w1 ⟨rfl, b⟩
    clear cpa_6 fpa_6
    clear cpb_7 fpb_7
    simp only [World.size_alloc] at b
    have t_8 := b.size
    simp only [World.size_alloc] at t_8
    have z_8 : w.heap.size ≤ w1.heap.size := by omega
    have pa_9 := pa_4.same (same_below b (by omega))
    clear pa_4
    have pb_9 := pb_5.same (same_below b (by omega))
    clear pb_5
    have B_8 := B_5.trans (b.mono (by omega))
    clear B_5 b
    have cpa_10 := pa_9.cells
    have fpa_10 := pa_9.free
    have cpb_11 := pb_9.cells
    have fpb_11 := pb_9.free
    go_wp2_with fail
    go_ret
    exact ⟨rfl, B_8⟩

theorem walks : Walks 4 Try.f4 := by
  intro H enc W base args ds ps hval hA _
  rw [Try.params4] at hA hval
  obtain ⟨v0, vs0, d0, ds0, p0, q0, hargs, rfl, rfl, h0, r0⟩ := trodAll_cons hA
  obtain ⟨v1, vs1, d1, ds1, p1, q1, rfl, rfl, rfl, h1, r1⟩ := trodAll_cons r0
  obtain ⟨rfl, rfl, rfl⟩ := trodAll_nil r1
  obtain rfl : args = #[v0, v1] := by cases args; simp_all
  obtain ⟨cs0, rfl, hl0, nn0, hf0⟩ := open_agg Try.underlying24 (by kernel_rfl) (by kernel_rfl) (hval 0 24 v0 rfl rfl) h0
  obtain ⟨c0_0, _, e0_0, y0_0⟩ := hf0 0 _ rfl
  obtain ⟨a0_0, rfl⟩ : ∃ a0_0, cs0 = [a0_0] := by
    match cs0, hl0 with
    | [a0], _ => exact ⟨a0, rfl⟩
  simp only [List.getElem?_cons_zero, List.getElem?_cons_succ, Option.some.injEq] at e0_0
  subst e0_0
  obtain ⟨A0_0, n0_0, c0_0, g0_0, x0_0, rfl, hl0_0, hm0_0, hr0_0, hb0_0, w0_0⟩ := open_rows Try.underlying22 (by kernel_rfl) Try.underlying55 (by kernel_rfl) Try.underlying3 y0_0
  obtain ⟨cs1, rfl, hl1, nn1, hf1⟩ := open_agg Try.underlying24 (by kernel_rfl) (by kernel_rfl) (hval 1 24 v1 rfl rfl) h1
  obtain ⟨c1_0, _, e1_0, y1_0⟩ := hf1 0 _ rfl
  obtain ⟨a1_0, rfl⟩ : ∃ a1_0, cs1 = [a1_0] := by
    match cs1, hl1 with
    | [a0], _ => exact ⟨a0, rfl⟩
  simp only [List.getElem?_cons_zero, List.getElem?_cons_succ, Option.some.injEq] at e1_0
  subst e1_0
  obtain ⟨A1_0, n1_0, c1_0, g1_0, x1_0, rfl, hl1_0, hm1_0, hr1_0, hb1_0, w1_0⟩ := open_rows Try.underlying22 (by kernel_rfl) Try.underlying55 (by kernel_rfl) Try.underlying3 y1_0
  exact walk (w := W) A0_0 n0_0 c0_0 g0_0 x0_0 A1_0 n1_0 c1_0 g1_0 x1_0 hl0_0 hm0_0 hr0_0 hb0_0 w0_0 hl1_0 hm1_0 hr1_0 hb1_0 w1_0

set_option maxRecDepth 100000 in
theorem lifted (os : Os) (started : os.Started) (H : Type) (enc : TypeId × Value → H) :
    ReturnsInHanded {} Try.checked os 4 .any (Rows.fnExactWindowSameSpec.pre6 enc Try.prog Try.f4 Rows.fnExactWindowSameRow.domain false) (Rows.fnExactWindowSameSpec.post enc Try.prog Try.f4 false true false false) :=
  law_lifted started (by kernel_rfl) Try.func4
    (ChangeSpec.witness6 (enc := enc) (C := Try.checked) false ⟨#[], #[.agg #[.slice none 0 0], .agg #[.slice none 0 0]], []⟩ 8 (by kernel_rfl) (by kernel_rfl) (by kernel_rfl) (by kernel_rfl))
    rfl rfl Try.underlying4 (fun ds h => match ds, h with | [_, _], _ => rfl) (by
      rw [Try.params4]
      intro t ht
      simp only [List.mem_cons, List.not_mem_nil, or_false] at ht
      rcases ht with rfl | rfl <;> exact ⟨by kernel_rfl, of_decide_eq_true (by kernel_rfl)⟩) walks

theorem over : Rows.fnExactWindowSameRow.holds Try.pinned (OpenSpec.ofChange Rows.fnExactWindowSameSpec) :=
  OpenClaim.holds_of_wide 4 Try.f4 rfl rfl rfl rfl rfl rfl rfl ⟨rfl, rfl, rfl, rfl, rfl⟩ rfl rfl rfl rfl rfl (by kernel_rfl) Try.func4 (by kernel_rfl)
    (of_decide_eq_true (by kernel_rfl)) (by unfold Func.isWrapper; first | (rw [if_pos (by decide +kernel)]; kernel_rfl) | (rw [if_neg (by decide +kernel)]; exact ⟨rfl, rfl⟩))
    (fun os started H enc _ => lifted os started H enc)

theorem proved : Rows.FnExactWindowSameSaid := over
#print axioms proved

end LawWindowSame
end Go.Proofs.Ytfeangiaghpfkaa
