/-
  StatsAdd of spec.
-/
import Derived.Test.YtchkmcikpamdeaaClStS
import Derived.Test.YtchkmcikpamdeaaStatOk
import Derived.Test.YtchkmcikpamdeaaAddT
import Derived.Test.YtchkmcikpamdeaaLast
import Derived.Deep.RegionHeld3
import Derived.Deep.DeepCutAuto
import Derived.BigQuiet
namespace Go.Proofs.Ytchkmcikpamdeaa
open Go.RowKit
set_option linter.unusedSimpArgs false
set_option linter.unusedVariables false

set_option maxRecDepth 20000 in
set_option maxHeartbeats 8000000 in
theorem sStatsAdd_any (A C : Option Addr) (n c m d : Nat) (hs : List AH) (ats : List AD) (cs : List ByteArray) (T X : Option Addr) (q e0 p f0 : Nat) (gs : List Hd) (ts : List Int) (xss : List (List Int)) (E : Option Addr) (r0n e1 : Nat) (bs : List Int) (cl u : Int) (w : World) (r : Sch w A C n m d hs ats cs) (s : Sta w T X q p gs ts xss) (x : Rd w E r0n (bs.map (Value.int .i64))) (hr0 : r0n ≤ 1048576) :
    Calls Try.prog 12 #[.agg #[.slice A n c, .slice C m d], .agg #[.slice T q e0, .slice X p f0], .agg #[.slice E r0n e1, .int .i64 cl], .int .i64 u] w fun e w' => ∃ A' c' C' d' mid hs', e = .returned (.tuple #[.agg #[.slice A' q c', .slice C' p d'], .bool (addStB ats cs ts xss bs cl u)]) ∧ OwSta w.heap.size w'.heap.size w' A' C' q c' p d' mid hs' (addT ats cs ts xss bs cl u) (addX ats cs ts xss bs cl u) ∧ Below w.heap.size w w' := by
  have R := Lib.hid r; have SS := Lib.hid s; have XX := Lib.hid x
  have HL := Lib.hid r.lenA; have HC := Lib.hid r.lenC; have HT := Lib.hid s.lenT; have HX := Lib.hid s.lenX
  have HBl : Hid (bs.length = r0n) := by have := x.len; unfold Hid; simpa using this
  have hq := s.hq; have hp := s.hp
  clear r s x
  cases h1 : statsB ats cs ts xss
  · have H1 := Lib.hid h1
    have HV : Hid (addStB ats cs ts xss bs cl u = false) := addStB_no1 h1
    clear h1
    have B0 := Below.refl w.heap.size w
    have s0 : w.heap.size ≤ w.heap.size := Nat.le_refl _
    go_enter Try.func12, Try.ntmps12
    have a_2 : Bx (w.alloc (.cells #[.slice A n c, .slice C m d] 40)) (w.heap.size) 40 #[.slice A n c, .slice C m d] := Bx.new _ _ _
    have B_2 := B0.alloc s0 (.cells #[.slice A n c, .slice C m d] 40)
    clear B0
    have ca_3 := a_2.cells
    have fa_3 := a_2.free
    clear ca_3 fa_3
    have a_4 := a_2.same (same_alloc (.cells #[.slice T q e0, .slice X p f0] 35) (by simp only [World.size_alloc]; omega))
    clear a_2
    have t_5 : Bx ((w.alloc (.cells #[.slice A n c, .slice C m d] 40)).alloc (.cells #[.slice T q e0, .slice X p f0] 35)) (w.heap.size + 1) 35 #[.slice T q e0, .slice X p f0] := by
      have h := Bx.new (w.alloc (.cells #[.slice A n c, .slice C m d] 40)) 35 #[.slice T q e0, .slice X p f0]
      simpa only [World.size_alloc] using h
    have B_5 := B_2.alloc (by simp only [World.size_alloc]; omega) (.cells #[.slice T q e0, .slice X p f0] 35)
    clear B_2
    have ca_6 := a_4.cells
    have fa_6 := a_4.free
    have ct_7 := t_5.cells
    have ft_7 := t_5.free
    clear ca_6 fa_6
    clear ct_7 ft_7
    have a_8 := a_4.same (same_alloc (.cells #[.slice E r0n e1, .int .i64 cl] 43) (by simp only [World.size_alloc]; omega))
    clear a_4
    have t_8 := t_5.same (same_alloc (.cells #[.slice E r0n e1, .int .i64 cl] 43) (by simp only [World.size_alloc]; omega))
    clear t_5
    have x_9 : Bx (((w.alloc (.cells #[.slice A n c, .slice C m d] 40)).alloc (.cells #[.slice T q e0, .slice X p f0] 35)).alloc (.cells #[.slice E r0n e1, .int .i64 cl] 43)) (w.heap.size + 1 + 1) 43 #[.slice E r0n e1, .int .i64 cl] := by
      have h := Bx.new ((w.alloc (.cells #[.slice A n c, .slice C m d] 40)).alloc (.cells #[.slice T q e0, .slice X p f0] 35)) 43 #[.slice E r0n e1, .int .i64 cl]
      simpa only [World.size_alloc] using h
    have B_9 := B_5.alloc (by simp only [World.size_alloc]; omega) (.cells #[.slice E r0n e1, .int .i64 cl] 43)
    clear B_5
    have ca_10 := a_8.cells
    have fa_10 := a_8.free
    have ct_11 := t_8.cells
    have ft_11 := t_8.free
    have cx_12 := x_9.cells
    have fx_12 := x_9.free
    clear ca_10 fa_10
    clear ct_11 ft_11
    clear cx_12 fx_12
    have a_13 := a_8.same (same_alloc (.cells #[.slice none 0 0, .slice none 0 0] 35) (by simp only [World.size_alloc]; omega))
    clear a_8
    have t_13 := t_8.same (same_alloc (.cells #[.slice none 0 0, .slice none 0 0] 35) (by simp only [World.size_alloc]; omega))
    clear t_8
    have x_13 := x_9.same (same_alloc (.cells #[.slice none 0 0, .slice none 0 0] 35) (by simp only [World.size_alloc]; omega))
    clear x_9
    have r_14 : Bx ((((w.alloc (.cells #[.slice A n c, .slice C m d] 40)).alloc (.cells #[.slice T q e0, .slice X p f0] 35)).alloc (.cells #[.slice E r0n e1, .int .i64 cl] 43)).alloc (.cells #[.slice none 0 0, .slice none 0 0] 35)) (w.heap.size + 1 + 1 + 1) 35 #[.slice none 0 0, .slice none 0 0] := by
      have h := Bx.new (((w.alloc (.cells #[.slice A n c, .slice C m d] 40)).alloc (.cells #[.slice T q e0, .slice X p f0] 35)).alloc (.cells #[.slice E r0n e1, .int .i64 cl] 43)) 35 #[.slice none 0 0, .slice none 0 0]
      simpa only [World.size_alloc] using h
    have B_14 := B_9.alloc (by simp only [World.size_alloc]; omega) (.cells #[.slice none 0 0, .slice none 0 0] 35)
    clear B_9
    have ca_15 := a_13.cells
    have fa_15 := a_13.free
    have ct_16 := t_13.cells
    have ft_16 := t_13.free
    have cx_17 := x_13.cells
    have fx_17 := x_13.free
    have cr_18 := r_14.cells
    have fr_18 := r_14.free
    go_wp2_with fail
    refine (l8Copy_any T X q e0 p f0 gs ts xss _ (SS.out.below B_14 (Nat.le_refl _))).mono ?_
    rintro e w1 ⟨A1, c1, C1, d1, mid, g1, rfl, o, b⟩
    clear ca_15 fa_15
    clear ct_16 ft_16
    clear cx_17 fx_17
    clear cr_18 fr_18
    simp only [World.size_alloc] at b o
    have t_19 := b.size
    simp only [World.size_alloc] at t_19
    have z_19 : w.heap.size ≤ w1.heap.size := by omega
    have a_20 := a_13.same (same_below b (by omega))
    clear a_13
    have t_20 := t_13.same (same_below b (by omega))
    clear t_13
    have x_20 := x_13.same (same_below b (by omega))
    clear x_13
    have r_20 := r_14.same (same_below b (by omega))
    clear r_14
    have B_19 := B_14.trans (b.mono (by omega))
    clear B_14 b
    have y_19 := o
    clear o
    have ca_21 := a_20.cells
    have fa_21 := a_20.free
    have ct_22 := t_20.cells
    have ft_22 := t_20.free
    have cx_23 := x_20.cells
    have fx_23 := x_20.free
    have cr_24 := r_20.cells
    have fr_24 := r_20.free
    clear ca_21 fa_21
    clear ct_22 ft_22
    clear cx_23 fx_23
    clear cr_24 fr_24
    have a_25 := a_20.same (same_alloc (.cells #[.slice A1 q c1, .slice C1 p d1] 35) (by omega))
    clear a_20
    have t_25 := t_20.same (same_alloc (.cells #[.slice A1 q c1, .slice C1 p d1] 35) (by omega))
    clear t_20
    have x_25 := x_20.same (same_alloc (.cells #[.slice A1 q c1, .slice C1 p d1] 35) (by omega))
    clear x_20
    have r_25 := r_20.same (same_alloc (.cells #[.slice A1 q c1, .slice C1 p d1] 35) (by omega))
    clear r_20
    have y_25 := y_19.same (same_alloc (.cells #[.slice A1 q c1, .slice C1 p d1] 35) (by omega))
    clear y_19
    have out_26 : Bx (w1.alloc (.cells #[.slice A1 q c1, .slice C1 p d1] 35)) (w1.heap.size) 35 #[.slice A1 q c1, .slice C1 p d1] := Bx.new _ _ _
    have B_26 := B_19.alloc z_19 (.cells #[.slice A1 q c1, .slice C1 p d1] 35)
    clear B_19
    have ca_27 := a_25.cells
    have fa_27 := a_25.free
    have ct_28 := t_25.cells
    have ft_28 := t_25.free
    have cx_29 := x_25.cells
    have fx_29 := x_25.free
    have cr_30 := r_25.cells
    have fr_30 := r_25.free
    have cout_31 := out_26.cells
    have fout_31 := out_26.free
    go_wp2_with fail
    refine (sStatsOk_any A C n c m d hs ats cs T X q e0 p f0 gs ts xss _ (R.out.below B_26 (Nat.le_refl _)) (SS.out.below B_26 (Nat.le_refl _))).mono ?_
    rw [H1.out]
    rintro e w2 ⟨rfl, b⟩
    clear ca_27 fa_27
    clear ct_28 ft_28
    clear cx_29 fx_29
    clear cr_30 fr_30
    clear cout_31 fout_31
    simp only [World.size_alloc] at b
    have t_32 := b.size
    simp only [World.size_alloc] at t_32
    have z_32 : w.heap.size ≤ w2.heap.size := by omega
    have a_33 := a_25.same (same_below b (by omega))
    clear a_25
    have t_33 := t_25.same (same_below b (by omega))
    clear t_25
    have x_33 := x_25.same (same_below b (by omega))
    clear x_25
    have r_33 := r_25.same (same_below b (by omega))
    clear r_25
    have y_33 := y_25.same (same_below b (by omega))
    clear y_25
    have out_33 := out_26.same (same_below b (by omega))
    clear out_26
    have B_32 := B_26.trans (b.mono (by omega))
    clear B_26 b
    have ca_34 := a_33.cells
    have fa_34 := a_33.free
    have ct_35 := t_33.cells
    have ft_35 := t_33.free
    have cx_36 := x_33.cells
    have fx_36 := x_33.free
    have cr_37 := r_33.cells
    have fr_37 := r_33.free
    have cout_38 := out_33.cells
    have fout_38 := out_33.free
    have HTT : Hid (addT ats cs ts xss bs cl u = ts) := by unfold Hid addT; rw [HV.out]; rfl
    have HXX : Hid (addX ats cs ts xss bs cl u = xss) := by unfold Hid addX; rw [HV.out]; rfl
    have hfin : ∀ w9, w9 = (w2.setCell ⟨(w.heap.size + 1 + 1 + 1), 0, none⟩ (.slice A1 q c1)).setCell ⟨(w.heap.size + 1 + 1 + 1), 1, none⟩ (.slice C1 p d1) → OwSta w.heap.size w9.heap.size w9 A1 C1 q c1 p d1 mid g1 (addT ats cs ts xss bs cl u) (addX ats cs ts xss bs cl u) ∧ Below w.heap.size w w9 := by
      intro w9 h9
      subst h9
      rw [HTT.out, HXX.out]
      have h1 := (y_33.same (same_set (b := (w.heap.size + 1 + 1 + 1)) (off := 0) (u := .slice A1 q c1) (by omega))).same (same_set (b := (w.heap.size + 1 + 1 + 1)) (off := 1) (u := .slice C1 p d1) (by omega))
      refine ⟨⟨h1.tot.wide (by omega) (Nat.le_refl _), h1.cel.wide (Nat.le_refl _) (by simp only [World.size_setCell]; omega), ⟨by have := h1.le; omega, by have := h1.le; simp only [World.size_setCell]; omega⟩⟩, ?_⟩
      have hB := B_32
      go_grown
    have HFin := Lib.hid hfin
    clear hfin
    have r0 := r_33.cells 0; have r1 := r_33.cells 1; have fr0 := r_33.free 0; have fr1 := r_33.free 1
    simp at r0 r1
    go_wp2_with ((with_reducible refine bodyPost_ret (v := .tuple #[.agg #[.slice A1 q c1, .slice C1 p d1], .bool false]) ?k1 ?k2 ?k3); (case k1 => (simp [results, Try.results12, go_sem, r0, r1, fr0, fr1])); (case k2 => rfl); (case k3 => (exact ⟨A1, c1, C1, d1, mid, g1, by rw [HV.out], (HFin.out _ rfl).1, (HFin.out _ rfl).2⟩)))
  have H1 := Lib.hid h1
  have htt := statsB_tot h1
  have HW9 : Hid (∀ x ∈ ts, 0 ≤ x ∧ x ≤ 999) := fun x hx => badW_get htt.2.1 hx
  obtain ⟨sm, hsm⟩ : ∃ sm, ts.sum = sm := ⟨_, rfl⟩
  have HSm := Lib.hid hsm
  have hs0 : 0 ≤ sm ∧ sm ≤ 999 := by have := htt.2.2; omega
  clear h1 htt hsm
  cases h2 : exB ats cs bs cl
  · have H2 := Lib.hid h2
    have HV : Hid (addStB ats cs ts xss bs cl u = false) := addStB_no2 h2
    clear h2
    have B0 := Below.refl w.heap.size w
    have s0 : w.heap.size ≤ w.heap.size := Nat.le_refl _
    go_enter Try.func12, Try.ntmps12
    have a_2 : Bx (w.alloc (.cells #[.slice A n c, .slice C m d] 40)) (w.heap.size) 40 #[.slice A n c, .slice C m d] := Bx.new _ _ _
    have B_2 := B0.alloc s0 (.cells #[.slice A n c, .slice C m d] 40)
    clear B0
    have ca_3 := a_2.cells
    have fa_3 := a_2.free
    clear ca_3 fa_3
    have a_4 := a_2.same (same_alloc (.cells #[.slice T q e0, .slice X p f0] 35) (by simp only [World.size_alloc]; omega))
    clear a_2
    have t_5 : Bx ((w.alloc (.cells #[.slice A n c, .slice C m d] 40)).alloc (.cells #[.slice T q e0, .slice X p f0] 35)) (w.heap.size + 1) 35 #[.slice T q e0, .slice X p f0] := by
      have h := Bx.new (w.alloc (.cells #[.slice A n c, .slice C m d] 40)) 35 #[.slice T q e0, .slice X p f0]
      simpa only [World.size_alloc] using h
    have B_5 := B_2.alloc (by simp only [World.size_alloc]; omega) (.cells #[.slice T q e0, .slice X p f0] 35)
    clear B_2
    have ca_6 := a_4.cells
    have fa_6 := a_4.free
    have ct_7 := t_5.cells
    have ft_7 := t_5.free
    clear ca_6 fa_6
    clear ct_7 ft_7
    have a_8 := a_4.same (same_alloc (.cells #[.slice E r0n e1, .int .i64 cl] 43) (by simp only [World.size_alloc]; omega))
    clear a_4
    have t_8 := t_5.same (same_alloc (.cells #[.slice E r0n e1, .int .i64 cl] 43) (by simp only [World.size_alloc]; omega))
    clear t_5
    have x_9 : Bx (((w.alloc (.cells #[.slice A n c, .slice C m d] 40)).alloc (.cells #[.slice T q e0, .slice X p f0] 35)).alloc (.cells #[.slice E r0n e1, .int .i64 cl] 43)) (w.heap.size + 1 + 1) 43 #[.slice E r0n e1, .int .i64 cl] := by
      have h := Bx.new ((w.alloc (.cells #[.slice A n c, .slice C m d] 40)).alloc (.cells #[.slice T q e0, .slice X p f0] 35)) 43 #[.slice E r0n e1, .int .i64 cl]
      simpa only [World.size_alloc] using h
    have B_9 := B_5.alloc (by simp only [World.size_alloc]; omega) (.cells #[.slice E r0n e1, .int .i64 cl] 43)
    clear B_5
    have ca_10 := a_8.cells
    have fa_10 := a_8.free
    have ct_11 := t_8.cells
    have ft_11 := t_8.free
    have cx_12 := x_9.cells
    have fx_12 := x_9.free
    clear ca_10 fa_10
    clear ct_11 ft_11
    clear cx_12 fx_12
    have a_13 := a_8.same (same_alloc (.cells #[.slice none 0 0, .slice none 0 0] 35) (by simp only [World.size_alloc]; omega))
    clear a_8
    have t_13 := t_8.same (same_alloc (.cells #[.slice none 0 0, .slice none 0 0] 35) (by simp only [World.size_alloc]; omega))
    clear t_8
    have x_13 := x_9.same (same_alloc (.cells #[.slice none 0 0, .slice none 0 0] 35) (by simp only [World.size_alloc]; omega))
    clear x_9
    have r_14 : Bx ((((w.alloc (.cells #[.slice A n c, .slice C m d] 40)).alloc (.cells #[.slice T q e0, .slice X p f0] 35)).alloc (.cells #[.slice E r0n e1, .int .i64 cl] 43)).alloc (.cells #[.slice none 0 0, .slice none 0 0] 35)) (w.heap.size + 1 + 1 + 1) 35 #[.slice none 0 0, .slice none 0 0] := by
      have h := Bx.new (((w.alloc (.cells #[.slice A n c, .slice C m d] 40)).alloc (.cells #[.slice T q e0, .slice X p f0] 35)).alloc (.cells #[.slice E r0n e1, .int .i64 cl] 43)) 35 #[.slice none 0 0, .slice none 0 0]
      simpa only [World.size_alloc] using h
    have B_14 := B_9.alloc (by simp only [World.size_alloc]; omega) (.cells #[.slice none 0 0, .slice none 0 0] 35)
    clear B_9
    have ca_15 := a_13.cells
    have fa_15 := a_13.free
    have ct_16 := t_13.cells
    have ft_16 := t_13.free
    have cx_17 := x_13.cells
    have fx_17 := x_13.free
    have cr_18 := r_14.cells
    have fr_18 := r_14.free
    go_wp2_with fail
    refine (l8Copy_any T X q e0 p f0 gs ts xss _ (SS.out.below B_14 (Nat.le_refl _))).mono ?_
    rintro e w1 ⟨A1, c1, C1, d1, mid, g1, rfl, o, b⟩
    clear ca_15 fa_15
    clear ct_16 ft_16
    clear cx_17 fx_17
    clear cr_18 fr_18
    simp only [World.size_alloc] at b o
    have t_19 := b.size
    simp only [World.size_alloc] at t_19
    have z_19 : w.heap.size ≤ w1.heap.size := by omega
    have a_20 := a_13.same (same_below b (by omega))
    clear a_13
    have t_20 := t_13.same (same_below b (by omega))
    clear t_13
    have x_20 := x_13.same (same_below b (by omega))
    clear x_13
    have r_20 := r_14.same (same_below b (by omega))
    clear r_14
    have B_19 := B_14.trans (b.mono (by omega))
    clear B_14 b
    have y_19 := o
    clear o
    have ca_21 := a_20.cells
    have fa_21 := a_20.free
    have ct_22 := t_20.cells
    have ft_22 := t_20.free
    have cx_23 := x_20.cells
    have fx_23 := x_20.free
    have cr_24 := r_20.cells
    have fr_24 := r_20.free
    clear ca_21 fa_21
    clear ct_22 ft_22
    clear cx_23 fx_23
    clear cr_24 fr_24
    have a_25 := a_20.same (same_alloc (.cells #[.slice A1 q c1, .slice C1 p d1] 35) (by omega))
    clear a_20
    have t_25 := t_20.same (same_alloc (.cells #[.slice A1 q c1, .slice C1 p d1] 35) (by omega))
    clear t_20
    have x_25 := x_20.same (same_alloc (.cells #[.slice A1 q c1, .slice C1 p d1] 35) (by omega))
    clear x_20
    have r_25 := r_20.same (same_alloc (.cells #[.slice A1 q c1, .slice C1 p d1] 35) (by omega))
    clear r_20
    have y_25 := y_19.same (same_alloc (.cells #[.slice A1 q c1, .slice C1 p d1] 35) (by omega))
    clear y_19
    have out_26 : Bx (w1.alloc (.cells #[.slice A1 q c1, .slice C1 p d1] 35)) (w1.heap.size) 35 #[.slice A1 q c1, .slice C1 p d1] := Bx.new _ _ _
    have B_26 := B_19.alloc z_19 (.cells #[.slice A1 q c1, .slice C1 p d1] 35)
    clear B_19
    have ca_27 := a_25.cells
    have fa_27 := a_25.free
    have ct_28 := t_25.cells
    have ft_28 := t_25.free
    have cx_29 := x_25.cells
    have fx_29 := x_25.free
    have cr_30 := r_25.cells
    have fr_30 := r_25.free
    have cout_31 := out_26.cells
    have fout_31 := out_26.free
    go_wp2_with fail
    refine (sStatsOk_any A C n c m d hs ats cs T X q e0 p f0 gs ts xss _ (R.out.below B_26 (Nat.le_refl _)) (SS.out.below B_26 (Nat.le_refl _))).mono ?_
    rw [H1.out]
    rintro e w2 ⟨rfl, b⟩
    clear ca_27 fa_27
    clear ct_28 ft_28
    clear cx_29 fx_29
    clear cr_30 fr_30
    clear cout_31 fout_31
    simp only [World.size_alloc] at b
    have t_32 := b.size
    simp only [World.size_alloc] at t_32
    have z_32 : w.heap.size ≤ w2.heap.size := by omega
    have a_33 := a_25.same (same_below b (by omega))
    clear a_25
    have t_33 := t_25.same (same_below b (by omega))
    clear t_25
    have x_33 := x_25.same (same_below b (by omega))
    clear x_25
    have r_33 := r_25.same (same_below b (by omega))
    clear r_25
    have y_33 := y_25.same (same_below b (by omega))
    clear y_25
    have out_33 := out_26.same (same_below b (by omega))
    clear out_26
    have B_32 := B_26.trans (b.mono (by omega))
    clear B_26 b
    have ca_34 := a_33.cells
    have fa_34 := a_33.free
    have ct_35 := t_33.cells
    have ft_35 := t_33.free
    have cx_36 := x_33.cells
    have fx_36 := x_33.free
    have cr_37 := r_33.cells
    have fr_37 := r_33.free
    have cout_38 := out_33.cells
    have fout_38 := out_33.free
    go_wp2_with fail
    refine (sExOk_any A C n c m d hs ats cs E r0n e1 bs cl _ (R.out.below B_32 (Nat.le_refl _)) (XX.out.below B_32 (Nat.le_refl _)) hr0).mono ?_
    rw [H2.out]
    rintro e w3 ⟨rfl, b⟩
    clear ca_34 fa_34
    clear ct_35 ft_35
    clear cx_36 fx_36
    clear cr_37 fr_37
    clear cout_38 fout_38
    have t_39 := b.size
    have z_39 : w.heap.size ≤ w3.heap.size := by omega
    have a_40 := a_33.same (same_below b (by omega))
    clear a_33
    have t_40 := t_33.same (same_below b (by omega))
    clear t_33
    have x_40 := x_33.same (same_below b (by omega))
    clear x_33
    have r_40 := r_33.same (same_below b (by omega))
    clear r_33
    have y_40 := y_33.same (same_below b (by omega))
    clear y_33
    have out_40 := out_33.same (same_below b (by omega))
    clear out_33
    have B_39 := B_32.trans (b.mono (by omega))
    clear B_32 b
    have ca_41 := a_40.cells
    have fa_41 := a_40.free
    have ct_42 := t_40.cells
    have ft_42 := t_40.free
    have cx_43 := x_40.cells
    have fx_43 := x_40.free
    have cr_44 := r_40.cells
    have fr_44 := r_40.free
    have cout_45 := out_40.cells
    have fout_45 := out_40.free
    have HTT : Hid (addT ats cs ts xss bs cl u = ts) := by unfold Hid addT; rw [HV.out]; rfl
    have HXX : Hid (addX ats cs ts xss bs cl u = xss) := by unfold Hid addX; rw [HV.out]; rfl
    have hfin : ∀ w9, w9 = (w3.setCell ⟨(w.heap.size + 1 + 1 + 1), 0, none⟩ (.slice A1 q c1)).setCell ⟨(w.heap.size + 1 + 1 + 1), 1, none⟩ (.slice C1 p d1) → OwSta w.heap.size w9.heap.size w9 A1 C1 q c1 p d1 mid g1 (addT ats cs ts xss bs cl u) (addX ats cs ts xss bs cl u) ∧ Below w.heap.size w w9 := by
      intro w9 h9
      subst h9
      rw [HTT.out, HXX.out]
      have h1 := (y_40.same (same_set (b := (w.heap.size + 1 + 1 + 1)) (off := 0) (u := .slice A1 q c1) (by omega))).same (same_set (b := (w.heap.size + 1 + 1 + 1)) (off := 1) (u := .slice C1 p d1) (by omega))
      refine ⟨⟨h1.tot.wide (by omega) (Nat.le_refl _), h1.cel.wide (Nat.le_refl _) (by simp only [World.size_setCell]; omega), ⟨by have := h1.le; omega, by have := h1.le; simp only [World.size_setCell]; omega⟩⟩, ?_⟩
      have hB := B_39
      go_grown
    have HFin := Lib.hid hfin
    clear hfin
    have r0 := r_40.cells 0; have r1 := r_40.cells 1; have fr0 := r_40.free 0; have fr1 := r_40.free 1
    simp at r0 r1
    go_wp2_with ((with_reducible refine bodyPost_ret (v := .tuple #[.agg #[.slice A1 q c1, .slice C1 p d1], .bool false]) ?k1 ?k2 ?k3); (case k1 => (simp [results, Try.results12, go_sem, r0, r1, fr0, fr1])); (case k2 => rfl); (case k3 => (exact ⟨A1, c1, C1, d1, mid, g1, by rw [HV.out], (HFin.out _ rfl).1, (HFin.out _ rfl).2⟩)))
  have H2 := Lib.hid h2
  have hcl := exB_cl h2
  have hcl0 := hcl.1; have hcl1 : cl < (m : Int) := by have := hcl.2.1; rw [HC.out] at this; exact this
  have HXR := Lib.hid hcl.2.2.2
  have HBA := Lib.hid hcl.2.2.1
  clear h2 hcl
  by_cases h3 : cl = -1
  · have HV : Hid (addStB ats cs ts xss bs cl u = false) := addStB_no3 h3
    subst h3
    have B0 := Below.refl w.heap.size w
    have s0 : w.heap.size ≤ w.heap.size := Nat.le_refl _
    go_enter Try.func12, Try.ntmps12
    have a_2 : Bx (w.alloc (.cells #[.slice A n c, .slice C m d] 40)) (w.heap.size) 40 #[.slice A n c, .slice C m d] := Bx.new _ _ _
    have B_2 := B0.alloc s0 (.cells #[.slice A n c, .slice C m d] 40)
    clear B0
    have ca_3 := a_2.cells
    have fa_3 := a_2.free
    clear ca_3 fa_3
    have a_4 := a_2.same (same_alloc (.cells #[.slice T q e0, .slice X p f0] 35) (by simp only [World.size_alloc]; omega))
    clear a_2
    have t_5 : Bx ((w.alloc (.cells #[.slice A n c, .slice C m d] 40)).alloc (.cells #[.slice T q e0, .slice X p f0] 35)) (w.heap.size + 1) 35 #[.slice T q e0, .slice X p f0] := by
      have h := Bx.new (w.alloc (.cells #[.slice A n c, .slice C m d] 40)) 35 #[.slice T q e0, .slice X p f0]
      simpa only [World.size_alloc] using h
    have B_5 := B_2.alloc (by simp only [World.size_alloc]; omega) (.cells #[.slice T q e0, .slice X p f0] 35)
    clear B_2
    have ca_6 := a_4.cells
    have fa_6 := a_4.free
    have ct_7 := t_5.cells
    have ft_7 := t_5.free
    clear ca_6 fa_6
    clear ct_7 ft_7
    have a_8 := a_4.same (same_alloc (.cells #[.slice E r0n e1, .int .i64 (-1)] 43) (by simp only [World.size_alloc]; omega))
    clear a_4
    have t_8 := t_5.same (same_alloc (.cells #[.slice E r0n e1, .int .i64 (-1)] 43) (by simp only [World.size_alloc]; omega))
    clear t_5
    have x_9 : Bx (((w.alloc (.cells #[.slice A n c, .slice C m d] 40)).alloc (.cells #[.slice T q e0, .slice X p f0] 35)).alloc (.cells #[.slice E r0n e1, .int .i64 (-1)] 43)) (w.heap.size + 1 + 1) 43 #[.slice E r0n e1, .int .i64 (-1)] := by
      have h := Bx.new ((w.alloc (.cells #[.slice A n c, .slice C m d] 40)).alloc (.cells #[.slice T q e0, .slice X p f0] 35)) 43 #[.slice E r0n e1, .int .i64 (-1)]
      simpa only [World.size_alloc] using h
    have B_9 := B_5.alloc (by simp only [World.size_alloc]; omega) (.cells #[.slice E r0n e1, .int .i64 (-1)] 43)
    clear B_5
    have ca_10 := a_8.cells
    have fa_10 := a_8.free
    have ct_11 := t_8.cells
    have ft_11 := t_8.free
    have cx_12 := x_9.cells
    have fx_12 := x_9.free
    clear ca_10 fa_10
    clear ct_11 ft_11
    clear cx_12 fx_12
    have a_13 := a_8.same (same_alloc (.cells #[.slice none 0 0, .slice none 0 0] 35) (by simp only [World.size_alloc]; omega))
    clear a_8
    have t_13 := t_8.same (same_alloc (.cells #[.slice none 0 0, .slice none 0 0] 35) (by simp only [World.size_alloc]; omega))
    clear t_8
    have x_13 := x_9.same (same_alloc (.cells #[.slice none 0 0, .slice none 0 0] 35) (by simp only [World.size_alloc]; omega))
    clear x_9
    have r_14 : Bx ((((w.alloc (.cells #[.slice A n c, .slice C m d] 40)).alloc (.cells #[.slice T q e0, .slice X p f0] 35)).alloc (.cells #[.slice E r0n e1, .int .i64 (-1)] 43)).alloc (.cells #[.slice none 0 0, .slice none 0 0] 35)) (w.heap.size + 1 + 1 + 1) 35 #[.slice none 0 0, .slice none 0 0] := by
      have h := Bx.new (((w.alloc (.cells #[.slice A n c, .slice C m d] 40)).alloc (.cells #[.slice T q e0, .slice X p f0] 35)).alloc (.cells #[.slice E r0n e1, .int .i64 (-1)] 43)) 35 #[.slice none 0 0, .slice none 0 0]
      simpa only [World.size_alloc] using h
    have B_14 := B_9.alloc (by simp only [World.size_alloc]; omega) (.cells #[.slice none 0 0, .slice none 0 0] 35)
    clear B_9
    have ca_15 := a_13.cells
    have fa_15 := a_13.free
    have ct_16 := t_13.cells
    have ft_16 := t_13.free
    have cx_17 := x_13.cells
    have fx_17 := x_13.free
    have cr_18 := r_14.cells
    have fr_18 := r_14.free
    go_wp2_with fail
    refine (l8Copy_any T X q e0 p f0 gs ts xss _ (SS.out.below B_14 (Nat.le_refl _))).mono ?_
    rintro e w1 ⟨A1, c1, C1, d1, mid, g1, rfl, o, b⟩
    clear ca_15 fa_15
    clear ct_16 ft_16
    clear cx_17 fx_17
    clear cr_18 fr_18
    simp only [World.size_alloc] at b o
    have t_19 := b.size
    simp only [World.size_alloc] at t_19
    have z_19 : w.heap.size ≤ w1.heap.size := by omega
    have a_20 := a_13.same (same_below b (by omega))
    clear a_13
    have t_20 := t_13.same (same_below b (by omega))
    clear t_13
    have x_20 := x_13.same (same_below b (by omega))
    clear x_13
    have r_20 := r_14.same (same_below b (by omega))
    clear r_14
    have B_19 := B_14.trans (b.mono (by omega))
    clear B_14 b
    have y_19 := o
    clear o
    have ca_21 := a_20.cells
    have fa_21 := a_20.free
    have ct_22 := t_20.cells
    have ft_22 := t_20.free
    have cx_23 := x_20.cells
    have fx_23 := x_20.free
    have cr_24 := r_20.cells
    have fr_24 := r_20.free
    clear ca_21 fa_21
    clear ct_22 ft_22
    clear cx_23 fx_23
    clear cr_24 fr_24
    have a_25 := a_20.same (same_alloc (.cells #[.slice A1 q c1, .slice C1 p d1] 35) (by omega))
    clear a_20
    have t_25 := t_20.same (same_alloc (.cells #[.slice A1 q c1, .slice C1 p d1] 35) (by omega))
    clear t_20
    have x_25 := x_20.same (same_alloc (.cells #[.slice A1 q c1, .slice C1 p d1] 35) (by omega))
    clear x_20
    have r_25 := r_20.same (same_alloc (.cells #[.slice A1 q c1, .slice C1 p d1] 35) (by omega))
    clear r_20
    have y_25 := y_19.same (same_alloc (.cells #[.slice A1 q c1, .slice C1 p d1] 35) (by omega))
    clear y_19
    have out_26 : Bx (w1.alloc (.cells #[.slice A1 q c1, .slice C1 p d1] 35)) (w1.heap.size) 35 #[.slice A1 q c1, .slice C1 p d1] := Bx.new _ _ _
    have B_26 := B_19.alloc z_19 (.cells #[.slice A1 q c1, .slice C1 p d1] 35)
    clear B_19
    have ca_27 := a_25.cells
    have fa_27 := a_25.free
    have ct_28 := t_25.cells
    have ft_28 := t_25.free
    have cx_29 := x_25.cells
    have fx_29 := x_25.free
    have cr_30 := r_25.cells
    have fr_30 := r_25.free
    have cout_31 := out_26.cells
    have fout_31 := out_26.free
    go_wp2_with fail
    refine (sStatsOk_any A C n c m d hs ats cs T X q e0 p f0 gs ts xss _ (R.out.below B_26 (Nat.le_refl _)) (SS.out.below B_26 (Nat.le_refl _))).mono ?_
    rw [H1.out]
    rintro e w2 ⟨rfl, b⟩
    clear ca_27 fa_27
    clear ct_28 ft_28
    clear cx_29 fx_29
    clear cr_30 fr_30
    clear cout_31 fout_31
    simp only [World.size_alloc] at b
    have t_32 := b.size
    simp only [World.size_alloc] at t_32
    have z_32 : w.heap.size ≤ w2.heap.size := by omega
    have a_33 := a_25.same (same_below b (by omega))
    clear a_25
    have t_33 := t_25.same (same_below b (by omega))
    clear t_25
    have x_33 := x_25.same (same_below b (by omega))
    clear x_25
    have r_33 := r_25.same (same_below b (by omega))
    clear r_25
    have y_33 := y_25.same (same_below b (by omega))
    clear y_25
    have out_33 := out_26.same (same_below b (by omega))
    clear out_26
    have B_32 := B_26.trans (b.mono (by omega))
    clear B_26 b
    have ca_34 := a_33.cells
    have fa_34 := a_33.free
    have ct_35 := t_33.cells
    have ft_35 := t_33.free
    have cx_36 := x_33.cells
    have fx_36 := x_33.free
    have cr_37 := r_33.cells
    have fr_37 := r_33.free
    have cout_38 := out_33.cells
    have fout_38 := out_33.free
    go_wp2_with fail
    refine (sExOk_any A C n c m d hs ats cs E r0n e1 bs (-1) _ (R.out.below B_32 (Nat.le_refl _)) (XX.out.below B_32 (Nat.le_refl _)) hr0).mono ?_
    rw [H2.out]
    rintro e w3 ⟨rfl, b⟩
    clear ca_34 fa_34
    clear ct_35 ft_35
    clear cx_36 fx_36
    clear cr_37 fr_37
    clear cout_38 fout_38
    have t_39 := b.size
    have z_39 : w.heap.size ≤ w3.heap.size := by omega
    have a_40 := a_33.same (same_below b (by omega))
    clear a_33
    have t_40 := t_33.same (same_below b (by omega))
    clear t_33
    have x_40 := x_33.same (same_below b (by omega))
    clear x_33
    have r_40 := r_33.same (same_below b (by omega))
    clear r_33
    have y_40 := y_33.same (same_below b (by omega))
    clear y_33
    have out_40 := out_33.same (same_below b (by omega))
    clear out_33
    have B_39 := B_32.trans (b.mono (by omega))
    clear B_32 b
    have ca_41 := a_40.cells
    have fa_41 := a_40.free
    have ct_42 := t_40.cells
    have ft_42 := t_40.free
    have cx_43 := x_40.cells
    have fx_43 := x_40.free
    have cr_44 := r_40.cells
    have fr_44 := r_40.free
    have cout_45 := out_40.cells
    have fout_45 := out_40.free
    have HTT : Hid (addT ats cs ts xss bs (-1) u = ts) := by unfold Hid addT; rw [HV.out]; rfl
    have HXX : Hid (addX ats cs ts xss bs (-1) u = xss) := by unfold Hid addX; rw [HV.out]; rfl
    have hfin : ∀ w9, w9 = (w3.setCell ⟨(w.heap.size + 1 + 1 + 1), 0, none⟩ (.slice A1 q c1)).setCell ⟨(w.heap.size + 1 + 1 + 1), 1, none⟩ (.slice C1 p d1) → OwSta w.heap.size w9.heap.size w9 A1 C1 q c1 p d1 mid g1 (addT ats cs ts xss bs (-1) u) (addX ats cs ts xss bs (-1) u) ∧ Below w.heap.size w w9 := by
      intro w9 h9
      subst h9
      rw [HTT.out, HXX.out]
      have h1 := (y_40.same (same_set (b := (w.heap.size + 1 + 1 + 1)) (off := 0) (u := .slice A1 q c1) (by omega))).same (same_set (b := (w.heap.size + 1 + 1 + 1)) (off := 1) (u := .slice C1 p d1) (by omega))
      refine ⟨⟨h1.tot.wide (by omega) (Nat.le_refl _), h1.cel.wide (Nat.le_refl _) (by simp only [World.size_setCell]; omega), ⟨by have := h1.le; omega, by have := h1.le; simp only [World.size_setCell]; omega⟩⟩, ?_⟩
      have hB := B_39
      go_grown
    have HFin := Lib.hid hfin
    clear hfin
    have r0 := r_40.cells 0; have r1 := r_40.cells 1; have fr0 := r_40.free 0; have fr1 := r_40.free 1
    simp at r0 r1
    go_wp2_with ((with_reducible refine bodyPost_ret (v := .tuple #[.agg #[.slice A1 q c1, .slice C1 p d1], .bool false]) ?k1 ?k2 ?k3); (case k1 => (simp [results, Try.results12, go_sem, r0, r1, fr0, fr1])); (case k2 => rfl); (case k3 => (exact ⟨A1, c1, C1, d1, mid, g1, by rw [HV.out], (HFin.out _ rfl).1, (HFin.out _ rfl).2⟩)))
  obtain ⟨cn, rfl⟩ : ∃ cn : Nat, cl = (cn : Nat) := ⟨cl.toNat, by omega⟩
  have hcn : cn < m := by omega
  have hc3 : ¬ (cn : Int) = -1 := by omega
  have hcb : ((cn : Int) == -1) = false := beq_false_of_ne hc3
  have hcd : decide ((cn : Int) = -1) = false := decide_eq_false hc3
  have hcl3 : ¬ (cn : Int) < 0 := by omega
  clear h3 hcl0
  cases h4 : inB u 1 7
  · have H4 := Lib.hid h4
    have HV : Hid (addStB ats cs ts xss bs (cn : Int) u = false) := addStB_no4 h4
    clear h4
    have B0 := Below.refl w.heap.size w
    have s0 : w.heap.size ≤ w.heap.size := Nat.le_refl _
    go_enter Try.func12, Try.ntmps12
    have a_2 : Bx (w.alloc (.cells #[.slice A n c, .slice C m d] 40)) (w.heap.size) 40 #[.slice A n c, .slice C m d] := Bx.new _ _ _
    have B_2 := B0.alloc s0 (.cells #[.slice A n c, .slice C m d] 40)
    clear B0
    have ca_3 := a_2.cells
    have fa_3 := a_2.free
    clear ca_3 fa_3
    have a_4 := a_2.same (same_alloc (.cells #[.slice T q e0, .slice X p f0] 35) (by simp only [World.size_alloc]; omega))
    clear a_2
    have t_5 : Bx ((w.alloc (.cells #[.slice A n c, .slice C m d] 40)).alloc (.cells #[.slice T q e0, .slice X p f0] 35)) (w.heap.size + 1) 35 #[.slice T q e0, .slice X p f0] := by
      have h := Bx.new (w.alloc (.cells #[.slice A n c, .slice C m d] 40)) 35 #[.slice T q e0, .slice X p f0]
      simpa only [World.size_alloc] using h
    have B_5 := B_2.alloc (by simp only [World.size_alloc]; omega) (.cells #[.slice T q e0, .slice X p f0] 35)
    clear B_2
    have ca_6 := a_4.cells
    have fa_6 := a_4.free
    have ct_7 := t_5.cells
    have ft_7 := t_5.free
    clear ca_6 fa_6
    clear ct_7 ft_7
    have a_8 := a_4.same (same_alloc (.cells #[.slice E r0n e1, .int .i64 (cn : Int)] 43) (by simp only [World.size_alloc]; omega))
    clear a_4
    have t_8 := t_5.same (same_alloc (.cells #[.slice E r0n e1, .int .i64 (cn : Int)] 43) (by simp only [World.size_alloc]; omega))
    clear t_5
    have x_9 : Bx (((w.alloc (.cells #[.slice A n c, .slice C m d] 40)).alloc (.cells #[.slice T q e0, .slice X p f0] 35)).alloc (.cells #[.slice E r0n e1, .int .i64 (cn : Int)] 43)) (w.heap.size + 1 + 1) 43 #[.slice E r0n e1, .int .i64 (cn : Int)] := by
      have h := Bx.new ((w.alloc (.cells #[.slice A n c, .slice C m d] 40)).alloc (.cells #[.slice T q e0, .slice X p f0] 35)) 43 #[.slice E r0n e1, .int .i64 (cn : Int)]
      simpa only [World.size_alloc] using h
    have B_9 := B_5.alloc (by simp only [World.size_alloc]; omega) (.cells #[.slice E r0n e1, .int .i64 (cn : Int)] 43)
    clear B_5
    have ca_10 := a_8.cells
    have fa_10 := a_8.free
    have ct_11 := t_8.cells
    have ft_11 := t_8.free
    have cx_12 := x_9.cells
    have fx_12 := x_9.free
    clear ca_10 fa_10
    clear ct_11 ft_11
    clear cx_12 fx_12
    have a_13 := a_8.same (same_alloc (.cells #[.slice none 0 0, .slice none 0 0] 35) (by simp only [World.size_alloc]; omega))
    clear a_8
    have t_13 := t_8.same (same_alloc (.cells #[.slice none 0 0, .slice none 0 0] 35) (by simp only [World.size_alloc]; omega))
    clear t_8
    have x_13 := x_9.same (same_alloc (.cells #[.slice none 0 0, .slice none 0 0] 35) (by simp only [World.size_alloc]; omega))
    clear x_9
    have r_14 : Bx ((((w.alloc (.cells #[.slice A n c, .slice C m d] 40)).alloc (.cells #[.slice T q e0, .slice X p f0] 35)).alloc (.cells #[.slice E r0n e1, .int .i64 (cn : Int)] 43)).alloc (.cells #[.slice none 0 0, .slice none 0 0] 35)) (w.heap.size + 1 + 1 + 1) 35 #[.slice none 0 0, .slice none 0 0] := by
      have h := Bx.new (((w.alloc (.cells #[.slice A n c, .slice C m d] 40)).alloc (.cells #[.slice T q e0, .slice X p f0] 35)).alloc (.cells #[.slice E r0n e1, .int .i64 (cn : Int)] 43)) 35 #[.slice none 0 0, .slice none 0 0]
      simpa only [World.size_alloc] using h
    have B_14 := B_9.alloc (by simp only [World.size_alloc]; omega) (.cells #[.slice none 0 0, .slice none 0 0] 35)
    clear B_9
    have ca_15 := a_13.cells
    have fa_15 := a_13.free
    have ct_16 := t_13.cells
    have ft_16 := t_13.free
    have cx_17 := x_13.cells
    have fx_17 := x_13.free
    have cr_18 := r_14.cells
    have fr_18 := r_14.free
    go_wp2_with fail
    refine (l8Copy_any T X q e0 p f0 gs ts xss _ (SS.out.below B_14 (Nat.le_refl _))).mono ?_
    rintro e w1 ⟨A1, c1, C1, d1, mid, g1, rfl, o, b⟩
    clear ca_15 fa_15
    clear ct_16 ft_16
    clear cx_17 fx_17
    clear cr_18 fr_18
    simp only [World.size_alloc] at b o
    have t_19 := b.size
    simp only [World.size_alloc] at t_19
    have z_19 : w.heap.size ≤ w1.heap.size := by omega
    have a_20 := a_13.same (same_below b (by omega))
    clear a_13
    have t_20 := t_13.same (same_below b (by omega))
    clear t_13
    have x_20 := x_13.same (same_below b (by omega))
    clear x_13
    have r_20 := r_14.same (same_below b (by omega))
    clear r_14
    have B_19 := B_14.trans (b.mono (by omega))
    clear B_14 b
    have y_19 := o
    clear o
    have ca_21 := a_20.cells
    have fa_21 := a_20.free
    have ct_22 := t_20.cells
    have ft_22 := t_20.free
    have cx_23 := x_20.cells
    have fx_23 := x_20.free
    have cr_24 := r_20.cells
    have fr_24 := r_20.free
    clear ca_21 fa_21
    clear ct_22 ft_22
    clear cx_23 fx_23
    clear cr_24 fr_24
    have a_25 := a_20.same (same_alloc (.cells #[.slice A1 q c1, .slice C1 p d1] 35) (by omega))
    clear a_20
    have t_25 := t_20.same (same_alloc (.cells #[.slice A1 q c1, .slice C1 p d1] 35) (by omega))
    clear t_20
    have x_25 := x_20.same (same_alloc (.cells #[.slice A1 q c1, .slice C1 p d1] 35) (by omega))
    clear x_20
    have r_25 := r_20.same (same_alloc (.cells #[.slice A1 q c1, .slice C1 p d1] 35) (by omega))
    clear r_20
    have y_25 := y_19.same (same_alloc (.cells #[.slice A1 q c1, .slice C1 p d1] 35) (by omega))
    clear y_19
    have out_26 : Bx (w1.alloc (.cells #[.slice A1 q c1, .slice C1 p d1] 35)) (w1.heap.size) 35 #[.slice A1 q c1, .slice C1 p d1] := Bx.new _ _ _
    have B_26 := B_19.alloc z_19 (.cells #[.slice A1 q c1, .slice C1 p d1] 35)
    clear B_19
    have ca_27 := a_25.cells
    have fa_27 := a_25.free
    have ct_28 := t_25.cells
    have ft_28 := t_25.free
    have cx_29 := x_25.cells
    have fx_29 := x_25.free
    have cr_30 := r_25.cells
    have fr_30 := r_25.free
    have cout_31 := out_26.cells
    have fout_31 := out_26.free
    go_wp2_with fail
    refine (sStatsOk_any A C n c m d hs ats cs T X q e0 p f0 gs ts xss _ (R.out.below B_26 (Nat.le_refl _)) (SS.out.below B_26 (Nat.le_refl _))).mono ?_
    rw [H1.out]
    rintro e w2 ⟨rfl, b⟩
    clear ca_27 fa_27
    clear ct_28 ft_28
    clear cx_29 fx_29
    clear cr_30 fr_30
    clear cout_31 fout_31
    simp only [World.size_alloc] at b
    have t_32 := b.size
    simp only [World.size_alloc] at t_32
    have z_32 : w.heap.size ≤ w2.heap.size := by omega
    have a_33 := a_25.same (same_below b (by omega))
    clear a_25
    have t_33 := t_25.same (same_below b (by omega))
    clear t_25
    have x_33 := x_25.same (same_below b (by omega))
    clear x_25
    have r_33 := r_25.same (same_below b (by omega))
    clear r_25
    have y_33 := y_25.same (same_below b (by omega))
    clear y_25
    have out_33 := out_26.same (same_below b (by omega))
    clear out_26
    have B_32 := B_26.trans (b.mono (by omega))
    clear B_26 b
    have ca_34 := a_33.cells
    have fa_34 := a_33.free
    have ct_35 := t_33.cells
    have ft_35 := t_33.free
    have cx_36 := x_33.cells
    have fx_36 := x_33.free
    have cr_37 := r_33.cells
    have fr_37 := r_33.free
    have cout_38 := out_33.cells
    have fout_38 := out_33.free
    go_wp2_with fail
    refine (sExOk_any A C n c m d hs ats cs E r0n e1 bs (cn : Int) _ (R.out.below B_32 (Nat.le_refl _)) (XX.out.below B_32 (Nat.le_refl _)) hr0).mono ?_
    rw [H2.out]
    rintro e w3 ⟨rfl, b⟩
    clear ca_34 fa_34
    clear ct_35 ft_35
    clear cx_36 fx_36
    clear cr_37 fr_37
    clear cout_38 fout_38
    have t_39 := b.size
    have z_39 : w.heap.size ≤ w3.heap.size := by omega
    have a_40 := a_33.same (same_below b (by omega))
    clear a_33
    have t_40 := t_33.same (same_below b (by omega))
    clear t_33
    have x_40 := x_33.same (same_below b (by omega))
    clear x_33
    have r_40 := r_33.same (same_below b (by omega))
    clear r_33
    have y_40 := y_33.same (same_below b (by omega))
    clear y_33
    have out_40 := out_33.same (same_below b (by omega))
    clear out_33
    have B_39 := B_32.trans (b.mono (by omega))
    clear B_32 b
    have ca_41 := a_40.cells
    have fa_41 := a_40.free
    have ct_42 := t_40.cells
    have ft_42 := t_40.free
    have cx_43 := x_40.cells
    have fx_43 := x_40.free
    have cr_44 := r_40.cells
    have fr_44 := r_40.free
    have cout_45 := out_40.cells
    have fout_45 := out_40.free
    go_wp2_with fail
    refine (l1In_any u 1 7 _).mono ?_
    rw [H4.out]
    rintro e w4 ⟨rfl, rfl⟩
    have HTT : Hid (addT ats cs ts xss bs (cn : Int) u = ts) := by unfold Hid addT; rw [HV.out]; rfl
    have HXX : Hid (addX ats cs ts xss bs (cn : Int) u = xss) := by unfold Hid addX; rw [HV.out]; rfl
    have hfin : ∀ w9, w9 = (w3.setCell ⟨(w.heap.size + 1 + 1 + 1), 0, none⟩ (.slice A1 q c1)).setCell ⟨(w.heap.size + 1 + 1 + 1), 1, none⟩ (.slice C1 p d1) → OwSta w.heap.size w9.heap.size w9 A1 C1 q c1 p d1 mid g1 (addT ats cs ts xss bs (cn : Int) u) (addX ats cs ts xss bs (cn : Int) u) ∧ Below w.heap.size w w9 := by
      intro w9 h9
      subst h9
      rw [HTT.out, HXX.out]
      have h1 := (y_40.same (same_set (b := (w.heap.size + 1 + 1 + 1)) (off := 0) (u := .slice A1 q c1) (by omega))).same (same_set (b := (w.heap.size + 1 + 1 + 1)) (off := 1) (u := .slice C1 p d1) (by omega))
      refine ⟨⟨h1.tot.wide (by omega) (Nat.le_refl _), h1.cel.wide (Nat.le_refl _) (by simp only [World.size_setCell]; omega), ⟨by have := h1.le; omega, by have := h1.le; simp only [World.size_setCell]; omega⟩⟩, ?_⟩
      have hB := B_39
      go_grown
    have HFin := Lib.hid hfin
    clear hfin
    have r0 := r_40.cells 0; have r1 := r_40.cells 1; have fr0 := r_40.free 0; have fr1 := r_40.free 1
    simp at r0 r1
    go_wp2_with ((with_reducible refine bodyPost_ret (v := .tuple #[.agg #[.slice A1 q c1, .slice C1 p d1], .bool false]) ?k1 ?k2 ?k3); (case k1 => (simp [results, Try.results12, go_sem, r0, r1, fr0, fr1])); (case k2 => rfl); (case k3 => (exact ⟨A1, c1, C1, d1, mid, g1, by rw [HV.out], (HFin.out _ rfl).1, (HFin.out _ rfl).2⟩)))
  have H4 := Lib.hid h4
  have hu := inB_iff.1 h4
  have hu1 := hu.1; have hu7 := hu.2
  have hw1 : IntKind.i64.wrap (sm + u) = sm + u := IntWalk.i64_in _ (by omega)
  clear h4 hu
  by_cases h5 : sm + u ≤ 999
  case neg =>
    have HV : Hid (addStB ats cs ts xss bs (cn : Int) u = false) := addStB_no5 (by rw [HSm.out]; exact h5)
    have h5' : 999 < sm + u := by omega
    have B0 := Below.refl w.heap.size w
    have s0 : w.heap.size ≤ w.heap.size := Nat.le_refl _
    go_enter Try.func12, Try.ntmps12
    have a_2 : Bx (w.alloc (.cells #[.slice A n c, .slice C m d] 40)) (w.heap.size) 40 #[.slice A n c, .slice C m d] := Bx.new _ _ _
    have B_2 := B0.alloc s0 (.cells #[.slice A n c, .slice C m d] 40)
    clear B0
    have ca_3 := a_2.cells
    have fa_3 := a_2.free
    clear ca_3 fa_3
    have a_4 := a_2.same (same_alloc (.cells #[.slice T q e0, .slice X p f0] 35) (by simp only [World.size_alloc]; omega))
    clear a_2
    have t_5 : Bx ((w.alloc (.cells #[.slice A n c, .slice C m d] 40)).alloc (.cells #[.slice T q e0, .slice X p f0] 35)) (w.heap.size + 1) 35 #[.slice T q e0, .slice X p f0] := by
      have h := Bx.new (w.alloc (.cells #[.slice A n c, .slice C m d] 40)) 35 #[.slice T q e0, .slice X p f0]
      simpa only [World.size_alloc] using h
    have B_5 := B_2.alloc (by simp only [World.size_alloc]; omega) (.cells #[.slice T q e0, .slice X p f0] 35)
    clear B_2
    have ca_6 := a_4.cells
    have fa_6 := a_4.free
    have ct_7 := t_5.cells
    have ft_7 := t_5.free
    clear ca_6 fa_6
    clear ct_7 ft_7
    have a_8 := a_4.same (same_alloc (.cells #[.slice E r0n e1, .int .i64 (cn : Int)] 43) (by simp only [World.size_alloc]; omega))
    clear a_4
    have t_8 := t_5.same (same_alloc (.cells #[.slice E r0n e1, .int .i64 (cn : Int)] 43) (by simp only [World.size_alloc]; omega))
    clear t_5
    have x_9 : Bx (((w.alloc (.cells #[.slice A n c, .slice C m d] 40)).alloc (.cells #[.slice T q e0, .slice X p f0] 35)).alloc (.cells #[.slice E r0n e1, .int .i64 (cn : Int)] 43)) (w.heap.size + 1 + 1) 43 #[.slice E r0n e1, .int .i64 (cn : Int)] := by
      have h := Bx.new ((w.alloc (.cells #[.slice A n c, .slice C m d] 40)).alloc (.cells #[.slice T q e0, .slice X p f0] 35)) 43 #[.slice E r0n e1, .int .i64 (cn : Int)]
      simpa only [World.size_alloc] using h
    have B_9 := B_5.alloc (by simp only [World.size_alloc]; omega) (.cells #[.slice E r0n e1, .int .i64 (cn : Int)] 43)
    clear B_5
    have ca_10 := a_8.cells
    have fa_10 := a_8.free
    have ct_11 := t_8.cells
    have ft_11 := t_8.free
    have cx_12 := x_9.cells
    have fx_12 := x_9.free
    clear ca_10 fa_10
    clear ct_11 ft_11
    clear cx_12 fx_12
    have a_13 := a_8.same (same_alloc (.cells #[.slice none 0 0, .slice none 0 0] 35) (by simp only [World.size_alloc]; omega))
    clear a_8
    have t_13 := t_8.same (same_alloc (.cells #[.slice none 0 0, .slice none 0 0] 35) (by simp only [World.size_alloc]; omega))
    clear t_8
    have x_13 := x_9.same (same_alloc (.cells #[.slice none 0 0, .slice none 0 0] 35) (by simp only [World.size_alloc]; omega))
    clear x_9
    have r_14 : Bx ((((w.alloc (.cells #[.slice A n c, .slice C m d] 40)).alloc (.cells #[.slice T q e0, .slice X p f0] 35)).alloc (.cells #[.slice E r0n e1, .int .i64 (cn : Int)] 43)).alloc (.cells #[.slice none 0 0, .slice none 0 0] 35)) (w.heap.size + 1 + 1 + 1) 35 #[.slice none 0 0, .slice none 0 0] := by
      have h := Bx.new (((w.alloc (.cells #[.slice A n c, .slice C m d] 40)).alloc (.cells #[.slice T q e0, .slice X p f0] 35)).alloc (.cells #[.slice E r0n e1, .int .i64 (cn : Int)] 43)) 35 #[.slice none 0 0, .slice none 0 0]
      simpa only [World.size_alloc] using h
    have B_14 := B_9.alloc (by simp only [World.size_alloc]; omega) (.cells #[.slice none 0 0, .slice none 0 0] 35)
    clear B_9
    have ca_15 := a_13.cells
    have fa_15 := a_13.free
    have ct_16 := t_13.cells
    have ft_16 := t_13.free
    have cx_17 := x_13.cells
    have fx_17 := x_13.free
    have cr_18 := r_14.cells
    have fr_18 := r_14.free
    go_wp2_with fail
    refine (l8Copy_any T X q e0 p f0 gs ts xss _ (SS.out.below B_14 (Nat.le_refl _))).mono ?_
    rintro e w1 ⟨A1, c1, C1, d1, mid, g1, rfl, o, b⟩
    clear ca_15 fa_15
    clear ct_16 ft_16
    clear cx_17 fx_17
    clear cr_18 fr_18
    simp only [World.size_alloc] at b o
    have t_19 := b.size
    simp only [World.size_alloc] at t_19
    have z_19 : w.heap.size ≤ w1.heap.size := by omega
    have a_20 := a_13.same (same_below b (by omega))
    clear a_13
    have t_20 := t_13.same (same_below b (by omega))
    clear t_13
    have x_20 := x_13.same (same_below b (by omega))
    clear x_13
    have r_20 := r_14.same (same_below b (by omega))
    clear r_14
    have B_19 := B_14.trans (b.mono (by omega))
    clear B_14 b
    have y_19 := o
    clear o
    have ca_21 := a_20.cells
    have fa_21 := a_20.free
    have ct_22 := t_20.cells
    have ft_22 := t_20.free
    have cx_23 := x_20.cells
    have fx_23 := x_20.free
    have cr_24 := r_20.cells
    have fr_24 := r_20.free
    clear ca_21 fa_21
    clear ct_22 ft_22
    clear cx_23 fx_23
    clear cr_24 fr_24
    have a_25 := a_20.same (same_alloc (.cells #[.slice A1 q c1, .slice C1 p d1] 35) (by omega))
    clear a_20
    have t_25 := t_20.same (same_alloc (.cells #[.slice A1 q c1, .slice C1 p d1] 35) (by omega))
    clear t_20
    have x_25 := x_20.same (same_alloc (.cells #[.slice A1 q c1, .slice C1 p d1] 35) (by omega))
    clear x_20
    have r_25 := r_20.same (same_alloc (.cells #[.slice A1 q c1, .slice C1 p d1] 35) (by omega))
    clear r_20
    have y_25 := y_19.same (same_alloc (.cells #[.slice A1 q c1, .slice C1 p d1] 35) (by omega))
    clear y_19
    have out_26 : Bx (w1.alloc (.cells #[.slice A1 q c1, .slice C1 p d1] 35)) (w1.heap.size) 35 #[.slice A1 q c1, .slice C1 p d1] := Bx.new _ _ _
    have B_26 := B_19.alloc z_19 (.cells #[.slice A1 q c1, .slice C1 p d1] 35)
    clear B_19
    have ca_27 := a_25.cells
    have fa_27 := a_25.free
    have ct_28 := t_25.cells
    have ft_28 := t_25.free
    have cx_29 := x_25.cells
    have fx_29 := x_25.free
    have cr_30 := r_25.cells
    have fr_30 := r_25.free
    have cout_31 := out_26.cells
    have fout_31 := out_26.free
    go_wp2_with fail
    refine (sStatsOk_any A C n c m d hs ats cs T X q e0 p f0 gs ts xss _ (R.out.below B_26 (Nat.le_refl _)) (SS.out.below B_26 (Nat.le_refl _))).mono ?_
    rw [H1.out]
    rintro e w2 ⟨rfl, b⟩
    clear ca_27 fa_27
    clear ct_28 ft_28
    clear cx_29 fx_29
    clear cr_30 fr_30
    clear cout_31 fout_31
    simp only [World.size_alloc] at b
    have t_32 := b.size
    simp only [World.size_alloc] at t_32
    have z_32 : w.heap.size ≤ w2.heap.size := by omega
    have a_33 := a_25.same (same_below b (by omega))
    clear a_25
    have t_33 := t_25.same (same_below b (by omega))
    clear t_25
    have x_33 := x_25.same (same_below b (by omega))
    clear x_25
    have r_33 := r_25.same (same_below b (by omega))
    clear r_25
    have y_33 := y_25.same (same_below b (by omega))
    clear y_25
    have out_33 := out_26.same (same_below b (by omega))
    clear out_26
    have B_32 := B_26.trans (b.mono (by omega))
    clear B_26 b
    have ca_34 := a_33.cells
    have fa_34 := a_33.free
    have ct_35 := t_33.cells
    have ft_35 := t_33.free
    have cx_36 := x_33.cells
    have fx_36 := x_33.free
    have cr_37 := r_33.cells
    have fr_37 := r_33.free
    have cout_38 := out_33.cells
    have fout_38 := out_33.free
    go_wp2_with fail
    refine (sExOk_any A C n c m d hs ats cs E r0n e1 bs (cn : Int) _ (R.out.below B_32 (Nat.le_refl _)) (XX.out.below B_32 (Nat.le_refl _)) hr0).mono ?_
    rw [H2.out]
    rintro e w3 ⟨rfl, b⟩
    clear ca_34 fa_34
    clear ct_35 ft_35
    clear cx_36 fx_36
    clear cr_37 fr_37
    clear cout_38 fout_38
    have t_39 := b.size
    have z_39 : w.heap.size ≤ w3.heap.size := by omega
    have a_40 := a_33.same (same_below b (by omega))
    clear a_33
    have t_40 := t_33.same (same_below b (by omega))
    clear t_33
    have x_40 := x_33.same (same_below b (by omega))
    clear x_33
    have r_40 := r_33.same (same_below b (by omega))
    clear r_33
    have y_40 := y_33.same (same_below b (by omega))
    clear y_33
    have out_40 := out_33.same (same_below b (by omega))
    clear out_33
    have B_39 := B_32.trans (b.mono (by omega))
    clear B_32 b
    have ca_41 := a_40.cells
    have fa_41 := a_40.free
    have ct_42 := t_40.cells
    have ft_42 := t_40.free
    have cx_43 := x_40.cells
    have fx_43 := x_40.free
    have cr_44 := r_40.cells
    have fr_44 := r_40.free
    have cout_45 := out_40.cells
    have fout_45 := out_40.free
    go_wp2_with fail
    refine (l1In_any u 1 7 _).mono ?_
    rw [H4.out]
    rintro e w4 ⟨rfl, rfl⟩
    go_wp2_with fail
    refine (sStatsTotal_any A C n c m d hs ats cs T X q e0 p f0 gs ts xss _ (R.out.below B_39 (Nat.le_refl _)) (SS.out.below B_39 (Nat.le_refl _)) H1.out).mono ?_
    rw [HSm.out]
    rintro e w4 ⟨rfl, b⟩
    clear ca_41 fa_41
    clear ct_42 ft_42
    clear cx_43 fx_43
    clear cr_44 fr_44
    clear cout_45 fout_45
    have t_46 := b.size
    have z_46 : w.heap.size ≤ w4.heap.size := by omega
    have a_47 := a_40.same (same_below b (by omega))
    clear a_40
    have t_47 := t_40.same (same_below b (by omega))
    clear t_40
    have x_47 := x_40.same (same_below b (by omega))
    clear x_40
    have r_47 := r_40.same (same_below b (by omega))
    clear r_40
    have y_47 := y_40.same (same_below b (by omega))
    clear y_40
    have out_47 := out_40.same (same_below b (by omega))
    clear out_40
    have B_46 := B_39.trans (b.mono (by omega))
    clear B_39 b
    have ca_48 := a_47.cells
    have fa_48 := a_47.free
    have ct_49 := t_47.cells
    have ft_49 := t_47.free
    have cx_50 := x_47.cells
    have fx_50 := x_47.free
    have cr_51 := r_47.cells
    have fr_51 := r_47.free
    have cout_52 := out_47.cells
    have fout_52 := out_47.free
    have HTT : Hid (addT ats cs ts xss bs (cn : Int) u = ts) := by unfold Hid addT; rw [HV.out]; rfl
    have HXX : Hid (addX ats cs ts xss bs (cn : Int) u = xss) := by unfold Hid addX; rw [HV.out]; rfl
    have hfin : ∀ w9, w9 = (w4.setCell ⟨(w.heap.size + 1 + 1 + 1), 0, none⟩ (.slice A1 q c1)).setCell ⟨(w.heap.size + 1 + 1 + 1), 1, none⟩ (.slice C1 p d1) → OwSta w.heap.size w9.heap.size w9 A1 C1 q c1 p d1 mid g1 (addT ats cs ts xss bs (cn : Int) u) (addX ats cs ts xss bs (cn : Int) u) ∧ Below w.heap.size w w9 := by
      intro w9 h9
      subst h9
      rw [HTT.out, HXX.out]
      have h1 := (y_47.same (same_set (b := (w.heap.size + 1 + 1 + 1)) (off := 0) (u := .slice A1 q c1) (by omega))).same (same_set (b := (w.heap.size + 1 + 1 + 1)) (off := 1) (u := .slice C1 p d1) (by omega))
      refine ⟨⟨h1.tot.wide (by omega) (Nat.le_refl _), h1.cel.wide (Nat.le_refl _) (by simp only [World.size_setCell]; omega), ⟨by have := h1.le; omega, by have := h1.le; simp only [World.size_setCell]; omega⟩⟩, ?_⟩
      have hB := B_46
      go_grown
    have HFin := Lib.hid hfin
    clear hfin
    have r0 := r_47.cells 0; have r1 := r_47.cells 1; have fr0 := r_47.free 0; have fr1 := r_47.free 1
    simp at r0 r1
    go_wp2_with ((with_reducible refine bodyPost_ret (v := .tuple #[.agg #[.slice A1 q c1, .slice C1 p d1], .bool false]) ?k1 ?k2 ?k3); (case k1 => (simp [results, Try.results12, go_sem, r0, r1, fr0, fr1])); (case k2 => rfl); (case k3 => (exact ⟨A1, c1, C1, d1, mid, g1, by rw [HV.out], (HFin.out _ rfl).1, (HFin.out _ rfl).2⟩)))
  have HV : Hid (addStB ats cs ts xss bs (cn : Int) u = true) := addStB_yes H1.out H2.out (by omega) H4.out (by rw [HSm.out]; exact h5)
  have h5' : ¬ 999 < sm + u := by omega
  have hqm : q = m := by have := statsB_lenT H1.out; rw [HT.out, HC.out] at this; exact this
  have hm3 : m ≤ 3 := by have := (statsB_tot H1.out).1; rw [HT.out] at this; omega
  subst hqm
  have B0 := Below.refl w.heap.size w
  have s0 : w.heap.size ≤ w.heap.size := Nat.le_refl _
  go_enter Try.func12, Try.ntmps12
  have a_2 : Bx (w.alloc (.cells #[.slice A n c, .slice C q d] 40)) (w.heap.size) 40 #[.slice A n c, .slice C q d] := Bx.new _ _ _
  have B_2 := B0.alloc s0 (.cells #[.slice A n c, .slice C q d] 40)
  clear B0
  have ca_3 := a_2.cells
  have fa_3 := a_2.free
  clear ca_3 fa_3
  have a_4 := a_2.same (same_alloc (.cells #[.slice T q e0, .slice X p f0] 35) (by simp only [World.size_alloc]; omega))
  clear a_2
  have t_5 : Bx ((w.alloc (.cells #[.slice A n c, .slice C q d] 40)).alloc (.cells #[.slice T q e0, .slice X p f0] 35)) (w.heap.size + 1) 35 #[.slice T q e0, .slice X p f0] := by
    have h := Bx.new (w.alloc (.cells #[.slice A n c, .slice C q d] 40)) 35 #[.slice T q e0, .slice X p f0]
    simpa only [World.size_alloc] using h
  have B_5 := B_2.alloc (by simp only [World.size_alloc]; omega) (.cells #[.slice T q e0, .slice X p f0] 35)
  clear B_2
  have ca_6 := a_4.cells
  have fa_6 := a_4.free
  have ct_7 := t_5.cells
  have ft_7 := t_5.free
  clear ca_6 fa_6
  clear ct_7 ft_7
  have a_8 := a_4.same (same_alloc (.cells #[.slice E r0n e1, .int .i64 (cn : Int)] 43) (by simp only [World.size_alloc]; omega))
  clear a_4
  have t_8 := t_5.same (same_alloc (.cells #[.slice E r0n e1, .int .i64 (cn : Int)] 43) (by simp only [World.size_alloc]; omega))
  clear t_5
  have x_9 : Bx (((w.alloc (.cells #[.slice A n c, .slice C q d] 40)).alloc (.cells #[.slice T q e0, .slice X p f0] 35)).alloc (.cells #[.slice E r0n e1, .int .i64 (cn : Int)] 43)) (w.heap.size + 1 + 1) 43 #[.slice E r0n e1, .int .i64 (cn : Int)] := by
    have h := Bx.new ((w.alloc (.cells #[.slice A n c, .slice C q d] 40)).alloc (.cells #[.slice T q e0, .slice X p f0] 35)) 43 #[.slice E r0n e1, .int .i64 (cn : Int)]
    simpa only [World.size_alloc] using h
  have B_9 := B_5.alloc (by simp only [World.size_alloc]; omega) (.cells #[.slice E r0n e1, .int .i64 (cn : Int)] 43)
  clear B_5
  have ca_10 := a_8.cells
  have fa_10 := a_8.free
  have ct_11 := t_8.cells
  have ft_11 := t_8.free
  have cx_12 := x_9.cells
  have fx_12 := x_9.free
  clear ca_10 fa_10
  clear ct_11 ft_11
  clear cx_12 fx_12
  have a_13 := a_8.same (same_alloc (.cells #[.slice none 0 0, .slice none 0 0] 35) (by simp only [World.size_alloc]; omega))
  clear a_8
  have t_13 := t_8.same (same_alloc (.cells #[.slice none 0 0, .slice none 0 0] 35) (by simp only [World.size_alloc]; omega))
  clear t_8
  have x_13 := x_9.same (same_alloc (.cells #[.slice none 0 0, .slice none 0 0] 35) (by simp only [World.size_alloc]; omega))
  clear x_9
  have r_14 : Bx ((((w.alloc (.cells #[.slice A n c, .slice C q d] 40)).alloc (.cells #[.slice T q e0, .slice X p f0] 35)).alloc (.cells #[.slice E r0n e1, .int .i64 (cn : Int)] 43)).alloc (.cells #[.slice none 0 0, .slice none 0 0] 35)) (w.heap.size + 1 + 1 + 1) 35 #[.slice none 0 0, .slice none 0 0] := by
    have h := Bx.new (((w.alloc (.cells #[.slice A n c, .slice C q d] 40)).alloc (.cells #[.slice T q e0, .slice X p f0] 35)).alloc (.cells #[.slice E r0n e1, .int .i64 (cn : Int)] 43)) 35 #[.slice none 0 0, .slice none 0 0]
    simpa only [World.size_alloc] using h
  have B_14 := B_9.alloc (by simp only [World.size_alloc]; omega) (.cells #[.slice none 0 0, .slice none 0 0] 35)
  clear B_9
  have ca_15 := a_13.cells
  have fa_15 := a_13.free
  have ct_16 := t_13.cells
  have ft_16 := t_13.free
  have cx_17 := x_13.cells
  have fx_17 := x_13.free
  have cr_18 := r_14.cells
  have fr_18 := r_14.free
  go_wp2_with fail
  refine (l8Copy_any T X q e0 p f0 gs ts xss _ (SS.out.below B_14 (Nat.le_refl _))).mono ?_
  rintro e w1 ⟨A1, c1, C1, d1, mid, g1, rfl, o, b⟩
  clear ca_15 fa_15
  clear ct_16 ft_16
  clear cx_17 fx_17
  clear cr_18 fr_18
  simp only [World.size_alloc] at b o
  have t_19 := b.size
  simp only [World.size_alloc] at t_19
  have z_19 : w.heap.size ≤ w1.heap.size := by omega
  have a_20 := a_13.same (same_below b (by omega))
  clear a_13
  have t_20 := t_13.same (same_below b (by omega))
  clear t_13
  have x_20 := x_13.same (same_below b (by omega))
  clear x_13
  have r_20 := r_14.same (same_below b (by omega))
  clear r_14
  have B_19 := B_14.trans (b.mono (by omega))
  clear B_14 b
  have y_19 := o
  clear o
  have ca_21 := a_20.cells
  have fa_21 := a_20.free
  have ct_22 := t_20.cells
  have ft_22 := t_20.free
  have cx_23 := x_20.cells
  have fx_23 := x_20.free
  have cr_24 := r_20.cells
  have fr_24 := r_20.free
  clear ca_21 fa_21
  clear ct_22 ft_22
  clear cx_23 fx_23
  clear cr_24 fr_24
  have a_25 := a_20.same (same_alloc (.cells #[.slice A1 q c1, .slice C1 p d1] 35) (by omega))
  clear a_20
  have t_25 := t_20.same (same_alloc (.cells #[.slice A1 q c1, .slice C1 p d1] 35) (by omega))
  clear t_20
  have x_25 := x_20.same (same_alloc (.cells #[.slice A1 q c1, .slice C1 p d1] 35) (by omega))
  clear x_20
  have r_25 := r_20.same (same_alloc (.cells #[.slice A1 q c1, .slice C1 p d1] 35) (by omega))
  clear r_20
  have y_25 := y_19.same (same_alloc (.cells #[.slice A1 q c1, .slice C1 p d1] 35) (by omega))
  clear y_19
  have out_26 : Bx (w1.alloc (.cells #[.slice A1 q c1, .slice C1 p d1] 35)) (w1.heap.size) 35 #[.slice A1 q c1, .slice C1 p d1] := Bx.new _ _ _
  have B_26 := B_19.alloc z_19 (.cells #[.slice A1 q c1, .slice C1 p d1] 35)
  clear B_19
  have ca_27 := a_25.cells
  have fa_27 := a_25.free
  have ct_28 := t_25.cells
  have ft_28 := t_25.free
  have cx_29 := x_25.cells
  have fx_29 := x_25.free
  have cr_30 := r_25.cells
  have fr_30 := r_25.free
  have cout_31 := out_26.cells
  have fout_31 := out_26.free
  go_wp2_with fail
  refine (sStatsOk_any A C n c q d hs ats cs T X q e0 p f0 gs ts xss _ (R.out.below B_26 (Nat.le_refl _)) (SS.out.below B_26 (Nat.le_refl _))).mono ?_
  rw [H1.out]
  rintro e w2 ⟨rfl, b⟩
  clear ca_27 fa_27
  clear ct_28 ft_28
  clear cx_29 fx_29
  clear cr_30 fr_30
  clear cout_31 fout_31
  simp only [World.size_alloc] at b
  have t_32 := b.size
  simp only [World.size_alloc] at t_32
  have z_32 : w.heap.size ≤ w2.heap.size := by omega
  have a_33 := a_25.same (same_below b (by omega))
  clear a_25
  have t_33 := t_25.same (same_below b (by omega))
  clear t_25
  have x_33 := x_25.same (same_below b (by omega))
  clear x_25
  have r_33 := r_25.same (same_below b (by omega))
  clear r_25
  have y_33 := y_25.same (same_below b (by omega))
  clear y_25
  have out_33 := out_26.same (same_below b (by omega))
  clear out_26
  have B_32 := B_26.trans (b.mono (by omega))
  clear B_26 b
  have ca_34 := a_33.cells
  have fa_34 := a_33.free
  have ct_35 := t_33.cells
  have ft_35 := t_33.free
  have cx_36 := x_33.cells
  have fx_36 := x_33.free
  have cr_37 := r_33.cells
  have fr_37 := r_33.free
  have cout_38 := out_33.cells
  have fout_38 := out_33.free
  go_wp2_with fail
  refine (sExOk_any A C n c q d hs ats cs E r0n e1 bs (cn : Int) _ (R.out.below B_32 (Nat.le_refl _)) (XX.out.below B_32 (Nat.le_refl _)) hr0).mono ?_
  rw [H2.out]
  rintro e w3 ⟨rfl, b⟩
  clear ca_34 fa_34
  clear ct_35 ft_35
  clear cx_36 fx_36
  clear cr_37 fr_37
  clear cout_38 fout_38
  have t_39 := b.size
  have z_39 : w.heap.size ≤ w3.heap.size := by omega
  have a_40 := a_33.same (same_below b (by omega))
  clear a_33
  have t_40 := t_33.same (same_below b (by omega))
  clear t_33
  have x_40 := x_33.same (same_below b (by omega))
  clear x_33
  have r_40 := r_33.same (same_below b (by omega))
  clear r_33
  have y_40 := y_33.same (same_below b (by omega))
  clear y_33
  have out_40 := out_33.same (same_below b (by omega))
  clear out_33
  have B_39 := B_32.trans (b.mono (by omega))
  clear B_32 b
  have ca_41 := a_40.cells
  have fa_41 := a_40.free
  have ct_42 := t_40.cells
  have ft_42 := t_40.free
  have cx_43 := x_40.cells
  have fx_43 := x_40.free
  have cr_44 := r_40.cells
  have fr_44 := r_40.free
  have cout_45 := out_40.cells
  have fout_45 := out_40.free
  go_wp2_with fail
  refine (l1In_any u 1 7 _).mono ?_
  rw [H4.out]
  rintro e w4 ⟨rfl, rfl⟩
  go_wp2_with fail
  refine (sStatsTotal_any A C n c q d hs ats cs T X q e0 p f0 gs ts xss _ (R.out.below B_39 (Nat.le_refl _)) (SS.out.below B_39 (Nat.le_refl _)) H1.out).mono ?_
  rw [HSm.out]
  rintro e w4 ⟨rfl, b⟩
  clear ca_41 fa_41
  clear ct_42 ft_42
  clear cx_43 fx_43
  clear cr_44 fr_44
  clear cout_45 fout_45
  have t_46 := b.size
  have z_46 : w.heap.size ≤ w4.heap.size := by omega
  have a_47 := a_40.same (same_below b (by omega))
  clear a_40
  have t_47 := t_40.same (same_below b (by omega))
  clear t_40
  have x_47 := x_40.same (same_below b (by omega))
  clear x_40
  have r_47 := r_40.same (same_below b (by omega))
  clear r_40
  have y_47 := y_40.same (same_below b (by omega))
  clear y_40
  have out_47 := out_40.same (same_below b (by omega))
  clear out_40
  have B_46 := B_39.trans (b.mono (by omega))
  clear B_39 b
  have ca_48 := a_47.cells
  have fa_48 := a_47.free
  have ct_49 := t_47.cells
  have ft_49 := t_47.free
  have cx_50 := x_47.cells
  have fx_50 := x_47.free
  have cr_51 := r_47.cells
  have fr_51 := r_47.free
  have cout_52 := out_47.cells
  have fout_52 := out_47.free
  have HAc := Lib.hid B_46
  have HR0 : Hid (w4.cell? ⟨(w.heap.size + 1 + 1 + 1), 0, none⟩ = some (.slice none 0 0)) := r_47.cells 0; have HR1 : Hid (w4.cell? ⟨(w.heap.size + 1 + 1 + 1), 1, none⟩ = some (.slice none 0 0)) := r_47.cells 1
  have HF0 : Hid (w4.frozen? ⟨(w.heap.size + 1 + 1 + 1), 0, none⟩ = false) := r_47.free 0; have HF1 : Hid (w4.frozen? ⟨(w.heap.size + 1 + 1 + 1), 1, none⟩ = false) := r_47.free 1
  have HA1 : Hid (w4.cell? ⟨w.heap.size, 1, none⟩ = some (.slice C q d)) := a_47.cells 1
  have HE0 : Hid (w4.cell? ⟨(w.heap.size + 1 + 1), 0, none⟩ = some (.slice E r0n e1)) := x_47.cells 0; have HE1 : Hid (w4.cell? ⟨(w.heap.size + 1 + 1), 1, none⟩ = some (.int .i64 (cn : Int))) := x_47.cells 1
  have lo_ := out_47.lt
  obtain ⟨LO, hLO⟩ : ∃ LO, LO = w.heap.size + 1 + 1 + 1 + 1 := ⟨_, rfl⟩
  obtain ⟨BO, hBO⟩ : ∃ BO, BO = w1.heap.size := ⟨_, rfl⟩
  have hst0 : StB LO mid BO w4 A1 C1 q c1 p d1 g1 ts xss := by rw [hLO, hBO]; exact StB.start y_47 (by omega) out_47
  rw [← hBO]
  have hXl : (w.heap.size + 1 + 1 + 1) < LO := by omega
  have hLB : LO ≤ BO := by have := hst0.ow.le; omega
  have hBV : BO < w4.heap.size := by omega
  obtain ⟨ga, ca, hAA, hga1, hga2, hgc1, hgc2⟩ := own_form hst0.ow.tot.own (show 0 < q by omega)
  simp only [Value.slice.injEq] at hAA
  obtain ⟨rfl, _, hcc⟩ := hAA
  have hgt := hst0.ow.tot.top ga rfl
  obtain ⟨tx, htx⟩ : ∃ z, ts[cn]? = some z := ⟨_, List.getElem?_eq_getElem (by rw [HT.out]; exact hcn)⟩
  have htxb := HW9.out tx (List.mem_of_getElem? htx)
  have hcell : w4.cell? ⟨ga, cn, none⟩ = some (.int .i64 tx) := by rw [hst0.ow.tot.own.cellAt cn (by omega)]; simp [htx]
  have hfrz : w4.frozen? ⟨ga, cn, none⟩ = false := hst0.ow.tot.own.frozenAt cn
  have hgd : ts.getD cn 0 = tx := by simp [List.getD, htx]
  have HTT : Hid (addT ats cs ts xss bs (cn : Int) u = (ts.set cn (tx + u))) := by unfold Hid addT addAt; rw [HV.out, if_pos rfl, Int.toNat_natCast, hgd]
  have HXX : Hid (addX ats cs ts xss bs (cn : Int) u = addK q (cn : Int) u bs xss p) := by unfold Hid addX; rw [HV.out, if_pos rfl, HC.out, HX.out]
  have hwx : IntKind.i64.wrap (tx + u) = tx + u := IntWalk.i64_in _ (by omega)
  have o0 : w4.cell? ⟨BO, 0, none⟩ = some (.slice (some ⟨ga, 0, none⟩) q c1) := by have := hst0.bx.cells 0; simpa using this
  have x1 : w4.cell? ⟨(w.heap.size + 1 + 1), 1, none⟩ = some (.int .i64 (cn : Int)) := HE1.out
  have n0 : (0 : Int) ≤ (cn : Int) := Int.natCast_nonneg _
  have n1 : (cn : Int) < (q : Int) := by omega
  have HS0 := Lib.hid hst0
  have HTB : Hid (0 ≤ tx ∧ tx ≤ 999) := htxb
  clear hst0 hLO hBO htx htxb hgd hcc hgc1 hgc2 B_46 y_47 r_47 out_47 a_47 x_47 t_47 ca_48 fa_48 ct_49 ft_49 cx_50 fx_50 cr_51 fr_51 cout_52 fout_52
  go_upto_region 4 with fail
  go_cut [] (fun wx => StB LO mid BO wx (some ⟨ga, 0, none⟩) C1 q c1 p d1 g1 (ts.set cn (tx + u)) xss ∧ Below LO w4 wx)
  case first =>
    refine wp_region_last (n := 13) (S := fun w' => w'.cell? ⟨BO, 0, none⟩ = some (.slice (some ⟨ga, 0, none⟩) q c1) ∧ w'.cell? ⟨(w.heap.size + 1 + 1), 1, none⟩ = some (.int .i64 (cn : Int)) ∧ w'.cell? ⟨ga, cn, none⟩ = some (.int .i64 tx) ∧ w'.frozen? ⟨ga, cn, none⟩ = false) (by kernel_rfl) rfl (by kernel_rfl) (⟨o0, x1, hcell, hfrz⟩) ?_
    intro hS; (try dsimp only at hS)
    simp only [List.take_succ_cons, List.take_zero, List.getElem_toArray, List.getElem_cons_succ, List.getElem_cons_zero]
    refine wpAnyH_take (i := 0) (v := ?v19x) rfl (by kernel_rfl) (by kernel_rfl) (by kernel_rfl) (fun _ _ _ h => h) (Or.inl ⟨by rfl, ?hy19x⟩) hS ?rest19x
    case hy19x => (intro w' hSw; (try dsimp only at hSw); go_simp; (try (with_reducible rfl)))
    (try simp only [Act.put, List.setIfInBounds_toArray, List.set_cons_zero, List.set_cons_succ, List.getElem_toArray, List.getElem_cons_succ, List.getElem_cons_zero])
    refine wpAnyH_take (i := 1) (v := ?v20x) rfl (by kernel_rfl) (by kernel_rfl) (by kernel_rfl) (fun _ _ _ h => h) (Or.inl ⟨by rfl, ?hy20x⟩) hS ?rest20x
    case hy20x => (intro w' hSw; (try dsimp only at hSw); go_simp; (try (with_reducible rfl)))
    (try simp only [Act.put, List.setIfInBounds_toArray, List.set_cons_zero, List.set_cons_succ, List.getElem_toArray, List.getElem_cons_succ, List.getElem_cons_zero])
    refine wpAnyH_take (i := 2) (v := ?v21x) rfl (by kernel_rfl) (by kernel_rfl) (by kernel_rfl) (fun _ _ _ h => h) (Or.inl ⟨by rfl, ?hy21x⟩) hS ?rest21x
    case hy21x => (intro w' hSw; (try dsimp only at hSw); go_simp; (try (with_reducible rfl)))
    (try simp only [Act.put, List.setIfInBounds_toArray, List.set_cons_zero, List.set_cons_succ, List.getElem_toArray, List.getElem_cons_succ, List.getElem_cons_zero])
    refine wpAnyH_take (i := 3) (v := ?v22x) rfl (by kernel_rfl) (by kernel_rfl) (by kernel_rfl) (fun _ _ _ h => h) (Or.inl ⟨by rfl, ?hy22x⟩) hS ?rest22x
    case hy22x => (intro w' hSw; (try dsimp only at hSw); go_simp; (try (with_reducible rfl)))
    (try simp only [Act.put, List.setIfInBounds_toArray, List.set_cons_zero, List.set_cons_succ, List.getElem_toArray, List.getElem_cons_succ, List.getElem_cons_zero])
    refine wpAnyH_take (i := 4) (v := ?v23x) rfl (by kernel_rfl) (by kernel_rfl) (by kernel_rfl) (fun _ _ _ h => h) (Or.inl ⟨by rfl, ?hy23x⟩) hS ?rest23x
    case hy23x => (intro w' hSw; (try dsimp only at hSw); go_simp; (try (with_reducible rfl)))
    (try simp only [Act.put, List.setIfInBounds_toArray, List.set_cons_zero, List.set_cons_succ, List.getElem_toArray, List.getElem_cons_succ, List.getElem_cons_zero])
    refine wpAnyH_take (i := 5) (v := ?v24x) rfl (by kernel_rfl) (by kernel_rfl) (by kernel_rfl) (fun _ _ _ h => h) (Or.inl ⟨by rfl, ?hy24x⟩) hS ?rest24x
    case hy24x => (intro w' hSw; (try dsimp only at hSw); go_simp; (try (with_reducible rfl)))
    (try simp only [Act.put, List.setIfInBounds_toArray, List.set_cons_zero, List.set_cons_succ, List.getElem_toArray, List.getElem_cons_succ, List.getElem_cons_zero])
    refine wpAnyH_take (i := 6) (v := ?v25x) rfl (by kernel_rfl) (by kernel_rfl) (by kernel_rfl) (fun _ _ _ h => h) (Or.inl ⟨by rfl, ?hy25x⟩) hS ?rest25x
    case hy25x => (intro w' hSw; (try dsimp only at hSw); go_simp; (try (with_reducible rfl)))
    (try simp only [Act.put, List.setIfInBounds_toArray, List.set_cons_zero, List.set_cons_succ, List.getElem_toArray, List.getElem_cons_succ, List.getElem_cons_zero])
    refine wpAnyH_take (i := 7) (v := ?v26x) rfl (by kernel_rfl) (by kernel_rfl) (by kernel_rfl) (fun _ _ _ h => h) (Or.inl ⟨by rfl, ?hy26x⟩) hS ?rest26x
    case hy26x => (intro w' hSw; (try dsimp only at hSw); go_simp; (try (with_reducible rfl)))
    (try simp only [Act.put, List.setIfInBounds_toArray, List.set_cons_zero, List.set_cons_succ, List.getElem_toArray, List.getElem_cons_succ, List.getElem_cons_zero])
    refine wpAnyH_take (i := 8) (v := ?v27x) rfl (by kernel_rfl) (by kernel_rfl) (by kernel_rfl) (fun _ _ _ h => h) (Or.inl ⟨by rfl, ?hy27x⟩) hS ?rest27x
    case hy27x => (intro w' hSw; (try dsimp only at hSw); go_simp; (try (with_reducible rfl)))
    (try simp only [Act.put, List.setIfInBounds_toArray, List.set_cons_zero, List.set_cons_succ, List.getElem_toArray, List.getElem_cons_succ, List.getElem_cons_zero])
    refine wpAnyH_take (i := 9) (v := ?v28x) rfl (by kernel_rfl) (by kernel_rfl) (by kernel_rfl) (fun _ _ _ h => h) (Or.inl ⟨by rfl, ?hy28x⟩) hS ?rest28x
    case hy28x => (intro w' hSw; (try dsimp only at hSw); go_simp; (try (with_reducible rfl)))
    (try simp only [Act.put, List.setIfInBounds_toArray, List.set_cons_zero, List.set_cons_succ, List.getElem_toArray, List.getElem_cons_succ, List.getElem_cons_zero])
    refine wpAnyH_take (i := 10) (v := ?v29x) rfl (by kernel_rfl) (by kernel_rfl) (by kernel_rfl) (fun _ _ _ h => h) (Or.inl ⟨by rfl, ?hy29x⟩) hS ?rest29x
    case hy29x => (intro w' hSw; (try dsimp only at hSw); go_simp; (try (with_reducible rfl)))
    (try simp only [Act.put, List.setIfInBounds_toArray, List.set_cons_zero, List.set_cons_succ, List.getElem_toArray, List.getElem_cons_succ, List.getElem_cons_zero])
    refine wpAnyH_take (i := 11) (v := ?v30x) rfl (by kernel_rfl) (by kernel_rfl) (by kernel_rfl) (fun _ _ _ h => h) (Or.inl ⟨by rfl, ?hy30x⟩) hS ?rest30x
    case hy30x => (intro w' hSw; (try dsimp only at hSw); go_simp; (try (with_reducible rfl)))
    (try simp only [Act.put, List.setIfInBounds_toArray, List.set_cons_zero, List.set_cons_succ, List.getElem_toArray, List.getElem_cons_succ, List.getElem_cons_zero])
    refine wpAnyH_take (i := 12) (v := ?v31x) rfl (by kernel_rfl) (by kernel_rfl) (by kernel_rfl) (fun _ _ _ h => h) (Or.inl ⟨by rfl, ?hy31x⟩) hS ?rest31x
    case hy31x => (intro w' hSw; (try dsimp only at hSw); go_simp; (try (with_reducible rfl)))
    (try simp only [Act.put, List.setIfInBounds_toArray, List.set_cons_zero, List.set_cons_succ, List.getElem_toArray, List.getElem_cons_succ, List.getElem_cons_zero])
    refine wpAnyH_done (by kernel_rfl) ?_ _
    refine fun K hK => ?_
    go_simp
    refine hK.out _ _ ?_
    clear hK K
    go_wp2_with fail
    go_meet
    exact ⟨((HS0.out.same (w' := w4.drew) (fun _ _ _ => rfl)).setT).1, ((Below.refl LO w4).drew).trans ((HS0.out.same (w' := w4.drew) (fun _ _ _ => rfl)).setT).2⟩
  obtain ⟨hs1, hb1⟩ := hcut
  obtain ⟨u1, rfl⟩ : ∃ u1 : World, u1 = wc := ⟨_, rfl⟩
  have HS1 := Lib.hid hs1; have HB1 := Lib.hid hb1
  have oc1 : u1.cell? ⟨BO, 1, none⟩ = some (.slice C1 p d1) := by have := hs1.bx.cells 1; simpa using this
  have hz1 := hb1.size
  clear hs1 hb1 o0 x1 hcell hfrz HS0 hwx n0 n1 hga2
  go_wp2_with fail
  go_loopw [11] (fun ii wr => ∃ k : Nat, k ≤ p ∧ ii = .int .i64 k ∧ StB LO mid BO wr (some ⟨ga, 0, none⟩) C1 q c1 p d1 g1 (ts.set cn (tx + u)) (addK q (cn : Int) u bs xss k) ∧ Below LO u1 wr) (fun ii _ => p - (intOf ii).toNat)
  case atStart => exact ⟨0, Nat.zero_le _, rfl, HS1.out, Below.refl _ _⟩
  case round =>
    obtain ⟨k, hk, rfl, hst, hbel⟩ := hrel
    obtain ⟨wo, rfl⟩ : ∃ wo : World, wo = wr := ⟨_, rfl⟩
    have HB : Hid (Below LO w4 wo) := HB1.out.trans hbel
    have HBel := Lib.hid hbel
    have hzo := hbel.size
    have oc : wo.cell? ⟨BO, 1, none⟩ = some (.slice C1 p d1) := by have := hst.bx.cells 1; simpa using this
    have o0 : wo.cell? ⟨BO, 0, none⟩ = some (.slice (some ⟨ga, 0, none⟩) q c1) := by have := hst.bx.cells 0; simpa using this
    have HS := Lib.hid hst
    clear hst hbel oc1
    by_cases hlt : k < p
    · obtain ⟨xs0, hxs0⟩ : ∃ z, xss[k]? = some z := ⟨_, List.getElem?_eq_getElem (by rw [HX.out]; exact hlt)⟩
      obtain ⟨a, nb, ha, hnb, hn2, hn4, hlen, hvals⟩ := statsB_rowlen H1.out hxs0
      rw [HC.out] at hlen
      have hkk : (addK q (cn : Int) u bs xss k)[k]? = some xs0 := by rw [addK_get k (Nat.le_refl _)]; exact hxs0
      have hnq := Nat.mul_le_mul hn2 (show 1 ≤ q by omega)
      obtain ⟨gb, gr, xn, xc, xs, hCC, hhx, hxs, hxl, hc1, hc2, hf2, hg1, hg2, hg3, hg4, hg5⟩ := HS.out.get hlt (fun xs h => by rw [hkk] at h; obtain rfl := Option.some.inj h; rw [hlen]; omega)
      subst hCC
      rw [hkk] at hxs
      obtain rfl := Option.some.inj hxs
      have hbl : k < bs.length := by rw [HBA.out]; exact (List.getElem?_eq_some_iff.1 ha).1
      obtain ⟨b0, hb0⟩ : ∃ z, bs[k]? = some z := ⟨_, List.getElem?_eq_getElem hbl⟩
      have hin := inB_iff.1 (exRow_get HXR.out ha hb0)
      rw [hnb] at hin
      have hbm1 := hin.1; have hbm2 : b0 < (nb : Int) := by have := hin.2; omega
      obtain ⟨be, oe, hE, hbe, hce⟩ := XX.out.ex (show 0 < r0n by have := HBl.out; omega)
      subst hE
      have HBW : Hid (Below w.heap.size w wo) := HAc.out.trans (HB.out.mono (by omega))
      have x0 : wo.cell? ⟨(w.heap.size + 1 + 1), 0, none⟩ = some (.slice (some ⟨be, oe, none⟩) r0n e1) := (HB.out.cell (p := ⟨(w.heap.size + 1 + 1), 0, none⟩) (show (w.heap.size + 1 + 1) < LO by omega)).trans HE0.out
      have x1 : wo.cell? ⟨(w.heap.size + 1 + 1), 1, none⟩ = some (.int .i64 (cn : Int)) := (HB.out.cell (p := ⟨(w.heap.size + 1 + 1), 1, none⟩) (show (w.heap.size + 1 + 1) < LO by omega)).trans HE1.out
      have a1 : wo.cell? ⟨w.heap.size, 1, none⟩ = some (.slice C q d) := (HB.out.cell (p := ⟨w.heap.size, 1, none⟩) (show w.heap.size < LO by omega)).trans HA1.out
      have fe : wo.cell? ⟨be, oe + k, none⟩ = some (.int .i64 b0) := (HBW.out.cell (p := ⟨be, oe + k, none⟩) hbe).trans (hce k (.int .i64 b0) (by rw [List.getElem?_map, hb0]; rfl))
      have k0 : (0 : Int) ≤ (k : Int) := Int.natCast_nonneg _
      have k1 : (k : Int) < (p : Int) := by omega
      have k2 : (k : Int) < (r0n : Int) := by have := HBl.out; omega
      have HXs := Lib.hid hxs0; have HB0 := Lib.hid hb0; have HHx := Lib.hid hhx; have HKK := Lib.hid hkk; have HVals := Lib.hid hvals; have HLen := Lib.hid hlen; have HXL := Lib.hid hxl
      have HC2 := Lib.hid hc2; have HF2 := Lib.hid hf2
      clear hxs0 ha hnb hb0 hin hce hhx hkk hvals hxs hnq hbl hc2 hf2
      by_cases hb : 0 ≤ b0
      · obtain ⟨bn, rfl⟩ : ∃ bn : Nat, b0 = (bn : Nat) := ⟨b0.toNat, by omega⟩
        have hidx := idx_lt (show bn < nb by omega) hcn
        have hj9 := Nat.mul_le_mul (show bn ≤ 3 by omega) hm3
        obtain ⟨jm, hjm⟩ : ∃ jm, bn * q = jm := ⟨_, rfl⟩
        rw [hjm] at hidx hj9
        obtain ⟨i, hi⟩ : ∃ i, jm + cn = i := ⟨_, rfl⟩
        have hix : i < xn := by have := HXL.out; have := HLen.out; omega
        have m1 : IntKind.i64.wrap ((bn : Int) * (q : Int)) = (jm : Int) := by rw [← Int.natCast_mul, hjm]; exact IntWalk.i64_in _ (by omega)
        have m2 : IntKind.i64.wrap ((jm : Int) + (cn : Int)) = (i : Int) := by rw [← Int.natCast_add, hi]; exact IntWalk.i64_in _ (by omega)
        have HIdx : Hid ((bn : Int) * (q : Int) + (cn : Int) = (i : Nat)) := by unfold Hid; rw [← hi, ← hjm]; push_cast; rfl
        obtain ⟨x, hx⟩ : ∃ x, xs0[i]? = some x := ⟨_, List.getElem?_eq_getElem (by rw [HXL.out]; exact hix)⟩
        have hxb := HVals.out x (List.mem_of_getElem? hx)
        have hw2 : IntKind.i64.wrap (x + u) = x + u := IntWalk.i64_in _ (by omega)
        have hc2 := HC2.out i x hx; have hf2 := HF2.out i
        have HNew : Hid (addK q (cn : Int) u bs xss (k + 1) = (addK q (cn : Int) u bs xss k).set k (xs0.set i (x + u))) := addK_do HXs.out HB0.out hb HIdx.out hx
        have i0 : (0 : Int) ≤ (i : Int) := Int.natCast_nonneg _
        have i1 : (i : Int) < (xn : Int) := by omega
        have HXB : Hid (0 ≤ x ∧ x ≤ 999) := hxb
        clear hx hxb hi hjm hidx hj9
        go_upto_region 9 with fail
        go_quiet (fail)
        go_upto_region 10 with fail
        refine wp_region_last (n := 17) (S := fun w' => w'.cell? ⟨BO, 1, none⟩ = some (.slice (some ⟨gb, 0, none⟩) p d1) ∧ w'.cell? ⟨gb, k, none⟩ = some (.slice (some ⟨gr, 0, none⟩) xn xc) ∧ w'.cell? ⟨gr, i, none⟩ = some (.int .i64 x) ∧ w'.frozen? ⟨gr, i, none⟩ = false) (by kernel_rfl) rfl (by kernel_rfl) (⟨oc, hc1, hc2, hf2⟩) ?_
        intro hS; (try dsimp only at hS)
        simp only [List.take_succ_cons, List.take_zero, List.getElem_toArray, List.getElem_cons_succ, List.getElem_cons_zero]
        refine wpAnyH_take (i := 0) (v := ?v32x) rfl (by kernel_rfl) (by kernel_rfl) (by kernel_rfl) (fun _ _ _ h => h) (Or.inl ⟨by rfl, ?hy32x⟩) hS ?rest32x
        case hy32x => (intro w' hSw; (try dsimp only at hSw); go_simp; (try (with_reducible rfl)))
        (try simp only [Act.put, List.setIfInBounds_toArray, List.set_cons_zero, List.set_cons_succ, List.getElem_toArray, List.getElem_cons_succ, List.getElem_cons_zero])
        refine wpAnyH_take (i := 1) (v := ?v33x) rfl (by kernel_rfl) (by kernel_rfl) (by kernel_rfl) (fun _ _ _ h => h) (Or.inl ⟨by rfl, ?hy33x⟩) hS ?rest33x
        case hy33x => (intro w' hSw; (try dsimp only at hSw); go_simp; (try (with_reducible rfl)))
        (try simp only [Act.put, List.setIfInBounds_toArray, List.set_cons_zero, List.set_cons_succ, List.getElem_toArray, List.getElem_cons_succ, List.getElem_cons_zero])
        refine wpAnyH_take (i := 2) (v := ?v34x) rfl (by kernel_rfl) (by kernel_rfl) (by kernel_rfl) (fun _ _ _ h => h) (Or.inl ⟨by rfl, ?hy34x⟩) hS ?rest34x
        case hy34x => (intro w' hSw; (try dsimp only at hSw); go_simp; (try (with_reducible rfl)))
        (try simp only [Act.put, List.setIfInBounds_toArray, List.set_cons_zero, List.set_cons_succ, List.getElem_toArray, List.getElem_cons_succ, List.getElem_cons_zero])
        refine wpAnyH_take (i := 3) (v := ?v35x) rfl (by kernel_rfl) (by kernel_rfl) (by kernel_rfl) (fun _ _ _ h => h) (Or.inl ⟨by rfl, ?hy35x⟩) hS ?rest35x
        case hy35x => (intro w' hSw; (try dsimp only at hSw); go_simp; (try (with_reducible rfl)))
        (try simp only [Act.put, List.setIfInBounds_toArray, List.set_cons_zero, List.set_cons_succ, List.getElem_toArray, List.getElem_cons_succ, List.getElem_cons_zero])
        refine wpAnyH_take (i := 4) (v := ?v36x) rfl (by kernel_rfl) (by kernel_rfl) (by kernel_rfl) (fun _ _ _ h => h) (Or.inl ⟨by rfl, ?hy36x⟩) hS ?rest36x
        case hy36x => (intro w' hSw; (try dsimp only at hSw); go_simp; (try (with_reducible rfl)))
        (try simp only [Act.put, List.setIfInBounds_toArray, List.set_cons_zero, List.set_cons_succ, List.getElem_toArray, List.getElem_cons_succ, List.getElem_cons_zero])
        refine wpAnyH_take (i := 5) (v := ?v37x) rfl (by kernel_rfl) (by kernel_rfl) (by kernel_rfl) (fun _ _ _ h => h) (Or.inl ⟨by rfl, ?hy37x⟩) hS ?rest37x
        case hy37x => (intro w' hSw; (try dsimp only at hSw); go_simp; (try (with_reducible rfl)))
        (try simp only [Act.put, List.setIfInBounds_toArray, List.set_cons_zero, List.set_cons_succ, List.getElem_toArray, List.getElem_cons_succ, List.getElem_cons_zero])
        refine wpAnyH_take (i := 6) (v := ?v38x) rfl (by kernel_rfl) (by kernel_rfl) (by kernel_rfl) (fun _ _ _ h => h) (Or.inl ⟨by rfl, ?hy38x⟩) hS ?rest38x
        case hy38x => (intro w' hSw; (try dsimp only at hSw); go_simp; (try (with_reducible rfl)))
        (try simp only [Act.put, List.setIfInBounds_toArray, List.set_cons_zero, List.set_cons_succ, List.getElem_toArray, List.getElem_cons_succ, List.getElem_cons_zero])
        refine wpAnyH_take (i := 7) (v := ?v39x) rfl (by kernel_rfl) (by kernel_rfl) (by kernel_rfl) (fun _ _ _ h => h) (Or.inl ⟨by rfl, ?hy39x⟩) hS ?rest39x
        case hy39x => (intro w' hSw; (try dsimp only at hSw); go_simp; (try (with_reducible rfl)))
        (try simp only [Act.put, List.setIfInBounds_toArray, List.set_cons_zero, List.set_cons_succ, List.getElem_toArray, List.getElem_cons_succ, List.getElem_cons_zero])
        refine wpAnyH_take (i := 8) (v := ?v40x) rfl (by kernel_rfl) (by kernel_rfl) (by kernel_rfl) (fun _ _ _ h => h) (Or.inl ⟨by rfl, ?hy40x⟩) hS ?rest40x
        case hy40x => (intro w' hSw; (try dsimp only at hSw); go_simp; (try (with_reducible rfl)))
        (try simp only [Act.put, List.setIfInBounds_toArray, List.set_cons_zero, List.set_cons_succ, List.getElem_toArray, List.getElem_cons_succ, List.getElem_cons_zero])
        refine wpAnyH_take (i := 9) (v := ?v41x) rfl (by kernel_rfl) (by kernel_rfl) (by kernel_rfl) (fun _ _ _ h => h) (Or.inl ⟨by rfl, ?hy41x⟩) hS ?rest41x
        case hy41x => (intro w' hSw; (try dsimp only at hSw); go_simp; (try (with_reducible rfl)))
        (try simp only [Act.put, List.setIfInBounds_toArray, List.set_cons_zero, List.set_cons_succ, List.getElem_toArray, List.getElem_cons_succ, List.getElem_cons_zero])
        refine wpAnyH_take (i := 10) (v := ?v42x) rfl (by kernel_rfl) (by kernel_rfl) (by kernel_rfl) (fun _ _ _ h => h) (Or.inl ⟨by rfl, ?hy42x⟩) hS ?rest42x
        case hy42x => (intro w' hSw; (try dsimp only at hSw); go_simp; (try (with_reducible rfl)))
        (try simp only [Act.put, List.setIfInBounds_toArray, List.set_cons_zero, List.set_cons_succ, List.getElem_toArray, List.getElem_cons_succ, List.getElem_cons_zero])
        refine wpAnyH_take (i := 11) (v := ?v43x) rfl (by kernel_rfl) (by kernel_rfl) (by kernel_rfl) (fun _ _ _ h => h) (Or.inl ⟨by rfl, ?hy43x⟩) hS ?rest43x
        case hy43x => (intro w' hSw; (try dsimp only at hSw); go_simp; (try (with_reducible rfl)))
        (try simp only [Act.put, List.setIfInBounds_toArray, List.set_cons_zero, List.set_cons_succ, List.getElem_toArray, List.getElem_cons_succ, List.getElem_cons_zero])
        refine wpAnyH_take (i := 12) (v := ?v44x) rfl (by kernel_rfl) (by kernel_rfl) (by kernel_rfl) (fun _ _ _ h => h) (Or.inl ⟨by rfl, ?hy44x⟩) hS ?rest44x
        case hy44x => (intro w' hSw; (try dsimp only at hSw); go_simp; (try (with_reducible rfl)))
        (try simp only [Act.put, List.setIfInBounds_toArray, List.set_cons_zero, List.set_cons_succ, List.getElem_toArray, List.getElem_cons_succ, List.getElem_cons_zero])
        refine wpAnyH_take (i := 13) (v := ?v45x) rfl (by kernel_rfl) (by kernel_rfl) (by kernel_rfl) (fun _ _ _ h => h) (Or.inl ⟨by rfl, ?hy45x⟩) hS ?rest45x
        case hy45x => (intro w' hSw; (try dsimp only at hSw); go_simp; (try (with_reducible rfl)))
        (try simp only [Act.put, List.setIfInBounds_toArray, List.set_cons_zero, List.set_cons_succ, List.getElem_toArray, List.getElem_cons_succ, List.getElem_cons_zero])
        refine wpAnyH_take (i := 14) (v := ?v46x) rfl (by kernel_rfl) (by kernel_rfl) (by kernel_rfl) (fun _ _ _ h => h) (Or.inl ⟨by rfl, ?hy46x⟩) hS ?rest46x
        case hy46x => (intro w' hSw; (try dsimp only at hSw); go_simp; (try (with_reducible rfl)))
        (try simp only [Act.put, List.setIfInBounds_toArray, List.set_cons_zero, List.set_cons_succ, List.getElem_toArray, List.getElem_cons_succ, List.getElem_cons_zero])
        refine wpAnyH_take (i := 15) (v := ?v47x) rfl (by kernel_rfl) (by kernel_rfl) (by kernel_rfl) (fun _ _ _ h => h) (Or.inl ⟨by rfl, ?hy47x⟩) hS ?rest47x
        case hy47x => (intro w' hSw; (try dsimp only at hSw); go_simp; (try (with_reducible rfl)))
        (try simp only [Act.put, List.setIfInBounds_toArray, List.set_cons_zero, List.set_cons_succ, List.getElem_toArray, List.getElem_cons_succ, List.getElem_cons_zero])
        refine wpAnyH_take (i := 16) (v := ?v48x) rfl (by kernel_rfl) (by kernel_rfl) (by kernel_rfl) (fun _ _ _ h => h) (Or.inl ⟨by rfl, ?hy48x⟩) hS ?rest48x
        case hy48x => (intro w' hSw; (try dsimp only at hSw); go_simp; (try (with_reducible rfl)))
        (try simp only [Act.put, List.setIfInBounds_toArray, List.set_cons_zero, List.set_cons_succ, List.getElem_toArray, List.getElem_cons_succ, List.getElem_cons_zero])
        refine wpAnyH_done (by kernel_rfl) ?_ _
        refine fun K hK => ?_
        go_simp
        refine hK.out _ _ ?_
        clear hK K
        have HP9 := Lib.hid ((HS.out.same (w' := wo.drewN (nq + 1)) (same_below (show Below wo.heap.size wo (wo.drewN (nq + 1)) from (by repeat (first | exact Below.refl _ _ | apply below_drewN | apply Below.drew))) (by have := HS.out.bx.lt; omega))).setX (i := i) (v := x + u) HHx.out HKK.out)
        have HB9 := Lib.hid (HBel.out.trans (((show Below LO wo (wo.drewN (nq + 1)) from (by repeat (first | exact Below.refl _ _ | apply below_drewN | apply Below.drew)))).trans HP9.out.2))
        go_wp2_with fail
        go_roundw
        case rel => exact ⟨k + 1, by omega, by go_num, by rw [HNew.out]; exact HP9.out.1, HB9.out⟩
        case measure => simp [intOf]; omega
      · have hb' : b0 < 0 := by omega
        have HNew : Hid (addK q (cn : Int) u bs xss (k + 1) = addK q (cn : Int) u bs xss k) := addK_skip HXs.out HB0.out hb'
        go_wp2_with fail
        go_roundw
        case rel => exact ⟨k + 1, by omega, by go_num, by rw [HNew.out]; exact HS.out, HBel.out⟩
        case measure => simp [intOf]; omega
    · obtain rfl : p = k := by omega
      have r0 : wo.cell? ⟨(w.heap.size + 1 + 1 + 1), 0, none⟩ = some (.slice none 0 0) := (HB.out.cell (p := ⟨(w.heap.size + 1 + 1 + 1), 0, none⟩) (show (w.heap.size + 1 + 1 + 1) < LO by omega)).trans HR0.out
      have r1 : wo.cell? ⟨(w.heap.size + 1 + 1 + 1), 1, none⟩ = some (.slice none 0 0) := (HB.out.cell (p := ⟨(w.heap.size + 1 + 1 + 1), 1, none⟩) (show (w.heap.size + 1 + 1 + 1) < LO by omega)).trans HR1.out
      have fr0 : wo.frozen? ⟨(w.heap.size + 1 + 1 + 1), 0, none⟩ = false := (HB.out.frozen (p := ⟨(w.heap.size + 1 + 1 + 1), 0, none⟩) (show (w.heap.size + 1 + 1 + 1) < LO by omega)).trans HF0.out
      have fr1 : wo.frozen? ⟨(w.heap.size + 1 + 1 + 1), 1, none⟩ = false := (HB.out.frozen (p := ⟨(w.heap.size + 1 + 1 + 1), 1, none⟩) (show (w.heap.size + 1 + 1 + 1) < LO by omega)).trans HF1.out
      have hhi : BO < wo.heap.size := HS.out.bx.lt
      have hfin : ∀ w9, w9 = (wo.setCell ⟨(w.heap.size + 1 + 1 + 1), 0, none⟩ (.slice (some ⟨ga, 0, none⟩) q c1)).setCell ⟨(w.heap.size + 1 + 1 + 1), 1, none⟩ (.slice C1 p d1) → OwSta w.heap.size w9.heap.size w9 (some ⟨ga, 0, none⟩) C1 q c1 p d1 mid g1 (addT ats cs ts xss bs (cn : Int) u) (addX ats cs ts xss bs (cn : Int) u) ∧ Below w.heap.size w w9 := by
        intro w9 h9
        subst h9
        rw [HTT.out, HXX.out]
        have h1 := (HS.out.ow.same (same_set (b := (w.heap.size + 1 + 1 + 1)) (off := 0) (u := .slice (some ⟨ga, 0, none⟩) q c1) (by omega))).same (same_set (b := (w.heap.size + 1 + 1 + 1)) (off := 1) (u := .slice C1 p d1) (by omega))
        refine ⟨⟨h1.tot.wide (by omega) (Nat.le_refl _), h1.cel.wide (Nat.le_refl _) (by simp only [World.size_setCell]; omega), ⟨by have := h1.le; omega, by have := h1.le; simp only [World.size_setCell]; omega⟩⟩, ?_⟩
        have hB := (HAc.out.trans (HB.out.mono (show w.heap.size ≤ LO by omega)))
        go_grown
      have HFin := Lib.hid hfin
      clear hfin
      go_wp2_with ((with_reducible refine bodyPost_ret (v := .tuple #[.agg #[.slice (some ⟨ga, 0, none⟩) q c1, .slice C1 p d1], .bool true]) ?k1 ?k2 ?k3); (case k1 => (simp [results, Try.results12, go_sem, r0, r1, fr0, fr1])); (case k2 => rfl); (case k3 => (exact ⟨(some ⟨ga, 0, none⟩), c1, C1, d1, mid, g1, by rw [HV.out], (HFin.out _ rfl).1, (HFin.out _ rfl).2⟩)))

end Go.Proofs.Ytchkmcikpamdeaa
