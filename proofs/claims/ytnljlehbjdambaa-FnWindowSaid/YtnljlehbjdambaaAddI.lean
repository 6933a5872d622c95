/-
  WindowAdd of impl.
-/
import Derived.Test.YtnljlehbjdambaaDropI
import Derived.Test.YtnljlehbjdambaaAddW
import Derived.Test.YtnljlehbjdambaaLast
import Derived.Deep.RegionHeld3
import Derived.Deep.RegionLaw
import Derived.Deep.DeepCutAuto
import Derived.BigQuiet
namespace Go.Proofs.Ytnljlehbjdambaa
open Go.RowKit
set_option linter.unusedSimpArgs false
set_option linter.unusedVariables false

set_option maxRecDepth 20000 in
set_option maxHeartbeats 8000000 in
theorem iWindowAdd_any (A : Option Addr) (n c : Nat) (hs : List Hd) (xss : List (List Int)) (bit : Int) (w : World) (h : RdSS w A n hs (iss xss)) (hb : totI xss ≤ 1048576) (hn : n ≤ 1048576) (hwf : ∀ xs ∈ xss, ∀ x ∈ xs, -9223372036854775808 ≤ x ∧ x ≤ 9223372036854775807) :
    Calls Try.prog 28 #[.agg #[.slice A n c], .int .i64 bit] w fun e w' => ∃ A' n' c' hs', e = .returned (.tuple #[.agg #[.slice A' n' c'], .bool (addB xss bit)]) ∧ OwSS w.heap.size w'.heap.size w' A' n' c' hs' (iss (addR xss bit)) ∧ Below w.heap.size w w' := by
  have H := Lib.hid h
  have HWf := Lib.hid hwf
  have HXL : Hid (xss.length = n) := by have := h.len; rwa [iss_len] at this
  obtain ⟨i0, hi0, hz0, hz1, hz2⟩ := info_parts info_IntSS
  have HJ := Lib.hid hi0; have HJ0 := Lib.hid hz0; have HJ1 := Lib.hid hz1; have HJ2 := Lib.hid hz2
  clear hi0 hz0 hz1 hz2
  obtain ⟨i1, hi0, hz0, hz1, hz2⟩ := info_parts info_IntS
  have HI := Lib.hid hi0; have HI0 := Lib.hid hz0; have HI1 := Lib.hid hz1; have HI2 := Lib.hid hz2
  clear hi0 hz0 hz1 hz2 h hwf
  cases hw : winB xss
  · have HWin := Lib.hid hw
    have HDB : Hid (addB xss bit = false) := by unfold Hid addB; rw [hw]; rfl
    have HDR : Hid (addR xss bit = xss) := by unfold Hid addR; rw [HDB.out]; rfl
    clear hw
    have B0 := Below.refl w.heap.size w
    have s0 : w.heap.size ≤ w.heap.size := Nat.le_refl _
    go_enter Try.func28, Try.ntmps28
    have p_2 : Bx (w.alloc (.cells #[.slice A n c] 26)) (w.heap.size) 26 #[.slice A n c] := Bx.new _ _ _
    have B_2 := B0.alloc s0 (.cells #[.slice A n c] 26)
    clear B0
    have cp_3 := p_2.cells
    have fp_3 := p_2.free
    clear cp_3 fp_3
    have p_4 := p_2.same (same_alloc (.cells #[.slice none 0 0] 26) (by simp only [World.size_alloc]; omega))
    clear p_2
    have r_5 : Bx ((w.alloc (.cells #[.slice A n c] 26)).alloc (.cells #[.slice none 0 0] 26)) (w.heap.size + 1) 26 #[.slice none 0 0] := by
      have h := Bx.new (w.alloc (.cells #[.slice A n c] 26)) 26 #[.slice none 0 0]
      simpa only [World.size_alloc] using h
    have B_5 := B_2.alloc (by simp only [World.size_alloc]; omega) (.cells #[.slice none 0 0] 26)
    clear B_2
    have cp_6 := p_4.cells
    have fp_6 := p_4.free
    have cr_7 := r_5.cells
    have fr_7 := r_5.free
    go_wp2_with fail
    refine (iCloneWindow_any A n c hs xss _ (H.out.below B_5 (Nat.le_refl _)) hb hn).mono ?_
    rintro e w1 ⟨A1, c1, g1, rfl, o, b⟩
    clear cp_6 fp_6
    clear cr_7 fr_7
    simp only [World.size_alloc] at b o
    have t_8 := b.size
    simp only [World.size_alloc] at t_8
    have z_8 : w.heap.size ≤ w1.heap.size := by omega
    have p_9 := p_4.same (same_below b (by omega))
    clear p_4
    have r_9 := r_5.same (same_below b (by omega))
    clear r_5
    have B_8 := B_5.trans (b.mono (by omega))
    clear B_5 b
    have x_8 := o
    clear o
    have cp_10 := p_9.cells
    have fp_10 := p_9.free
    have cr_11 := r_9.cells
    have fr_11 := r_9.free
    clear cp_10 fp_10
    clear cr_11 fr_11
    have p_12 := p_9.same (same_alloc (.cells #[.slice A1 n c1] 26) (by omega))
    clear p_9
    have r_12 := r_9.same (same_alloc (.cells #[.slice A1 n c1] 26) (by omega))
    clear r_9
    have x_12 := x_8.same (same_alloc (.cells #[.slice A1 n c1] 26) (by omega))
    clear x_8
    have out_13 : Bx (w1.alloc (.cells #[.slice A1 n c1] 26)) (w1.heap.size) 26 #[.slice A1 n c1] := Bx.new _ _ _
    have B_13 := B_8.alloc z_8 (.cells #[.slice A1 n c1] 26)
    clear B_8
    have cp_14 := p_12.cells
    have fp_14 := p_12.free
    have cr_15 := r_12.cells
    have fr_15 := r_12.free
    have cout_16 := out_13.cells
    have fout_16 := out_13.free
    go_wp2_with fail
    refine (iWindowOk_any A n c hs xss _ (H.out.below B_13 (Nat.le_refl _)) hb hn HWf.out).mono ?_
    rw [HWin.out]
    rintro e w2 ⟨rfl, b⟩
    clear cp_14 fp_14
    clear cr_15 fr_15
    clear cout_16 fout_16
    simp only [World.size_alloc] at b
    have t_17 := b.size
    simp only [World.size_alloc] at t_17
    have z_17 : w.heap.size ≤ w2.heap.size := by omega
    have p_18 := p_12.same (same_below b (by omega))
    clear p_12
    have r_18 := r_12.same (same_below b (by omega))
    clear r_12
    have x_18 := x_12.same (same_below b (by omega))
    clear x_12
    have out_18 := out_13.same (same_below b (by omega))
    clear out_13
    have B_17 := B_13.trans (b.mono (by omega))
    clear B_13 b
    have cp_19 := p_18.cells
    have fp_19 := p_18.free
    have cr_20 := r_18.cells
    have fr_20 := r_18.free
    have cout_21 := out_18.cells
    have fout_21 := out_18.free
    have hfin : ∀ w9, w9 = w2.setCell ⟨w.heap.size + 1, 0, none⟩ (.slice A1 n c1) → OwSS w.heap.size w9.heap.size w9 A1 n c1 g1 (iss (addR xss bit)) ∧ Below w.heap.size w w9 := by
      intro w9 h9
      subst h9
      rw [HDR.out, setc_size]
      exact ⟨(x_18.same (same_setc (by omega))).wide (by omega) (by omega), Below.setCell (p := ⟨w.heap.size + 1, 0, none⟩) B_17 (by show w.heap.size ≤ w.heap.size + 1; omega) _⟩
    have HFin := Lib.hid hfin
    clear hfin
    have r0 := r_18.cells 0; have fr0 := r_18.free 0
    simp at r0
    go_wp2_with ((with_reducible refine bodyPost_ret (v := .tuple #[.agg #[.slice A1 n c1], .bool false]) ?k1 ?k2 ?k3); (case k1 => (simp [results, Try.results28, go_sem, r0, fr0])); (case k2 => rfl); (case k3 => (exact ⟨A1, n, c1, g1, by rw [HDB.out], (HFin.out _ rfl).1, (HFin.out _ rfl).2⟩)))
  · have HWin := Lib.hid hw
    cases hbit : inB bit 0 1
    · have HBit := Lib.hid hbit
      have HDB : Hid (addB xss bit = false) := by unfold Hid addB; rw [hw, hbit]; rfl
      have HDR : Hid (addR xss bit = xss) := by unfold Hid addR; rw [HDB.out]; rfl
      clear hw hbit
      have B0 := Below.refl w.heap.size w
      have s0 : w.heap.size ≤ w.heap.size := Nat.le_refl _
      go_enter Try.func28, Try.ntmps28
      have p_2 : Bx (w.alloc (.cells #[.slice A n c] 26)) (w.heap.size) 26 #[.slice A n c] := Bx.new _ _ _
      have B_2 := B0.alloc s0 (.cells #[.slice A n c] 26)
      clear B0
      have cp_3 := p_2.cells
      have fp_3 := p_2.free
      clear cp_3 fp_3
      have p_4 := p_2.same (same_alloc (.cells #[.slice none 0 0] 26) (by simp only [World.size_alloc]; omega))
      clear p_2
      have r_5 : Bx ((w.alloc (.cells #[.slice A n c] 26)).alloc (.cells #[.slice none 0 0] 26)) (w.heap.size + 1) 26 #[.slice none 0 0] := by
        have h := Bx.new (w.alloc (.cells #[.slice A n c] 26)) 26 #[.slice none 0 0]
        simpa only [World.size_alloc] using h
      have B_5 := B_2.alloc (by simp only [World.size_alloc]; omega) (.cells #[.slice none 0 0] 26)
      clear B_2
      have cp_6 := p_4.cells
      have fp_6 := p_4.free
      have cr_7 := r_5.cells
      have fr_7 := r_5.free
      go_wp2_with fail
      refine (iCloneWindow_any A n c hs xss _ (H.out.below B_5 (Nat.le_refl _)) hb hn).mono ?_
      rintro e w1 ⟨A1, c1, g1, rfl, o, b⟩
      clear cp_6 fp_6
      clear cr_7 fr_7
      simp only [World.size_alloc] at b o
      have t_8 := b.size
      simp only [World.size_alloc] at t_8
      have z_8 : w.heap.size ≤ w1.heap.size := by omega
      have p_9 := p_4.same (same_below b (by omega))
      clear p_4
      have r_9 := r_5.same (same_below b (by omega))
      clear r_5
      have B_8 := B_5.trans (b.mono (by omega))
      clear B_5 b
      have x_8 := o
      clear o
      have cp_10 := p_9.cells
      have fp_10 := p_9.free
      have cr_11 := r_9.cells
      have fr_11 := r_9.free
      clear cp_10 fp_10
      clear cr_11 fr_11
      have p_12 := p_9.same (same_alloc (.cells #[.slice A1 n c1] 26) (by omega))
      clear p_9
      have r_12 := r_9.same (same_alloc (.cells #[.slice A1 n c1] 26) (by omega))
      clear r_9
      have x_12 := x_8.same (same_alloc (.cells #[.slice A1 n c1] 26) (by omega))
      clear x_8
      have out_13 : Bx (w1.alloc (.cells #[.slice A1 n c1] 26)) (w1.heap.size) 26 #[.slice A1 n c1] := Bx.new _ _ _
      have B_13 := B_8.alloc z_8 (.cells #[.slice A1 n c1] 26)
      clear B_8
      have cp_14 := p_12.cells
      have fp_14 := p_12.free
      have cr_15 := r_12.cells
      have fr_15 := r_12.free
      have cout_16 := out_13.cells
      have fout_16 := out_13.free
      go_wp2_with fail
      refine (iWindowOk_any A n c hs xss _ (H.out.below B_13 (Nat.le_refl _)) hb hn HWf.out).mono ?_
      rw [HWin.out]
      rintro e w2 ⟨rfl, b⟩
      clear cp_14 fp_14
      clear cr_15 fr_15
      clear cout_16 fout_16
      simp only [World.size_alloc] at b
      have t_17 := b.size
      simp only [World.size_alloc] at t_17
      have z_17 : w.heap.size ≤ w2.heap.size := by omega
      have p_18 := p_12.same (same_below b (by omega))
      clear p_12
      have r_18 := r_12.same (same_below b (by omega))
      clear r_12
      have x_18 := x_12.same (same_below b (by omega))
      clear x_12
      have out_18 := out_13.same (same_below b (by omega))
      clear out_13
      have B_17 := B_13.trans (b.mono (by omega))
      clear B_13 b
      have cp_19 := p_18.cells
      have fp_19 := p_18.free
      have cr_20 := r_18.cells
      have fr_20 := r_18.free
      have cout_21 := out_18.cells
      have fout_21 := out_18.free
      go_wp2_with fail
      refine (within_any bit 0 1 _).mono ?_
      rw [HBit.out]
      rintro e w3 ⟨rfl, rfl⟩
      have hfin : ∀ w9, w9 = w2.setCell ⟨w.heap.size + 1, 0, none⟩ (.slice A1 n c1) → OwSS w.heap.size w9.heap.size w9 A1 n c1 g1 (iss (addR xss bit)) ∧ Below w.heap.size w w9 := by
        intro w9 h9
        subst h9
        rw [HDR.out, setc_size]
        exact ⟨(x_18.same (same_setc (by omega))).wide (by omega) (by omega), Below.setCell (p := ⟨w.heap.size + 1, 0, none⟩) B_17 (by show w.heap.size ≤ w.heap.size + 1; omega) _⟩
      have HFin := Lib.hid hfin
      clear hfin
      have r0 := r_18.cells 0; have fr0 := r_18.free 0
      simp at r0
      go_wp2_with ((with_reducible refine bodyPost_ret (v := .tuple #[.agg #[.slice A1 n c1], .bool false]) ?k1 ?k2 ?k3); (case k1 => (simp [results, Try.results28, go_sem, r0, fr0])); (case k2 => rfl); (case k3 => (exact ⟨A1, n, c1, g1, by rw [HDB.out], (HFin.out _ rfl).1, (HFin.out _ rfl).2⟩)))
    · have HBit := Lib.hid hbit
      have HDB : Hid (addB xss bit = true) := by unfold Hid addB; rw [hw, hbit]; rfl
      obtain ⟨hbit0, hbit1⟩ := inB_iff.1 hbit
      clear hw hbit
      have B0 := Below.refl w.heap.size w
      have s0 : w.heap.size ≤ w.heap.size := Nat.le_refl _
      go_enter Try.func28, Try.ntmps28
      have p_2 : Bx (w.alloc (.cells #[.slice A n c] 26)) (w.heap.size) 26 #[.slice A n c] := Bx.new _ _ _
      have B_2 := B0.alloc s0 (.cells #[.slice A n c] 26)
      clear B0
      have cp_3 := p_2.cells
      have fp_3 := p_2.free
      clear cp_3 fp_3
      have p_4 := p_2.same (same_alloc (.cells #[.slice none 0 0] 26) (by simp only [World.size_alloc]; omega))
      clear p_2
      have r_5 : Bx ((w.alloc (.cells #[.slice A n c] 26)).alloc (.cells #[.slice none 0 0] 26)) (w.heap.size + 1) 26 #[.slice none 0 0] := by
        have h := Bx.new (w.alloc (.cells #[.slice A n c] 26)) 26 #[.slice none 0 0]
        simpa only [World.size_alloc] using h
      have B_5 := B_2.alloc (by simp only [World.size_alloc]; omega) (.cells #[.slice none 0 0] 26)
      clear B_2
      have cp_6 := p_4.cells
      have fp_6 := p_4.free
      have cr_7 := r_5.cells
      have fr_7 := r_5.free
      go_wp2_with fail
      refine (iCloneWindow_any A n c hs xss _ (H.out.below B_5 (Nat.le_refl _)) hb hn).mono ?_
      rintro e w1 ⟨A1, c1, g1, rfl, o, b⟩
      clear cp_6 fp_6
      clear cr_7 fr_7
      simp only [World.size_alloc] at b o
      have t_8 := b.size
      simp only [World.size_alloc] at t_8
      have z_8 : w.heap.size ≤ w1.heap.size := by omega
      have p_9 := p_4.same (same_below b (by omega))
      clear p_4
      have r_9 := r_5.same (same_below b (by omega))
      clear r_5
      have B_8 := B_5.trans (b.mono (by omega))
      clear B_5 b
      have x_8 := o
      clear o
      have cp_10 := p_9.cells
      have fp_10 := p_9.free
      have cr_11 := r_9.cells
      have fr_11 := r_9.free
      clear cp_10 fp_10
      clear cr_11 fr_11
      have p_12 := p_9.same (same_alloc (.cells #[.slice A1 n c1] 26) (by omega))
      clear p_9
      have r_12 := r_9.same (same_alloc (.cells #[.slice A1 n c1] 26) (by omega))
      clear r_9
      have x_12 := x_8.same (same_alloc (.cells #[.slice A1 n c1] 26) (by omega))
      clear x_8
      have out_13 : Bx (w1.alloc (.cells #[.slice A1 n c1] 26)) (w1.heap.size) 26 #[.slice A1 n c1] := Bx.new _ _ _
      have B_13 := B_8.alloc z_8 (.cells #[.slice A1 n c1] 26)
      clear B_8
      have cp_14 := p_12.cells
      have fp_14 := p_12.free
      have cr_15 := r_12.cells
      have fr_15 := r_12.free
      have cout_16 := out_13.cells
      have fout_16 := out_13.free
      go_wp2_with fail
      refine (iWindowOk_any A n c hs xss _ (H.out.below B_13 (Nat.le_refl _)) hb hn HWf.out).mono ?_
      rw [HWin.out]
      rintro e w2 ⟨rfl, b⟩
      clear cp_14 fp_14
      clear cr_15 fr_15
      clear cout_16 fout_16
      simp only [World.size_alloc] at b
      have t_17 := b.size
      simp only [World.size_alloc] at t_17
      have z_17 : w.heap.size ≤ w2.heap.size := by omega
      have p_18 := p_12.same (same_below b (by omega))
      clear p_12
      have r_18 := r_12.same (same_below b (by omega))
      clear r_12
      have x_18 := x_12.same (same_below b (by omega))
      clear x_12
      have out_18 := out_13.same (same_below b (by omega))
      clear out_13
      have B_17 := B_13.trans (b.mono (by omega))
      clear B_13 b
      have cp_19 := p_18.cells
      have fp_19 := p_18.free
      have cr_20 := r_18.cells
      have fr_20 := r_18.free
      have cout_21 := out_18.cells
      have fout_21 := out_18.free
      go_wp2_with fail
      refine (within_any bit 0 1 _).mono ?_
      rw [HBit.out]
      rintro e w3 ⟨rfl, rfl⟩
      have HAc := Lib.hid B_17; have HR0 : Hid (w2.cell? ⟨w.heap.size + 1, 0, none⟩ = some (.slice none 0 0)) := r_18.cells 0; have HR1 : Hid (w2.frozen? ⟨w.heap.size + 1, 0, none⟩ = false) := r_18.free 0
      have lo_ := out_18.lt
      obtain ⟨XLO, hXLO⟩ : ∃ XLO, XLO = w.heap.size + 1 + 1 := ⟨_, rfl⟩
      obtain ⟨BO, hBO⟩ : ∃ BO, BO = w1.heap.size := ⟨_, rfl⟩
      have hw0 : Win XLO BO w2 A1 n c1 g1 xss := by rw [hXLO, hBO]; exact Win.start x_18 (by omega) (by omega) out_18
      rw [← hBO]
      have hXl : w.heap.size + 1 < XLO := by omega
      have hXB : XLO ≤ BO := by omega
      have hXV : XLO ≤ w2.heap.size := by omega
      have HW0 := Lib.hid hw0
      clear hw0 hXLO hBO B_17 p_18 r_18 x_18 out_18 cp_19 fp_19 cr_20 fr_20 cout_21 fout_21
      have hbl := HW0.out.bx.lt
      have o0 := HW0.out.bcell
      have hm0 : moreR xss 0 = if 0 = xss.length then xss ++ [[]] else xss := rfl
      have HM0 := Lib.hid hm0
      have HYL := Lib.hid HW0.out.len
      clear hm0
      go_upto_if 22 with fail
      go_cut [] (fun wx => ∃ (A2 : Option Addr) (n2 c2 : Nat) (g2 : List Hd), Win XLO BO wx A2 n2 c2 g2 (moreR xss 0) ∧ Below XLO w2 wx)
      case first =>
        by_cases hq : n = 0
        · have hqb : ((n : Int) == 0) = true := by simp [hq]
          have hqd : decide ((n : Int) = 0) = true := by simp [hq]
          have HQ := Lib.hid hq; clear hq
          go_wp2_with (at_builtin; refine wpList_append_lies _ rfl _ _ 24 rfl XLO 54 i0 _ 1 24 Try.underlying24 HJ.out HJ0.out HJ1.out HJ2.out rfl (by decide) (.slice A1 n c1) n (g1.map hdV) rfl (HW0.out.ow.hd.own.alloc _) ⟨w2.heap.size, 0, none⟩ 1 1 [.slice none 0 0] rfl rfl (cell_one_new _ _ _) ?c2 (by omega) ?c3 ?c4 ?c5 _ rfl ?_)
          case c2 => intro u hu; simp at hu; subst hu; rfl
          case c3 => unfold maxLen; omega
          case c4 => omega
          case c5 => simp only [World.size_alloc]; omega
          intro g7 cap7 u6 hown7 hgrow7 hat7 hlt7
          have hf6 : u6.frozen? ⟨BO, 0, none⟩ = false := (frozen_grown (grown_alloc _ _ |>.trans hgrow7) hbl (fun e => HW0.out.offA e.symm)).trans (HW0.out.bx.free 0)
          have hc6 : u6.cell? ⟨BO, 0, none⟩ = some (.slice A1 n c1) := (cell_grown (grown_alloc _ _ |>.trans hgrow7) hbl (fun e => HW0.out.offA e.symm)).trans HW0.out.bcell
          have HP9 := Lib.hid (HW0.out.more_nil (by omega) (by omega) hown7 hgrow7 (hat7.imp id (fun e => e.trans (by simp only [World.size_alloc]))))
          have HP8 : Hid (moreR xss 0 = xss ++ [[]]) := by unfold Hid; rw [HM0.out, if_pos (by rw [HYL.out]; exact HQ.out.symm)]
          clear hown7 hgrow7 hat7
          go_wp2_with fail
          go_meet
          exact ⟨_, _, _, _, by rw [HP8.out]; exact HP9.out.1, HP9.out.2⟩
        · have hqb : ((n : Int) == 0) = false := beq_false_of_ne (by omega)
          have hqd : decide ((n : Int) = 0) = false := decide_eq_false (by omega)
          have HQ := Lib.hid hq; clear hq
          have HP8 : Hid (moreR xss 0 = xss) := by unfold Hid; rw [HM0.out, if_neg (by rw [HYL.out]; exact fun e => HQ.out e.symm)]
          go_wp2_with fail
          go_meet
          exact ⟨A1, n, c1, g1, by rw [HP8.out]; exact HW0.out, Below.refl _ _⟩
      obtain ⟨A2, n2, c2, g2, hwu1, hbu1⟩ := hcut
      obtain ⟨u1, rfl⟩ : ∃ u1 : World, u1 = wc := ⟨_, rfl⟩
      have HWu1 := Lib.hid hwu1; have HBu1 := Lib.hid hbu1
      have hzu1 := hbu1.size
      clear hwu1 hbu1 o0 hbl HM0 HYL
      have hn2 : 0 < n2 := by have := HWu1.out.len; have := moreR_lt (xss := xss) (r := 0) (Nat.zero_le _); omega
      have hq0 := quasi_start HWin.out hbit0 hbit1
      have hl8 := hq0.1; have hl3 := ((hq0.2.2 0 _ (getD_of hq0.2.1)).1)
      have hn8 : n2 ≤ 8 := by have := HWu1.out.len; have := pushR_len (moreR xss 0) 0 bit; omega
      have hrl : ((moreR xss 0).getD 0 []).length ≤ 3 := (more_row (Nat.zero_le _) (fun k xs hk _ => ⟨(rowB_len (winB_row HWin.out hk)).2, fun x hx => rowB_elem (winB_row HWin.out hk) hx⟩)).1
      have HQ0 := Lib.hid hq0
      clear hq0 hl8 hl3
      obtain ⟨ga, xa, xn, xc, hAA, hx, hcell, hfrz, hrow, hlen, hgl, hgb, hlg, hnc, hcm⟩ := HWu1.out.get (q := 0) (by omega)
      (first | subst hAA | (simp only [Option.some.injEq, Addr.mk.injEq, and_true, true_and] at hAA; subst hAA))
      have o0 := HWu1.out.bcell
      have hbl := HWu1.out.bx.lt
      have hxg : some ga ≠ (Value.slice xa xn xc).ownBlock := fun e => HWu1.out.ow.off 0 _ ga hx rfl e.symm
      have hxb : some BO ≠ (Value.slice xa xn xc).ownBlock := fun e => HWu1.out.offR 0 _ hx e.symm
      have HKe : Hid (∀ w' : World, u1.grownBy w' (Value.slice xa xn xc).ownBlock → w'.cell? ⟨BO, 0, none⟩ = some (.slice (some ⟨ga, 0, none⟩) n2 c2) ∧ w'.cell? ⟨ga, 0, none⟩ = some (.slice xa xn xc) ∧ w'.frozen? ⟨ga, 0, none⟩ = false) := fun w' hg => ⟨(cell_grown hg hbl hxb).trans o0, (cell_grown hg hgl hxg).trans hcell, (frozen_grown hg hgl hxg).trans hfrz⟩
      have HX := Lib.hid hx; have HRow := Lib.hid hrow; have HLen := Lib.hid hlen
      have hxn3 : xn ≤ 3 := by omega
      clear hx hrow hlen hxg hxb hcell hfrz o0
      go_upto_region 6 with fail
      go_cut [] (fun wx => ∃ (g7 cap7 xn : Nat), Win XLO BO wx (some ⟨ga, 0, none⟩) n2 c2 (g2.set 0 (some ⟨g7, 0, none⟩, xn + 1, cap7)) (pushR (moreR xss 0) 0 bit) ∧ Below XLO u1 wx)
      case first =>
        refine wp_region_last (n := 10) (S := fun w' => w'.cell? ⟨BO, 0, none⟩ = some (.slice (some ⟨ga, 0, none⟩) n2 c2) ∧ w'.cell? ⟨ga, 0, none⟩ = some (.slice xa xn xc) ∧ w'.frozen? ⟨ga, 0, none⟩ = false) (by kernel_rfl) rfl (by kernel_rfl) (HKe.out _ (grown_drew _)) ?_
        intro hS; (try dsimp only at hS)
        simp only [List.take_succ_cons, List.take_zero, List.getElem_toArray, List.getElem_cons_succ, List.getElem_cons_zero]
        refine wpAnyH_take (i := 0) (v := ?v1x) rfl (by kernel_rfl) (by kernel_rfl) (by kernel_rfl) (fun _ _ _ h => h) (Or.inl ⟨by rfl, ?hy1x⟩) hS ?rest1x
        case hy1x => (intro w' hSw; (try dsimp only at hSw); go_simp; (try (with_reducible rfl)))
        (try simp only [Act.put, List.setIfInBounds_toArray, List.set_cons_zero, List.set_cons_succ, List.getElem_toArray, List.getElem_cons_succ, List.getElem_cons_zero])
        refine wpAnyH_take (i := 1) (v := ?v2x) rfl (by kernel_rfl) (by kernel_rfl) (by kernel_rfl) (fun _ _ _ h => h) (Or.inl ⟨by rfl, ?hy2x⟩) hS ?rest2x
        case hy2x => (intro w' hSw; (try dsimp only at hSw); go_simp; (try (with_reducible rfl)))
        (try simp only [Act.put, List.setIfInBounds_toArray, List.set_cons_zero, List.set_cons_succ, List.getElem_toArray, List.getElem_cons_succ, List.getElem_cons_zero])
        refine wpAnyH_take (i := 2) (v := ?v3x) rfl (by kernel_rfl) (by kernel_rfl) (by kernel_rfl) (fun _ _ _ h => h) (Or.inl ⟨by rfl, ?hy3x⟩) hS ?rest3x
        case hy3x => (intro w' hSw; (try dsimp only at hSw); go_simp; (try (with_reducible rfl)))
        (try simp only [Act.put, List.setIfInBounds_toArray, List.set_cons_zero, List.set_cons_succ, List.getElem_toArray, List.getElem_cons_succ, List.getElem_cons_zero])
        refine wpAnyH_take (i := 3) (v := ?v4x) rfl (by kernel_rfl) (by kernel_rfl) (by kernel_rfl) (fun _ _ _ h => h) (Or.inl ⟨by rfl, ?hy4x⟩) hS ?rest4x
        case hy4x => (intro w' hSw; (try dsimp only at hSw); go_simp; (try (with_reducible rfl)))
        (try simp only [Act.put, List.setIfInBounds_toArray, List.set_cons_zero, List.set_cons_succ, List.getElem_toArray, List.getElem_cons_succ, List.getElem_cons_zero])
        refine wpAnyH_take (i := 4) (v := ?v5x) rfl (by kernel_rfl) (by kernel_rfl) (by kernel_rfl) (fun _ _ _ h => h) (Or.inl ⟨by rfl, ?hy5x⟩) hS ?rest5x
        case hy5x => (intro w' hSw; (try dsimp only at hSw); go_simp; (try (with_reducible rfl)))
        (try simp only [Act.put, List.setIfInBounds_toArray, List.set_cons_zero, List.set_cons_succ, List.getElem_toArray, List.getElem_cons_succ, List.getElem_cons_zero])
        refine wpAnyH_take (i := 5) (v := ?v6x) rfl (by kernel_rfl) (by kernel_rfl) (by kernel_rfl) (fun _ _ _ h => h) (Or.inl ⟨by rfl, ?hy6x⟩) hS ?rest6x
        case hy6x => (intro w' hSw; (try dsimp only at hSw); go_simp; (try (with_reducible rfl)))
        (try simp only [Act.put, List.setIfInBounds_toArray, List.set_cons_zero, List.set_cons_succ, List.getElem_toArray, List.getElem_cons_succ, List.getElem_cons_zero])
        refine wpAnyH_take (i := 6) (v := ?v7x) rfl (by kernel_rfl) (by kernel_rfl) (by kernel_rfl) (fun _ _ _ h => h) (Or.inl ⟨by rfl, ?hy7x⟩) hS ?rest7x
        case hy7x => (intro w' hSw; (try dsimp only at hSw); go_simp; (try (with_reducible rfl)))
        (try simp only [Act.put, List.setIfInBounds_toArray, List.set_cons_zero, List.set_cons_succ, List.getElem_toArray, List.getElem_cons_succ, List.getElem_cons_zero])
        refine wpAnyH_ready (rs := [7]) (by kernel_rfl) (by simp) ?_
        refine AllReadyH.cons rfl (fun K hK => ?_) AllReadyH.nil
        (try dsimp only [List.getElem_toArray, List.getElem_cons_succ, List.getElem_cons_zero])
        go_simp
        refine hK.out _ _ (HKe.out _ ((grown_drew _).trans (grown_alloc _ _))) (fun hS9 => ?_)
        clear hK K hS; have hS := hS9; clear hS9; (try dsimp only at hS)
        (try simp only [Act.put, List.setIfInBounds_toArray, List.set_cons_zero, List.set_cons_succ, List.getElem_toArray, List.getElem_cons_succ, List.getElem_cons_zero])
        refine wpAnyH_ready (rs := [8]) (by kernel_rfl) (by simp) ?_
        refine AllReadyH.cons rfl (fun K hK => ?_) AllReadyH.nil
        (try dsimp only [List.getElem_toArray, List.getElem_cons_succ, List.getElem_cons_zero])
        (rw [if_pos (by rfl)]; refine wp_append_lies _ _ _ _ (by rfl) XLO 3 i1 _ 1 8 Try.underlying54 HI.out HI0.out HI1.out HI2.out rfl (by omega) _ xn (((moreR xss 0).getD 0 []).map (Value.int .i64)) (by rfl) ((HRow.out.alloc _).drew) ⟨u1.heap.size, 0, none⟩ 1 1 [.int .i64 bit] (by rfl) (by rfl) (World.news_of_block (cs := #[.int .i64 bit]) (t := 3) (fr := (0, 0)) (heap_alloc_new u1 _)) (by simp [Value.oneCell']) (by omega) (by simp only [maxLen]; omega) (by omega) (by simp only [World.size_alloc, World.size_drew]; omega) (u1.heap.size + 1) (by simp) ?_; intro g7 cap7 u6 hown7 hgrow7 hat7 hlt7)
        have hg7 : u1.grownBy u6 (Value.slice xa xn xc).ownBlock := ((grown_drew _).trans (grown_alloc _ _)).trans hgrow7
        refine hK.out _ _ (HKe.out _ hg7) (fun hS9 => ?_)
        clear hK K hS; have hS := hS9; clear hS9; (try dsimp only at hS)
        (try simp only [Act.put, List.setIfInBounds_toArray, List.set_cons_zero, List.set_cons_succ, List.getElem_toArray, List.getElem_cons_succ, List.getElem_cons_zero])
        refine wpAnyH_take (i := 9) (v := ?v8x) rfl (by kernel_rfl) (by kernel_rfl) (by kernel_rfl) (fun _ _ _ h => h) (Or.inl ⟨by rfl, ?hy8x⟩) hS ?rest8x
        case hy8x => (intro w' hSw; (try dsimp only at hSw); go_simp; (try (with_reducible rfl)))
        (try simp only [Act.put, List.setIfInBounds_toArray, List.set_cons_zero, List.set_cons_succ, List.getElem_toArray, List.getElem_cons_succ, List.getElem_cons_zero])
        refine wpAnyH_done (by kernel_rfl) ?_ _
        refine fun K hK => ?_
        go_simp
        refine hK.out _ _ ?_
        clear hK K
        have HP9 := Lib.hid (HWu1.out.pushed (v := bit) HX.out hown7 hg7 hat7)
        clear hown7 hgrow7 hat7
        go_wp2_with fail
        go_meet
        exact ⟨g7, cap7, xn, HP9.out.1, HP9.out.2⟩
      obtain ⟨gqu2, cqu2, xqu2, hwu2, hbu2⟩ := hcut
      obtain ⟨u2, rfl⟩ : ∃ u2 : World, u2 = wc := ⟨_, rfl⟩
      have HWu2 := Lib.hid hwu2; have HBu2 := Lib.hid hbu2
      have hzu2 := hbu2.size
      clear hwu2 hbu2 HKe HX HRow HLen hbl
      obtain ⟨A3, hA3⟩ : ∃ A3 : Option Addr, A3 = some ⟨ga, 0, none⟩ := ⟨_, rfl⟩
      obtain ⟨g3, hg3⟩ : ∃ g3, g3 = g2.set 0 (some ⟨gqu2, 0, none⟩, xqu2 + 1, cqu2) := ⟨_, rfl⟩
      have HW3 : Hid (Win XLO BO u2 A3 n2 c2 g3 (pushR (moreR xss 0) 0 bit)) := by rw [hA3, hg3]; exact HWu2.out
      have HB3 : Hid (Below XLO w2 u2) := HBu1.out.trans HBu2.out
      have HAR : Hid (addR xss bit = addGo 8 0 (pushR (moreR xss 0) 0 bit)) := by unfold Hid addR; rw [if_pos HDB.out]
      obtain ⟨zss, hzss⟩ : ∃ zss, zss = addGo 8 0 (pushR (moreR xss 0) 0 bit) := ⟨_, rfl⟩
      rw [← hzss] at HAR
      have HZ0 := Lib.hid hzss.symm
      clear hA3 hg3 HWu2 HWu1 HBu1 HBu2 hzss HW0 hrl hn2 hn8 hzu1 hzu2 hlg hnc hcm hgl hgb
      go_wp2_with fail
      go_loopw [7] (fun rr wr => ∃ (r : Nat) (A1 : Option Addr) (n1 c1 : Nat) (g1 : List Hd) (yss : List (List Int)), rr = .int .i64 r ∧ Win XLO BO wr A1 n1 c1 g1 yss ∧ Below XLO w2 wr ∧ quasi r yss ∧ addGo (8 - r) r yss = zss) (fun rr _ => 8 - (intOf rr).toNat)
      case atStart => exact ⟨0, A3, n2, c2, g3, _, rfl, HW3.out, HB3.out, HQ0.out, HZ0.out⟩
      case round =>
        obtain ⟨r, A1, n1, c1, g1, yss, rfl, hw, hb, hq, hz⟩ := hrel
        obtain ⟨wo, rfl⟩ : ∃ wo : World, wo = wr := ⟨_, rfl⟩
        clear HW3 HB3 HQ0 HZ0
        have hyl := hw.len
        have hq1 := hq.1; have hq2 := hq.2.1
        have hrn : r < n1 := by omega
        have hn8 : n1 ≤ 8 := by omega
        have hr7 : r ≤ 7 := by omega
        have hzo := hb.size
        have h34 := (hq.2.2 r _ (getD_of hq2)).1
        obtain ⟨ga, xa, xn, xc, rfl, hx, hcell, hfrz, hrow, hlen, hgl, hgb, hlg, hnc, hcm⟩ := hw.get (q := r) hrn
        have hx4 : 1 ≤ xn ∧ xn ≤ 4 := by omega
        have o0 := hw.bcell
        have k0 : (0 : Int) ≤ (r : Int) := Int.natCast_nonneg _
        have k1 : (r : Int) < (n1 : Int) := by omega
        have hLdef : longB yss r = decide (3 < xn) := by unfold longB; rw [decide_eq_true hq2, Bool.true_and, hlen]
        have HWo := Lib.hid hw; have HBo := Lib.hid hb; have HQ := Lib.hid hq; have HZ := Lib.hid hz; have HL := Lib.hid hLdef; have HYL := Lib.hid hyl; have HX := Lib.hid hx; have HRow := Lib.hid hrow; have HLen := Lib.hid hlen
        clear hw hb hq hz hyl hLdef hx hrow hlen h34 hq1 hq2 hfrz
        by_cases hl4 : 3 < xn
        · have hlong : longB yss r = true := by rw [HL.out]; exact decide_eq_true hl4
          have HLong := Lib.hid hlong
          obtain ⟨gr, hxa, hgrl, hgrb, hgra, hlgr, hxnc, hxcm⟩ := HWo.out.blk HX.out HRow.out (by omega)
          subst hxa
          clear hlong
          by_cases h7 : r = 7
          · have HZ7 : Hid (yss.set r ((yss.getD r []).drop 1) = zss) := by
              unfold Hid
              have h := HZ.out
              rw [show 8 - r = 0 + 1 by omega] at h
              unfold addGo at h
              rw [if_pos HLong.out, if_pos h7] at h
              exact h
            have hrb : ((r : Int) == 7) = true := by rw [h7]; rfl
            have hrd : decide ((r : Int) = 7) = true := by rw [h7]; rfl
            have hri : (r : Int) = 7 := by omega
            have hr8 : (r : Int) < 8 := by omega
            have H7 := Lib.hid h7
            clear h7 hri
            obtain ⟨ga, xa, xn, xc, hAA, hx, hcell, hfrz, hrow, hlen, hgl, hgb, hlg, hnc, hcm⟩ := HWo.out.get (q := r) (by omega)
            (first | subst hAA | (simp only [Option.some.injEq, Addr.mk.injEq, and_true, true_and] at hAA; subst hAA))
            have hx4' : 2 ≤ xn ∧ xn ≤ 4 := by have := quasi_long HQ.out HLong.out; omega
            obtain ⟨gr, hxa, hgrl, hgrb, hgra, hlgr, hxnc, hxcm⟩ := HWo.out.blk hx hrow (by omega)
            subst hxa
            have o0 := HWo.out.bcell
            have hbl := HWo.out.bx.lt
            have HX := Lib.hid hx
            have HKe : Hid (∀ w' : World, wo.grownBy w' (some gr) → w'.cell? ⟨BO, 0, none⟩ = some (.slice (some ⟨ga, 0, none⟩) n1 c1) ∧ w'.cell? ⟨ga, r, none⟩ = some (.slice (some ⟨gr, 0, none⟩) xn xc) ∧ w'.frozen? ⟨ga, r, none⟩ = false) := fun w' hg => ⟨(cell_grown hg hbl (by simpa using fun e => hgrb e.symm)).trans o0, (cell_grown hg hgl (by simpa using fun e => hgra e.symm)).trans hcell, (frozen_grown hg hgl (by simpa using fun e => hgra e.symm)).trans hfrz⟩
            have HRD := Lib.hid hrow.drew
            clear hx hrow hlen hcell hfrz o0
            go_upto_region 11 with fail
            go_cut [] (fun wx => ∃ (gr xn xc : Nat), Win XLO BO wx (some ⟨ga, 0, none⟩) n1 c1 (g1.set r (some ⟨gr, 0, none⟩, xn - 1, xc)) (yss.set r ((yss.getD r []).drop 1)) ∧ Below XLO wo wx)
            case first =>
              refine wp_region_last (n := 10) (S := fun w' => w'.cell? ⟨BO, 0, none⟩ = some (.slice (some ⟨ga, 0, none⟩) n1 c1) ∧ w'.cell? ⟨ga, r, none⟩ = some (.slice (some ⟨gr, 0, none⟩) xn xc) ∧ w'.frozen? ⟨ga, r, none⟩ = false) (by kernel_rfl) rfl (by kernel_rfl) (HKe.out _ (grown_drew _)) ?_
              intro hS; (try dsimp only at hS)
              simp only [List.take_succ_cons, List.take_zero, List.getElem_toArray, List.getElem_cons_succ, List.getElem_cons_zero]
              refine wpAnyH_take (i := 0) (v := ?v9x) rfl (by kernel_rfl) (by kernel_rfl) (by kernel_rfl) (fun _ _ _ h => h) (Or.inl ⟨by rfl, ?hy9x⟩) hS ?rest9x
              case hy9x => (intro w' hSw; (try dsimp only at hSw); go_simp; (try (with_reducible rfl)))
              (try simp only [Act.put, List.setIfInBounds_toArray, List.set_cons_zero, List.set_cons_succ, List.getElem_toArray, List.getElem_cons_succ, List.getElem_cons_zero])
              refine wpAnyH_take (i := 1) (v := ?v10x) rfl (by kernel_rfl) (by kernel_rfl) (by kernel_rfl) (fun _ _ _ h => h) (Or.inl ⟨by rfl, ?hy10x⟩) hS ?rest10x
              case hy10x => (intro w' hSw; (try dsimp only at hSw); go_simp; (try (with_reducible rfl)))
              (try simp only [Act.put, List.setIfInBounds_toArray, List.set_cons_zero, List.set_cons_succ, List.getElem_toArray, List.getElem_cons_succ, List.getElem_cons_zero])
              refine wpAnyH_take (i := 2) (v := ?v11x) rfl (by kernel_rfl) (by kernel_rfl) (by kernel_rfl) (fun _ _ _ h => h) (Or.inl ⟨by rfl, ?hy11x⟩) hS ?rest11x
              case hy11x => (intro w' hSw; (try dsimp only at hSw); go_simp; (try (with_reducible rfl)))
              (try simp only [Act.put, List.setIfInBounds_toArray, List.set_cons_zero, List.set_cons_succ, List.getElem_toArray, List.getElem_cons_succ, List.getElem_cons_zero])
              refine wpAnyH_take (i := 3) (v := ?v12x) rfl (by kernel_rfl) (by kernel_rfl) (by kernel_rfl) (fun _ _ _ h => h) (Or.inl ⟨by rfl, ?hy12x⟩) hS ?rest12x
              case hy12x => (intro w' hSw; (try dsimp only at hSw); go_simp; (try (with_reducible rfl)))
              (try simp only [Act.put, List.setIfInBounds_toArray, List.set_cons_zero, List.set_cons_succ, List.getElem_toArray, List.getElem_cons_succ, List.getElem_cons_zero])
              refine wpAnyH_take (i := 4) (v := ?v13x) rfl (by kernel_rfl) (by kernel_rfl) (by kernel_rfl) (fun _ _ _ h => h) (Or.inl ⟨by rfl, ?hy13x⟩) hS ?rest13x
              case hy13x => (intro w' hSw; (try dsimp only at hSw); go_simp; (try (with_reducible rfl)))
              (try simp only [Act.put, List.setIfInBounds_toArray, List.set_cons_zero, List.set_cons_succ, List.getElem_toArray, List.getElem_cons_succ, List.getElem_cons_zero])
              refine wpAnyH_take (i := 5) (v := ?v14x) rfl (by kernel_rfl) (by kernel_rfl) (by kernel_rfl) (fun _ _ _ h => h) (Or.inl ⟨by rfl, ?hy14x⟩) hS ?rest14x
              case hy14x => (intro w' hSw; (try dsimp only at hSw); go_simp; (try (with_reducible rfl)))
              (try simp only [Act.put, List.setIfInBounds_toArray, List.set_cons_zero, List.set_cons_succ, List.getElem_toArray, List.getElem_cons_succ, List.getElem_cons_zero])
              refine wpAnyH_take (i := 6) (v := ?v15x) rfl (by kernel_rfl) (by kernel_rfl) (by kernel_rfl) (fun _ _ _ h => h) (Or.inl ⟨by rfl, ?hy15x⟩) hS ?rest15x
              case hy15x => (intro w' hSw; (try dsimp only at hSw); go_simp; (try (with_reducible rfl)))
              (try simp only [Act.put, List.setIfInBounds_toArray, List.set_cons_zero, List.set_cons_succ, List.getElem_toArray, List.getElem_cons_succ, List.getElem_cons_zero])
              refine wpAnyH_take (i := 7) (v := ?v16x) rfl (by kernel_rfl) (by kernel_rfl) (by kernel_rfl) (fun _ _ _ h => h) (Or.inl ⟨by rfl, ?hy16x⟩) hS ?rest16x
              case hy16x => (intro w' hSw; (try dsimp only at hSw); go_simp; (try (with_reducible rfl)))
              (try simp only [Act.put, List.setIfInBounds_toArray, List.set_cons_zero, List.set_cons_succ, List.getElem_toArray, List.getElem_cons_succ, List.getElem_cons_zero])
              refine wpAnyH_ready (rs := [8]) (by kernel_rfl) (by simp) ?_
              refine AllReadyH.cons rfl (fun K hK => ?_) AllReadyH.nil
              (try dsimp only [List.getElem_toArray, List.getElem_cons_succ, List.getElem_cons_zero])
              (go_simp; (refine (del_any XLO gr xn xc 1 (yss.getD r []) _ HRD.out (by omega) (by omega) (by omega)).mono ?_); rintro e u3 ⟨rfl, od, gd, zd⟩; dsimp only)
              have hgd : wo.grownBy u3 (some gr) := (grown_drew _).trans gd
              refine hK.out _ _ (HKe.out _ hgd) (fun hS9 => ?_)
              clear hK K hS; have hS := hS9; clear hS9; (try dsimp only at hS)
              (try simp only [Act.put, List.setIfInBounds_toArray, List.set_cons_zero, List.set_cons_succ, List.getElem_toArray, List.getElem_cons_succ, List.getElem_cons_zero])
              refine wpAnyH_take (i := 9) (v := ?v17x) rfl (by kernel_rfl) (by kernel_rfl) (by kernel_rfl) (fun _ _ _ h => h) (Or.inl ⟨by rfl, ?hy17x⟩) hS ?rest17x
              case hy17x => (intro w' hSw; (try dsimp only at hSw); go_simp; (try (with_reducible rfl)))
              (try simp only [Act.put, List.setIfInBounds_toArray, List.set_cons_zero, List.set_cons_succ, List.getElem_toArray, List.getElem_cons_succ, List.getElem_cons_zero])
              refine wpAnyH_done (by kernel_rfl) ?_ _
              refine fun K hK => ?_
              go_simp
              refine hK.out _ _ ?_
              clear hK K
              have HY9 := Lib.hid (HWo.out.turn (y := (some ⟨gr, 0, none⟩, xn - 1, xc)) HX.out hgd od (fun k hk => .inl (by simpa [hdV, Value.ownBlock] using hk)))
              go_wp2_with fail
              go_meet
              exact ⟨gr, xn, xc, HY9.out.1, HY9.out.2⟩
            obtain ⟨gdu5, xdu5, cdu5, hwu5, hbu5⟩ := hcut
            obtain ⟨u5, rfl⟩ : ∃ u5 : World, u5 = wc := ⟨_, rfl⟩
            have HWu5 := Lib.hid hwu5; have HBu5 := Lib.hid hbu5
            have hzu5 := hbu5.size
            clear hwu5 hbu5 HKe HRD hbl HX
            have HBu5' : Hid (Below XLO w2 u5) := HBo.out.trans HBu5.out
            have o0 := HWu5.out.bcell
            have r0 : u5.cell? ⟨w.heap.size + 1, 0, none⟩ = some (.slice none 0 0) := (HBu5'.out.cell (p := ⟨w.heap.size + 1, 0, none⟩) (show w.heap.size + 1 < _ by omega)).trans HR0.out
            have fr0 : u5.frozen? ⟨w.heap.size + 1, 0, none⟩ = false := (HBu5'.out.frozen (p := ⟨w.heap.size + 1, 0, none⟩) (show w.heap.size + 1 < _ by omega)).trans HR1.out
            have hfin : ∀ w9, w9 = u5.setCell ⟨w.heap.size + 1, 0, none⟩ (.slice (some ⟨ga, 0, none⟩) n1 c1) → OwSS w.heap.size w9.heap.size w9 (some ⟨ga, 0, none⟩) n1 c1 (g1.set r (some ⟨gdu5, 0, none⟩, xdu5 - 1, cdu5)) (iss (addR xss bit)) ∧ Below w.heap.size w w9 := by
              intro w9 h9
              subst h9
              rw [HAR.out, ← HZ7.out]
              exact ⟨HWu5.out.fin (by omega) (by omega), Below.setCell (p := ⟨w.heap.size + 1, 0, none⟩) (HAc.out.trans (HBu5'.out.mono (by omega))) (by show w.heap.size ≤ w.heap.size + 1; omega) _⟩
            have HFin := Lib.hid hfin
            clear hfin
            go_wp2_with ((with_reducible refine bodyPost_ret (v := .tuple #[.agg #[.slice (some ⟨ga, 0, none⟩) n1 c1], .bool true]) ?k1 ?k2 ?k3); (case k1 => (simp [results, Try.results28, go_sem, r0, fr0])); (case k2 => rfl); (case k3 => (exact ⟨(some ⟨ga, 0, none⟩), n1, c1, (g1.set r (some ⟨gdu5, 0, none⟩, xdu5 - 1, cdu5)), by rw [HDB.out], (HFin.out _ rfl).1, (HFin.out _ rfl).2⟩)))
          · have HZ8 : Hid (addGo (8 - (r + 1)) (r + 1) (shiftR yss r) = zss) := by
              unfold Hid
              have h := HZ.out
              rw [show 8 - r = (8 - (r + 1)) + 1 by omega] at h
              unfold addGo at h
              rw [if_pos HLong.out, if_neg h7] at h
              exact h
            have HQ8 := Lib.hid (quasi_step HQ.out HLong.out h7)
            have h4 := quasi_long HQ.out HLong.out
            have hn4 : xn = 4 := by have := HLen.out; omega
            subst hn4
            clear h4
            have hrb : ((r : Int) == 7) = false := beq_false_of_ne (by omega)
            have hrd : decide ((r : Int) = 7) = false := decide_eq_false (by omega)
            have hr8 : (r : Int) < 8 := by omega
            have hr6 : r ≤ 6 := by omega
            obtain ⟨q, hqr⟩ : ∃ q, q = r + 1 := ⟨_, rfl⟩
            have n3 : (r : Int) + 1 = (q : Int) := by omega
            have N2 : Hid (IntKind.i64.wrap ((r : Int) + 1) = (q : Int)) := by unfold Hid; rw [n3]; exact IntWalk.i64_in _ (by omega)
            have hqn : q ≤ n1 := by omega
            have hq7 : q ≤ 7 := by omega
            have hqr' : q ≠ r := by omega
            have HQR := Lib.hid hqr
            rw [← hqr] at HZ8 HQ8
            clear h7 hqr
            have m3 := n3
            clear n3
            have hbl := HWo.out.bx.lt
            have o0 := HWo.out.bcell
            have hm0 : moreR yss q = if q = yss.length then yss ++ [[]] else yss := rfl
            have HM0 := Lib.hid hm0
            have HYL := Lib.hid HWo.out.len
            clear hm0
            go_upto_if 71 with fail
            go_cut [] (fun wx => ∃ (A2 : Option Addr) (n2 c2 : Nat) (g2 : List Hd), Win XLO BO wx A2 n2 c2 g2 (moreR yss q) ∧ Below XLO wo wx)
            case first =>
              by_cases hq : q = n1
              · have hqb : ((q : Int) == (n1 : Int)) = true := by simp [hq]
                have hqd : decide ((q : Int) = (n1 : Int)) = true := by simp [hq]
                have hqN := decide_eq_true hq; have HQe := Lib.hid hq; clear hq
                go_wp2_with (at_builtin; refine wpList_append_lies _ rfl _ _ 24 rfl XLO 54 i0 _ 1 24 Try.underlying24 HJ.out HJ0.out HJ1.out HJ2.out rfl (by decide) (.slice (some ⟨ga, 0, none⟩) n1 c1) n1 (g1.map hdV) rfl (HWo.out.ow.hd.own.alloc _) ⟨wo.heap.size, 0, none⟩ 1 1 [.slice none 0 0] rfl rfl (cell_one_new _ _ _) ?c2 (by omega) ?c3 ?c4 ?c5 _ rfl ?_)
                case c2 => intro u hu; simp at hu; subst hu; rfl
                case c3 => unfold maxLen; omega
                case c4 => omega
                case c5 => simp only [World.size_alloc]; omega
                intro g7 cap7 u6 hown7 hgrow7 hat7 hlt7
                have hf6 : u6.frozen? ⟨BO, 0, none⟩ = false := (frozen_grown (grown_alloc _ _ |>.trans hgrow7) hbl (fun e => HWo.out.offA e.symm)).trans (HWo.out.bx.free 0)
                have hc6 : u6.cell? ⟨BO, 0, none⟩ = some (.slice (some ⟨ga, 0, none⟩) n1 c1) := (cell_grown (grown_alloc _ _ |>.trans hgrow7) hbl (fun e => HWo.out.offA e.symm)).trans HWo.out.bcell
                have HP9 := Lib.hid (HWo.out.more_nil (by omega) (by omega) hown7 hgrow7 (hat7.imp id (fun e => e.trans (by simp only [World.size_alloc]))))
                have HP8 : Hid (moreR yss q = yss ++ [[]]) := by unfold Hid; rw [HM0.out, if_pos (by rw [HYL.out]; exact HQe.out)]
                clear hown7 hgrow7 hat7
                go_wp2_with fail
                go_meet
                exact ⟨_, _, _, _, by rw [HP8.out]; exact HP9.out.1, HP9.out.2⟩
              · have hqb : ((q : Int) == (n1 : Int)) = false := beq_false_of_ne (by omega)
                have hqd : decide ((q : Int) = (n1 : Int)) = false := decide_eq_false (by omega)
                have hqN := decide_eq_false hq; have HQe := Lib.hid hq; clear hq
                have HP8 : Hid (moreR yss q = yss) := by unfold Hid; rw [HM0.out, if_neg (by rw [HYL.out]; exact HQe.out)]
                go_wp2_with fail
                go_meet
                exact ⟨(some ⟨ga, 0, none⟩), n1, c1, g1, by rw [HP8.out]; exact HWo.out, Below.refl _ _⟩
            obtain ⟨A2, n2, c2, g2, hwu3, hbu3⟩ := hcut
            obtain ⟨u3, rfl⟩ : ∃ u3 : World, u3 = wc := ⟨_, rfl⟩
            have HWu3 := Lib.hid hwu3; have HBu3 := Lib.hid hbu3
            have hzu3 := hbu3.size
            clear hwu3 hbu3 o0 hbl HM0 HYL
            have hm3 : (moreR yss q).length = n2 := HWu3.out.len
            have hyl := HYL.out
            have hml := moreR_len (xss := yss) (r := q) (by omega)
            have hm5 : q < n2 := by have := moreR_lt (xss := yss) (r := q) (by omega); omega
            have hm4 : n1 ≤ n2 := by split at hml <;> omega
            have hm6 : n2 ≤ 8 := by split at hml <;> omega
            have hqy : q ≤ yss.length := by omega
            clear hyl hml
            have hgd : (moreR yss q).getD r [] = yss.getD r [] := moreR_getD (by have := HYL.out; omega)
            have HGD := Lib.hid hgd
            have hrq : ((moreR yss q).getD q []).length ≤ 3 := (more_row hqy (fun k xs hk hkq => by
              obtain ⟨⟨d1, d2⟩, d3⟩ := HQ.out.2.2 k xs hk
              exact ⟨by omega, d3⟩)).1
            obtain ⟨e0, he0⟩ : ∃ e0, e0 = (yss.getD r []).getD 0 0 := ⟨_, rfl⟩
            obtain ⟨e1, he1⟩ : ∃ e1, e1 = (yss.getD r []).getD 1 0 := ⟨_, rfl⟩
            obtain ⟨bo, hbo⟩ : ∃ bo, bo = bothOf (yss.getD r []) := ⟨_, rfl⟩
            have hbe : e0 + e1 = bo := by rw [he0, he1, hbo]; rfl
            have hbb := both_bd HQ.out HLong.out
            have hpb := (pw_bd (r := r + 1) (by omega)).2
            have N3 : IntKind.i64.wrap (e0 + e1) = bo := by rw [hbe]; exact IntWalk.i64_in _ (by rw [hbo]; omega)
            have N2' : IntKind.i64.wrap (q : Int) = (q : Int) := IntWalk.i64_in _ (by omega)
            have hq0i : (0 : Int) ≤ (q : Int) := Int.natCast_nonneg _
            have hqni : (q : Int) < (n2 : Int) := by omega
            have hrni : (r : Int) < (n2 : Int) := by omega
            have hrn2 : r < n2 := by omega
            have HE0 := Lib.hid he0; have HE1 := Lib.hid he1; have HBO := Lib.hid hbo
            clear hm3 hgd hbe hbb hpb he0 he1 hbo hcell o0
            obtain ⟨ga, xa, xn, xc, hAA, hx, hcell, hfrz, hrow, hlen, hgl, hgb, hlg, hnc, hcm⟩ := HWu3.out.get (q := q) (by omega)
            (first | subst hAA | (simp only [Option.some.injEq, Addr.mk.injEq, and_true, true_and] at hAA; subst hAA))
            have o0 := HWu3.out.bcell
            have hbl := HWu3.out.bx.lt
            have hxg : some ga ≠ (Value.slice xa xn xc).ownBlock := fun e => HWu3.out.ow.off q _ ga hx rfl e.symm
            have hxb : some BO ≠ (Value.slice xa xn xc).ownBlock := fun e => HWu3.out.offR q _ hx e.symm
            obtain ⟨gb, ya, yn, yc, hAB, hy, hcy, hfy, hyrow, hylen, _, _, _, _, _⟩ := HWu3.out.get (q := r) (by omega)
            simp only [Option.some.injEq, Addr.mk.injEq, and_true, true_and] at hAB
            subst hAB
            have hy4 : yn = 4 := by have := HLen.out; rw [HGD.out] at hylen; omega
            subst hy4
            obtain ⟨gs, hya, hgsl, hgsb, hgsa, _, _, _⟩ := HWu3.out.blk hy hyrow (by omega)
            subst hya
            have hap := HWu3.out.apart hy hx (by omega)
            have h2g := two_getD (l := yss.getD r []) (by have := HLen.out; omega)
            have hc0 : u3.cell? ⟨gs, 0, none⟩ = some (.int .i64 e0) := by rw [hyrow.cellAt 0 (by omega), HGD.out, List.getElem?_map, h2g.1, HE0.out]; rfl
            have hc1 : u3.cell? ⟨gs, 1, none⟩ = some (.int .i64 e1) := by rw [hyrow.cellAt 1 (by omega), HGD.out, List.getElem?_map, h2g.2, HE1.out]; rfl
            clear h2g hfy hyrow hylen hy
            have HKe : Hid (∀ w' : World, u3.grownBy w' (Value.slice xa xn xc).ownBlock → w'.cell? ⟨BO, 0, none⟩ = some (.slice (some ⟨ga, 0, none⟩) n2 c2) ∧ w'.cell? ⟨ga, q, none⟩ = some (.slice xa xn xc) ∧ w'.frozen? ⟨ga, q, none⟩ = false ∧ w'.cell? ⟨ga, r, none⟩ = some (.slice (some ⟨gs, 0, none⟩) 4 yc) ∧ w'.cell? ⟨gs, 0, none⟩ = some (.int .i64 e0) ∧ w'.cell? ⟨gs, 1, none⟩ = some (.int .i64 e1)) := fun w' hg => ⟨(cell_grown hg hbl hxb).trans o0, (cell_grown hg hgl hxg).trans hcell, (frozen_grown hg hgl hxg).trans hfrz, (cell_grown hg hgl hxg).trans hcy, (cell_grown hg hgsl (fun e => hap e.symm)).trans hc0, (cell_grown hg hgsl (fun e => hap e.symm)).trans hc1⟩
            have HX := Lib.hid hx; have HRow := Lib.hid hrow; have HLen := Lib.hid hlen
            have hxn3 : xn ≤ 3 := by omega
            clear hx hrow hlen hxg hxb hcell hfrz o0
            go_upto_region 14 with fail
            go_cut [] (fun wx => ∃ (g7 cap7 xn : Nat), Win XLO BO wx (some ⟨ga, 0, none⟩) n2 c2 (g2.set q (some ⟨g7, 0, none⟩, xn + 1, cap7)) (pushR (moreR yss q) q bo) ∧ Below XLO u3 wx)
            case first =>
              refine wp_region_last (n := 28) (S := fun w' => w'.cell? ⟨BO, 0, none⟩ = some (.slice (some ⟨ga, 0, none⟩) n2 c2) ∧ w'.cell? ⟨ga, q, none⟩ = some (.slice xa xn xc) ∧ w'.frozen? ⟨ga, q, none⟩ = false ∧ w'.cell? ⟨ga, r, none⟩ = some (.slice (some ⟨gs, 0, none⟩) 4 yc) ∧ w'.cell? ⟨gs, 0, none⟩ = some (.int .i64 e0) ∧ w'.cell? ⟨gs, 1, none⟩ = some (.int .i64 e1)) (by kernel_rfl) rfl (by kernel_rfl) (HKe.out _ (grown_drew _)) ?_
              intro hS; (try dsimp only at hS)
              simp only [List.take_succ_cons, List.take_zero, List.getElem_toArray, List.getElem_cons_succ, List.getElem_cons_zero]
              refine wpAnyH_take (i := 0) (v := ?v18x) rfl (by kernel_rfl) (by kernel_rfl) (by kernel_rfl) (fun _ _ _ h => h) (Or.inl ⟨by rfl, ?hy18x⟩) hS ?rest18x
              case hy18x => (intro w' hSw; (try dsimp only at hSw); go_simp; (try (with_reducible rfl)))
              (try simp only [Act.put, List.setIfInBounds_toArray, List.set_cons_zero, List.set_cons_succ, List.getElem_toArray, List.getElem_cons_succ, List.getElem_cons_zero])
              refine wpAnyH_take (i := 1) (v := ?v19x) rfl (by kernel_rfl) (by kernel_rfl) (by kernel_rfl) (fun _ _ _ h => h) (Or.inl ⟨by rfl, ?hy19x⟩) hS ?rest19x
              case hy19x => (intro w' hSw; (try dsimp only at hSw); go_simp; (try (with_reducible rfl)))
              (try simp only [Act.put, List.setIfInBounds_toArray, List.set_cons_zero, List.set_cons_succ, List.getElem_toArray, List.getElem_cons_succ, List.getElem_cons_zero])
              refine wpAnyH_take (i := 2) (v := ?v20x) rfl (by kernel_rfl) (by kernel_rfl) (by kernel_rfl) (fun _ _ _ h => h) (Or.inl ⟨by rfl, ?hy20x⟩) hS ?rest20x
              case hy20x => (intro w' hSw; (try dsimp only at hSw); go_simp; (try (with_reducible rfl)))
              (try simp only [Act.put, List.setIfInBounds_toArray, List.set_cons_zero, List.set_cons_succ, List.getElem_toArray, List.getElem_cons_succ, List.getElem_cons_zero])
              refine wpAnyH_take (i := 3) (v := ?v21x) rfl (by kernel_rfl) (by kernel_rfl) (by kernel_rfl) (fun _ _ _ h => h) (Or.inl ⟨by rfl, ?hy21x⟩) hS ?rest21x
              case hy21x => (intro w' hSw; (try dsimp only at hSw); go_simp; (try (with_reducible rfl)))
              (try simp only [Act.put, List.setIfInBounds_toArray, List.set_cons_zero, List.set_cons_succ, List.getElem_toArray, List.getElem_cons_succ, List.getElem_cons_zero])
              refine wpAnyH_take (i := 4) (v := ?v22x) rfl (by kernel_rfl) (by kernel_rfl) (by kernel_rfl) (fun _ _ _ h => h) (Or.inl ⟨by rfl, ?hy22x⟩) hS ?rest22x
              case hy22x => (intro w' hSw; (try dsimp only at hSw); go_simp; (try (with_reducible rfl)))
              (try simp only [Act.put, List.setIfInBounds_toArray, List.set_cons_zero, List.set_cons_succ, List.getElem_toArray, List.getElem_cons_succ, List.getElem_cons_zero])
              refine wpAnyH_take (i := 5) (v := ?v23x) rfl (by kernel_rfl) (by kernel_rfl) (by kernel_rfl) (fun _ _ _ h => h) (Or.inl ⟨by rfl, ?hy23x⟩) hS ?rest23x
              case hy23x => (intro w' hSw; (try dsimp only at hSw); go_simp; (try (with_reducible rfl)))
              (try simp only [Act.put, List.setIfInBounds_toArray, List.set_cons_zero, List.set_cons_succ, List.getElem_toArray, List.getElem_cons_succ, List.getElem_cons_zero])
              refine wpAnyH_take (i := 6) (v := ?v24x) rfl (by kernel_rfl) (by kernel_rfl) (by kernel_rfl) (fun _ _ _ h => h) (Or.inl ⟨by rfl, ?hy24x⟩) hS ?rest24x
              case hy24x => (intro w' hSw; (try dsimp only at hSw); go_simp; (try (with_reducible rfl)))
              (try simp only [Act.put, List.setIfInBounds_toArray, List.set_cons_zero, List.set_cons_succ, List.getElem_toArray, List.getElem_cons_succ, List.getElem_cons_zero])
              refine wpAnyH_take (i := 7) (v := ?v25x) rfl (by kernel_rfl) (by kernel_rfl) (by kernel_rfl) (fun _ _ _ h => h) (Or.inl ⟨by rfl, ?hy25x⟩) hS ?rest25x
              case hy25x => (intro w' hSw; (try dsimp only at hSw); go_simp; (try (with_reducible rfl)))
              (try simp only [Act.put, List.setIfInBounds_toArray, List.set_cons_zero, List.set_cons_succ, List.getElem_toArray, List.getElem_cons_succ, List.getElem_cons_zero])
              refine wpAnyH_take (i := 8) (v := ?v26x) rfl (by kernel_rfl) (by kernel_rfl) (by kernel_rfl) (fun _ _ _ h => h) (Or.inl ⟨by rfl, ?hy26x⟩) hS ?rest26x
              case hy26x => (intro w' hSw; (try dsimp only at hSw); go_simp; (try (with_reducible rfl)))
              (try simp only [Act.put, List.setIfInBounds_toArray, List.set_cons_zero, List.set_cons_succ, List.getElem_toArray, List.getElem_cons_succ, List.getElem_cons_zero])
              refine wpAnyH_take (i := 9) (v := ?v27x) rfl (by kernel_rfl) (by kernel_rfl) (by kernel_rfl) (fun _ _ _ h => h) (Or.inl ⟨by rfl, ?hy27x⟩) hS ?rest27x
              case hy27x => (intro w' hSw; (try dsimp only at hSw); go_simp; (try (with_reducible rfl)))
              (try simp only [Act.put, List.setIfInBounds_toArray, List.set_cons_zero, List.set_cons_succ, List.getElem_toArray, List.getElem_cons_succ, List.getElem_cons_zero])
              refine wpAnyH_take (i := 10) (v := ?v28x) rfl (by kernel_rfl) (by kernel_rfl) (by kernel_rfl) (fun _ _ _ h => h) (Or.inl ⟨by rfl, ?hy28x⟩) hS ?rest28x
              case hy28x => (intro w' hSw; (try dsimp only at hSw); go_simp; (try (with_reducible rfl)))
              (try simp only [Act.put, List.setIfInBounds_toArray, List.set_cons_zero, List.set_cons_succ, List.getElem_toArray, List.getElem_cons_succ, List.getElem_cons_zero])
              refine wpAnyH_take (i := 11) (v := ?v29x) rfl (by kernel_rfl) (by kernel_rfl) (by kernel_rfl) (fun _ _ _ h => h) (Or.inl ⟨by rfl, ?hy29x⟩) hS ?rest29x
              case hy29x => (intro w' hSw; (try dsimp only at hSw); go_simp; (try (with_reducible rfl)))
              (try simp only [Act.put, List.setIfInBounds_toArray, List.set_cons_zero, List.set_cons_succ, List.getElem_toArray, List.getElem_cons_succ, List.getElem_cons_zero])
              refine wpAnyH_take (i := 12) (v := ?v30x) rfl (by kernel_rfl) (by kernel_rfl) (by kernel_rfl) (fun _ _ _ h => h) (Or.inl ⟨by rfl, ?hy30x⟩) hS ?rest30x
              case hy30x => (intro w' hSw; (try dsimp only at hSw); go_simp; (try (with_reducible rfl)))
              (try simp only [Act.put, List.setIfInBounds_toArray, List.set_cons_zero, List.set_cons_succ, List.getElem_toArray, List.getElem_cons_succ, List.getElem_cons_zero])
              refine wpAnyH_take (i := 13) (v := ?v31x) rfl (by kernel_rfl) (by kernel_rfl) (by kernel_rfl) (fun _ _ _ h => h) (Or.inl ⟨by rfl, ?hy31x⟩) hS ?rest31x
              case hy31x => (intro w' hSw; (try dsimp only at hSw); go_simp; (try (with_reducible rfl)))
              (try simp only [Act.put, List.setIfInBounds_toArray, List.set_cons_zero, List.set_cons_succ, List.getElem_toArray, List.getElem_cons_succ, List.getElem_cons_zero])
              refine wpAnyH_take (i := 14) (v := ?v32x) rfl (by kernel_rfl) (by kernel_rfl) (by kernel_rfl) (fun _ _ _ h => h) (Or.inl ⟨by rfl, ?hy32x⟩) hS ?rest32x
              case hy32x => (intro w' hSw; (try dsimp only at hSw); go_simp; (try (with_reducible rfl)))
              (try simp only [Act.put, List.setIfInBounds_toArray, List.set_cons_zero, List.set_cons_succ, List.getElem_toArray, List.getElem_cons_succ, List.getElem_cons_zero])
              refine wpAnyH_take (i := 15) (v := ?v33x) rfl (by kernel_rfl) (by kernel_rfl) (by kernel_rfl) (fun _ _ _ h => h) (Or.inl ⟨by rfl, ?hy33x⟩) hS ?rest33x
              case hy33x => (intro w' hSw; (try dsimp only at hSw); go_simp; (try (with_reducible rfl)))
              (try simp only [Act.put, List.setIfInBounds_toArray, List.set_cons_zero, List.set_cons_succ, List.getElem_toArray, List.getElem_cons_succ, List.getElem_cons_zero])
              refine wpAnyH_take (i := 16) (v := ?v34x) rfl (by kernel_rfl) (by kernel_rfl) (by kernel_rfl) (fun _ _ _ h => h) (Or.inl ⟨by rfl, ?hy34x⟩) hS ?rest34x
              case hy34x => (intro w' hSw; (try dsimp only at hSw); go_simp; (try (with_reducible rfl)))
              (try simp only [Act.put, List.setIfInBounds_toArray, List.set_cons_zero, List.set_cons_succ, List.getElem_toArray, List.getElem_cons_succ, List.getElem_cons_zero])
              refine wpAnyH_take (i := 17) (v := ?v35x) rfl (by kernel_rfl) (by kernel_rfl) (by kernel_rfl) (fun _ _ _ h => h) (Or.inl ⟨by rfl, ?hy35x⟩) hS ?rest35x
              case hy35x => (intro w' hSw; (try dsimp only at hSw); go_simp; (try (with_reducible rfl)))
              (try simp only [Act.put, List.setIfInBounds_toArray, List.set_cons_zero, List.set_cons_succ, List.getElem_toArray, List.getElem_cons_succ, List.getElem_cons_zero])
              refine wpAnyH_take (i := 18) (v := ?v36x) rfl (by kernel_rfl) (by kernel_rfl) (by kernel_rfl) (fun _ _ _ h => h) (Or.inl ⟨by rfl, ?hy36x⟩) hS ?rest36x
              case hy36x => (intro w' hSw; (try dsimp only at hSw); go_simp; (try (with_reducible rfl)))
              (try simp only [Act.put, List.setIfInBounds_toArray, List.set_cons_zero, List.set_cons_succ, List.getElem_toArray, List.getElem_cons_succ, List.getElem_cons_zero])
              refine wpAnyH_take (i := 19) (v := ?v37x) rfl (by kernel_rfl) (by kernel_rfl) (by kernel_rfl) (fun _ _ _ h => h) (Or.inl ⟨by rfl, ?hy37x⟩) hS ?rest37x
              case hy37x => (intro w' hSw; (try dsimp only at hSw); go_simp; (try (with_reducible rfl)))
              (try simp only [Act.put, List.setIfInBounds_toArray, List.set_cons_zero, List.set_cons_succ, List.getElem_toArray, List.getElem_cons_succ, List.getElem_cons_zero])
              refine wpAnyH_take (i := 20) (v := ?v38x) rfl (by kernel_rfl) (by kernel_rfl) (by kernel_rfl) (fun _ _ _ h => h) (Or.inl ⟨by rfl, ?hy38x⟩) hS ?rest38x
              case hy38x => (intro w' hSw; (try dsimp only at hSw); go_simp; (try (with_reducible rfl)))
              (try simp only [Act.put, List.setIfInBounds_toArray, List.set_cons_zero, List.set_cons_succ, List.getElem_toArray, List.getElem_cons_succ, List.getElem_cons_zero])
              refine wpAnyH_take (i := 21) (v := ?v39x) rfl (by kernel_rfl) (by kernel_rfl) (by kernel_rfl) (fun _ _ _ h => h) (Or.inl ⟨by rfl, ?hy39x⟩) hS ?rest39x
              case hy39x => (intro w' hSw; (try dsimp only at hSw); go_simp; (try (with_reducible rfl)))
              (try simp only [Act.put, List.setIfInBounds_toArray, List.set_cons_zero, List.set_cons_succ, List.getElem_toArray, List.getElem_cons_succ, List.getElem_cons_zero])
              refine wpAnyH_take (i := 22) (v := ?v40x) rfl (by kernel_rfl) (by kernel_rfl) (by kernel_rfl) (fun _ _ _ h => h) (Or.inl ⟨by rfl, ?hy40x⟩) hS ?rest40x
              case hy40x => (intro w' hSw; (try dsimp only at hSw); go_simp; (try (with_reducible rfl)))
              (try simp only [Act.put, List.setIfInBounds_toArray, List.set_cons_zero, List.set_cons_succ, List.getElem_toArray, List.getElem_cons_succ, List.getElem_cons_zero])
              refine wpAnyH_take (i := 23) (v := ?v41x) rfl (by kernel_rfl) (by kernel_rfl) (by kernel_rfl) (fun _ _ _ h => h) (Or.inl ⟨by rfl, ?hy41x⟩) hS ?rest41x
              case hy41x => (intro w' hSw; (try dsimp only at hSw); go_simp; (try (with_reducible rfl)))
              (try simp only [Act.put, List.setIfInBounds_toArray, List.set_cons_zero, List.set_cons_succ, List.getElem_toArray, List.getElem_cons_succ, List.getElem_cons_zero])
              refine wpAnyH_take (i := 24) (v := ?v42x) rfl (by kernel_rfl) (by kernel_rfl) (by kernel_rfl) (fun _ _ _ h => h) (Or.inl ⟨by rfl, ?hy42x⟩) hS ?rest42x
              case hy42x => (intro w' hSw; (try dsimp only at hSw); go_simp; (try (with_reducible rfl)))
              (try simp only [Act.put, List.setIfInBounds_toArray, List.set_cons_zero, List.set_cons_succ, List.getElem_toArray, List.getElem_cons_succ, List.getElem_cons_zero])
              refine wpAnyH_ready (rs := [25]) (by kernel_rfl) (by simp) ?_
              refine AllReadyH.cons rfl (fun K hK => ?_) AllReadyH.nil
              (try dsimp only [List.getElem_toArray, List.getElem_cons_succ, List.getElem_cons_zero])
              go_simp
              refine hK.out _ _ (HKe.out _ ((grown_drew _).trans (grown_alloc _ _))) (fun hS9 => ?_)
              clear hK K hS; have hS := hS9; clear hS9; (try dsimp only at hS)
              (try simp only [Act.put, List.setIfInBounds_toArray, List.set_cons_zero, List.set_cons_succ, List.getElem_toArray, List.getElem_cons_succ, List.getElem_cons_zero])
              refine wpAnyH_ready (rs := [26]) (by kernel_rfl) (by simp) ?_
              refine AllReadyH.cons rfl (fun K hK => ?_) AllReadyH.nil
              (try dsimp only [List.getElem_toArray, List.getElem_cons_succ, List.getElem_cons_zero])
              (rw [if_pos (by rfl)]; refine wp_append_lies _ _ _ _ (by rfl) XLO 3 i1 _ 1 8 Try.underlying54 HI.out HI0.out HI1.out HI2.out rfl (by omega) _ xn (((moreR yss q).getD q []).map (Value.int .i64)) (by rfl) ((HRow.out.alloc _).drew) ⟨u3.heap.size, 0, none⟩ 1 1 [.int .i64 bo] (by rfl) (by rfl) (World.news_of_block (cs := #[.int .i64 bo]) (t := 3) (fr := (0, 0)) (heap_alloc_new u3 _)) (by simp [Value.oneCell']) (by omega) (by simp only [maxLen]; omega) (by omega) (by simp only [World.size_alloc, World.size_drew]; omega) (u3.heap.size + 1) (by simp) ?_; intro g7 cap7 u6 hown7 hgrow7 hat7 hlt7)
              have hg7 : u3.grownBy u6 (Value.slice xa xn xc).ownBlock := ((grown_drew _).trans (grown_alloc _ _)).trans hgrow7
              refine hK.out _ _ (HKe.out _ hg7) (fun hS9 => ?_)
              clear hK K hS; have hS := hS9; clear hS9; (try dsimp only at hS)
              (try simp only [Act.put, List.setIfInBounds_toArray, List.set_cons_zero, List.set_cons_succ, List.getElem_toArray, List.getElem_cons_succ, List.getElem_cons_zero])
              refine wpAnyH_take (i := 27) (v := ?v43x) rfl (by kernel_rfl) (by kernel_rfl) (by kernel_rfl) (fun _ _ _ h => h) (Or.inl ⟨by rfl, ?hy43x⟩) hS ?rest43x
              case hy43x => (intro w' hSw; (try dsimp only at hSw); go_simp; (try (with_reducible rfl)))
              (try simp only [Act.put, List.setIfInBounds_toArray, List.set_cons_zero, List.set_cons_succ, List.getElem_toArray, List.getElem_cons_succ, List.getElem_cons_zero])
              refine wpAnyH_done (by kernel_rfl) ?_ _
              refine fun K hK => ?_
              go_simp
              refine hK.out _ _ ?_
              clear hK K
              have HP9 := Lib.hid (HWu3.out.pushed (v := bo) HX.out hown7 hg7 hat7)
              clear hown7 hgrow7 hat7
              go_wp2_with fail
              go_meet
              exact ⟨g7, cap7, xn, HP9.out.1, HP9.out.2⟩
            obtain ⟨gqu4, cqu4, xqu4, hwu4, hbu4⟩ := hcut
            obtain ⟨u4, rfl⟩ : ∃ u4 : World, u4 = wc := ⟨_, rfl⟩
            have HWu4 := Lib.hid hwu4; have HBu4 := Lib.hid hbu4
            have hzu4 := hbu4.size
            clear hwu4 hbu4 HKe HX HRow HLen hbl
            have hg4 : (pushR (moreR yss q) q bo).getD r [] = yss.getD r [] := by rw [pushR_getD (by omega)]; exact HGD.out
            have HG4 := Lib.hid hg4
            clear hcy hc0 hc1 hap N3
            obtain ⟨ga, xa, xn, xc, hAA, hx, hcell, hfrz, hrow, hlen, hgl, hgb, hlg, hnc, hcm⟩ := HWu4.out.get (q := r) (by omega)
            (first | subst hAA | (simp only [Option.some.injEq, Addr.mk.injEq, and_true, true_and] at hAA; subst hAA))
            have hx4' : 2 ≤ xn ∧ xn ≤ 4 := by have := HLen.out; rw [HG4.out] at hlen; omega
            obtain ⟨gr, hxa, hgrl, hgrb, hgra, hlgr, hxnc, hxcm⟩ := HWu4.out.blk hx hrow (by omega)
            subst hxa
            have o0 := HWu4.out.bcell
            have hbl := HWu4.out.bx.lt
            have HX := Lib.hid hx
            have HKe : Hid (∀ w' : World, u4.grownBy w' (some gr) → w'.cell? ⟨BO, 0, none⟩ = some (.slice (some ⟨ga, 0, none⟩) n2 c2) ∧ w'.cell? ⟨ga, r, none⟩ = some (.slice (some ⟨gr, 0, none⟩) xn xc) ∧ w'.frozen? ⟨ga, r, none⟩ = false) := fun w' hg => ⟨(cell_grown hg hbl (by simpa using fun e => hgrb e.symm)).trans o0, (cell_grown hg hgl (by simpa using fun e => hgra e.symm)).trans hcell, (frozen_grown hg hgl (by simpa using fun e => hgra e.symm)).trans hfrz⟩
            have HRD := Lib.hid hrow.drew
            clear hx hrow hlen hcell hfrz o0
            go_upto_region 15 with fail
            refine wp_region_last (n := 10) (S := fun w' => w'.cell? ⟨BO, 0, none⟩ = some (.slice (some ⟨ga, 0, none⟩) n2 c2) ∧ w'.cell? ⟨ga, r, none⟩ = some (.slice (some ⟨gr, 0, none⟩) xn xc) ∧ w'.frozen? ⟨ga, r, none⟩ = false) (by kernel_rfl) rfl (by kernel_rfl) (HKe.out _ (grown_drew _)) ?_
            intro hS; (try dsimp only at hS)
            simp only [List.take_succ_cons, List.take_zero, List.getElem_toArray, List.getElem_cons_succ, List.getElem_cons_zero]
            refine wpAnyH_take (i := 0) (v := ?v44x) rfl (by kernel_rfl) (by kernel_rfl) (by kernel_rfl) (fun _ _ _ h => h) (Or.inl ⟨by rfl, ?hy44x⟩) hS ?rest44x
            case hy44x => (intro w' hSw; (try dsimp only at hSw); go_simp; (try (with_reducible rfl)))
            (try simp only [Act.put, List.setIfInBounds_toArray, List.set_cons_zero, List.set_cons_succ, List.getElem_toArray, List.getElem_cons_succ, List.getElem_cons_zero])
            refine wpAnyH_take (i := 1) (v := ?v45x) rfl (by kernel_rfl) (by kernel_rfl) (by kernel_rfl) (fun _ _ _ h => h) (Or.inl ⟨by rfl, ?hy45x⟩) hS ?rest45x
            case hy45x => (intro w' hSw; (try dsimp only at hSw); go_simp; (try (with_reducible rfl)))
            (try simp only [Act.put, List.setIfInBounds_toArray, List.set_cons_zero, List.set_cons_succ, List.getElem_toArray, List.getElem_cons_succ, List.getElem_cons_zero])
            refine wpAnyH_take (i := 2) (v := ?v46x) rfl (by kernel_rfl) (by kernel_rfl) (by kernel_rfl) (fun _ _ _ h => h) (Or.inl ⟨by rfl, ?hy46x⟩) hS ?rest46x
            case hy46x => (intro w' hSw; (try dsimp only at hSw); go_simp; (try (with_reducible rfl)))
            (try simp only [Act.put, List.setIfInBounds_toArray, List.set_cons_zero, List.set_cons_succ, List.getElem_toArray, List.getElem_cons_succ, List.getElem_cons_zero])
            refine wpAnyH_take (i := 3) (v := ?v47x) rfl (by kernel_rfl) (by kernel_rfl) (by kernel_rfl) (fun _ _ _ h => h) (Or.inl ⟨by rfl, ?hy47x⟩) hS ?rest47x
            case hy47x => (intro w' hSw; (try dsimp only at hSw); go_simp; (try (with_reducible rfl)))
            (try simp only [Act.put, List.setIfInBounds_toArray, List.set_cons_zero, List.set_cons_succ, List.getElem_toArray, List.getElem_cons_succ, List.getElem_cons_zero])
            refine wpAnyH_take (i := 4) (v := ?v48x) rfl (by kernel_rfl) (by kernel_rfl) (by kernel_rfl) (fun _ _ _ h => h) (Or.inl ⟨by rfl, ?hy48x⟩) hS ?rest48x
            case hy48x => (intro w' hSw; (try dsimp only at hSw); go_simp; (try (with_reducible rfl)))
            (try simp only [Act.put, List.setIfInBounds_toArray, List.set_cons_zero, List.set_cons_succ, List.getElem_toArray, List.getElem_cons_succ, List.getElem_cons_zero])
            refine wpAnyH_take (i := 5) (v := ?v49x) rfl (by kernel_rfl) (by kernel_rfl) (by kernel_rfl) (fun _ _ _ h => h) (Or.inl ⟨by rfl, ?hy49x⟩) hS ?rest49x
            case hy49x => (intro w' hSw; (try dsimp only at hSw); go_simp; (try (with_reducible rfl)))
            (try simp only [Act.put, List.setIfInBounds_toArray, List.set_cons_zero, List.set_cons_succ, List.getElem_toArray, List.getElem_cons_succ, List.getElem_cons_zero])
            refine wpAnyH_take (i := 6) (v := ?v50x) rfl (by kernel_rfl) (by kernel_rfl) (by kernel_rfl) (fun _ _ _ h => h) (Or.inl ⟨by rfl, ?hy50x⟩) hS ?rest50x
            case hy50x => (intro w' hSw; (try dsimp only at hSw); go_simp; (try (with_reducible rfl)))
            (try simp only [Act.put, List.setIfInBounds_toArray, List.set_cons_zero, List.set_cons_succ, List.getElem_toArray, List.getElem_cons_succ, List.getElem_cons_zero])
            refine wpAnyH_take (i := 7) (v := ?v51x) rfl (by kernel_rfl) (by kernel_rfl) (by kernel_rfl) (fun _ _ _ h => h) (Or.inl ⟨by rfl, ?hy51x⟩) hS ?rest51x
            case hy51x => (intro w' hSw; (try dsimp only at hSw); go_simp; (try (with_reducible rfl)))
            (try simp only [Act.put, List.setIfInBounds_toArray, List.set_cons_zero, List.set_cons_succ, List.getElem_toArray, List.getElem_cons_succ, List.getElem_cons_zero])
            refine wpAnyH_ready (rs := [8]) (by kernel_rfl) (by simp) ?_
            refine AllReadyH.cons rfl (fun K hK => ?_) AllReadyH.nil
            (try dsimp only [List.getElem_toArray, List.getElem_cons_succ, List.getElem_cons_zero])
            (go_simp; (refine (del_any XLO gr xn xc 2 ((pushR (moreR yss q) q bo).getD r []) _ HRD.out (by omega) (by omega) (by omega)).mono ?_); rintro e u3 ⟨rfl, od, gd, zd⟩; dsimp only)
            have hgd : u4.grownBy u3 (some gr) := (grown_drew _).trans gd
            refine hK.out _ _ (HKe.out _ hgd) (fun hS9 => ?_)
            clear hK K hS; have hS := hS9; clear hS9; (try dsimp only at hS)
            (try simp only [Act.put, List.setIfInBounds_toArray, List.set_cons_zero, List.set_cons_succ, List.getElem_toArray, List.getElem_cons_succ, List.getElem_cons_zero])
            refine wpAnyH_take (i := 9) (v := ?v52x) rfl (by kernel_rfl) (by kernel_rfl) (by kernel_rfl) (fun _ _ _ h => h) (Or.inl ⟨by rfl, ?hy52x⟩) hS ?rest52x
            case hy52x => (intro w' hSw; (try dsimp only at hSw); go_simp; (try (with_reducible rfl)))
            (try simp only [Act.put, List.setIfInBounds_toArray, List.set_cons_zero, List.set_cons_succ, List.getElem_toArray, List.getElem_cons_succ, List.getElem_cons_zero])
            refine wpAnyH_done (by kernel_rfl) ?_ _
            refine fun K hK => ?_
            go_simp
            refine hK.out _ _ ?_
            clear hK K
            have HY9 := Lib.hid (HWu4.out.turn (y := (some ⟨gr, 0, none⟩, xn - 2, xc)) HX.out hgd od (fun k hk => .inl (by simpa [hdV, Value.ownBlock] using hk)))
            have HWu5 := Lib.hid HY9.out.1; have HBu5 := Lib.hid HY9.out.2
            have hzu5 := HBu5.out.size
            clear HY9 HKe HRD hbl HX od gd zd hgd
            have HS9 : Hid ((pushR (moreR yss q) q bo).set r (((pushR (moreR yss q) q bo).getD r []).drop 2) = shiftR yss r) := by
              unfold Hid shiftR
              rw [HG4.out, HQR.out, HBO.out]
            have HW9 := HWu5.out
            rw [HS9.out] at HW9
            have HW9 := Lib.hid HW9
            have HB9 := Lib.hid (((HBo.out.trans HBu3.out).trans HBu4.out).trans HBu5.out)
            have hrq9 : r < q := by have := HQR.out; omega
            clear N2' m3
            go_wp2_with fail
            go_roundw
            case rel => exact ⟨q, _, _, _, _, shiftR yss r, by first | rfl | (have := HQR.out; simp only [Value.int.injEq, true_and]; omega), HW9.out, HB9.out, HQ8.out, HZ8.out⟩
            case measure => simp [intOf]; omega
        · have hshort : longB yss r = false := by rw [HL.out]; exact decide_eq_false hl4
          have HZ9 : Hid (yss = zss) := by
            unfold Hid
            have h := HZ.out
            rw [show 8 - r = (7 - r) + 1 by omega] at h
            unfold addGo at h
            rw [if_neg (by rw [hshort]; simp)] at h
            exact h
          have hr8 : (r : Int) < 8 := by omega
          clear hshort
          clear o0
          have o0 := HWo.out.bcell
          have r0 : wo.cell? ⟨w.heap.size + 1, 0, none⟩ = some (.slice none 0 0) := (HBo.out.cell (p := ⟨w.heap.size + 1, 0, none⟩) (show w.heap.size + 1 < _ by omega)).trans HR0.out
          have fr0 : wo.frozen? ⟨w.heap.size + 1, 0, none⟩ = false := (HBo.out.frozen (p := ⟨w.heap.size + 1, 0, none⟩) (show w.heap.size + 1 < _ by omega)).trans HR1.out
          have hfin : ∀ w9, w9 = wo.setCell ⟨w.heap.size + 1, 0, none⟩ (.slice (some ⟨ga, 0, none⟩) n1 c1) → OwSS w.heap.size w9.heap.size w9 (some ⟨ga, 0, none⟩) n1 c1 g1 (iss (addR xss bit)) ∧ Below w.heap.size w w9 := by
            intro w9 h9
            subst h9
            rw [HAR.out, ← HZ9.out]
            exact ⟨HWo.out.fin (by omega) (by omega), Below.setCell (p := ⟨w.heap.size + 1, 0, none⟩) (HAc.out.trans (HBo.out.mono (by omega))) (by show w.heap.size ≤ w.heap.size + 1; omega) _⟩
          have HFin := Lib.hid hfin
          clear hfin
          go_wp2_with ((with_reducible refine bodyPost_ret (v := .tuple #[.agg #[.slice (some ⟨ga, 0, none⟩) n1 c1], .bool true]) ?k1 ?k2 ?k3); (case k1 => (simp [results, Try.results28, go_sem, r0, fr0])); (case k2 => rfl); (case k3 => (exact ⟨(some ⟨ga, 0, none⟩), n1, c1, g1, by rw [HDB.out], (HFin.out _ rfl).1, (HFin.out _ rfl).2⟩)))

end Go.Proofs.Ytnljlehbjdambaa
