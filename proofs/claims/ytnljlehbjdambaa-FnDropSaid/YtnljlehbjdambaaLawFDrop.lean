/-
  Proved: laws.FnDrop returns true for every list of bytes. Conditions: none.
-/
import Derived.Test.YtnljlehbjdambaaDropI
import Derived.Test.YtnljlehbjdambaaDrawX
import Derived.Test.YtnljlehbjdambaaAddP
import Derived.Test.YtnljlehbjdambaaObjB
import Derived.Test.YtnljlehbjdambaaOpen
import Derived.Test.YtnljlehbjdambaaWinSame
import Derived.Deep.DeepCutAuto
import Derived.BigQuiet
namespace Go.Proofs.Ytnljlehbjdambaa
open Go.ChangeShapes Go.WideShapes Go.ChangeAt Go.RowKit Go.Deep
namespace LawFDrop
set_option linter.unusedSimpArgs false
set_option linter.unusedVariables false
theorem u8wf {z : Int} (h : (Lit.int .u8 z).wf = true) : 0 ≤ z ∧ z ≤ 255 := by
  simp [Lit.wf, IntKind.min, IntKind.max, IntKind.bits, IntKind.signed] at h
  omega
theorem big_no (A : Option Addr) (n c : Nat) (w : World) (h : n ≤ 1048576) : Calls Try.prog 8 #[.slice A n c] w fun e w' => e = .returned (.bool false) ∧ w = w' := by
  go_enter Try.func8, Try.ntmps8
  go_wp2
  go_ret
  exact ⟨by simp; omega, rfl⟩
theorem big_yes (A : Option Addr) (n c : Nat) (w : World) (h : ¬ n ≤ 1048576) : Calls Try.prog 8 #[.slice A n c] w fun e w' => e = .returned (.bool true) ∧ w = w' := by
  go_enter Try.func8, Try.ntmps8
  go_wp2
  go_ret
  exact ⟨by simp; omega, rfl⟩

theorem totI_set (ys : List Int) : ∀ (xss : List (List Int)) (r : Nat), ys.length ≤ (xss.getD r []).length → totI (xss.set r ys) ≤ totI xss
  | [], r, _ => by simp
  | xs :: t, 0, h => by simp only [List.set_cons_zero, totI, List.map_cons, List.sum_cons, List.getD_cons_zero] at h ⊢; omega
  | xs :: t, r + 1, h => by
    have ih := totI_set ys t r (by simpa using h)
    simp only [List.set_cons_succ, totI, List.map_cons, List.sum_cons] at ih ⊢; omega
theorem totI_take (xss : List (List Int)) (j : Nat) : totI (xss.take j) ≤ totI xss := by
  unfold totI; rw [List.map_take]; exact sum_take_le _ _
theorem dropR_le (xss : List (List Int)) : totI (dropR xss) ≤ totI xss ∧ (dropR xss).length ≤ xss.length := by
  unfold dropR
  split
  · split
    · exact ⟨totI_take _ _, by rw [List.length_take]; omega⟩
    · exact ⟨totI_set _ _ _ (by unfold dropRow; rw [List.length_drop]; omega), by simp⟩
  · exact ⟨Nat.le_refl _, Nat.le_refl _⟩

theorem idrop2 (A : Option Addr) (n c : Nat) (hs : List Hd) (xss yss : List (List Int)) (z : Bool) (M : Nat) (hz : dropB xss = z) (hy : dropR xss = yss) (hM : yss.length = M) (w : World) (h : RdSS w A n hs (iss xss)) (hb : totI xss ≤ 1048576) (hn : n ≤ 1048576) (hwf : ∀ xs ∈ xss, ∀ x ∈ xs, -9223372036854775808 ≤ x ∧ x ≤ 9223372036854775807) :
    Calls Try.prog 19 #[.agg #[.slice A n c]] w fun e w' => ∃ A' c' hs', e = .returned (.tuple #[.agg #[.slice A' M c'], .bool z]) ∧ OwSS w.heap.size w'.heap.size w' A' M c' hs' (iss yss) ∧ Below w.heap.size w w' := by
  refine (iWindowDrop_any A n c hs xss w h hb hn hwf).mono ?_
  rintro e w' ⟨A', n', c', hs', rfl, o, b⟩
  have hl := o.len
  rw [iss_len, hy, hM] at hl
  subst hl hz hy
  exact ⟨A', c', hs', rfl, o, b⟩

theorem addwf (yss : List (List Int)) (h : winB yss = true) : ∀ xs ∈ yss, ∀ x ∈ xs, -9223372036854775808 ≤ x ∧ x ≤ 9223372036854775807 := bdR_wf (bdR_win h).1
set_option maxRecDepth 50000 in
set_option maxHeartbeats 8000000 in
theorem walkIn (w : World) (A : Option Addr) (n c : Nat) (xs : List Int) (hn : n ≤ 1048576) (HR : Hid (Rd w A n (xs.map (Value.int .u8)))) (HU : Hid (∀ z ∈ xs, 0 ≤ z ∧ z ≤ 255)) :
    Calls Try.prog 5 #[.slice A n c] w fun e w' => e = .returned (.bool true) ∧ Below w.heap.size w w' := by
  have B0 := Below.refl w.heap.size w
  have s0 : w.heap.size ≤ w.heap.size := Nat.le_refl _
  go_enter Try.func5, Try.ntmps5
  go_wp2_with fail
  refine (big_no A n c _ hn).mono ?_
  rintro e w1 ⟨rfl, rfl⟩
  go_wp2_with fail
  refine (sDrawWindowDrop_any A n c xs _ (HR.out.below B0 (Nat.le_refl _)) HU.out (by omega)).mono ?_
  rintro e w1 ⟨A1, n1, c1, g1, xss, rfl, hn9, hbq, o, b⟩
  have t_1 := b.size
  have z_1 : w.heap.size ≤ w1.heap.size := by omega
  have B_1 := B0.trans (b.mono (by omega))
  clear B0 b
  have x_1 := o
  clear o
  have HXL : Hid (xss.length = n1) := by have := x_1.len; rwa [iss_len] at this
  have ht : totI xss ≤ 1048576 := by have := bdQ_tot hbq; have := HXL.out; omega
  have HW := Lib.hid (bdQ_wf hbq)
  have n1b : n1 ≤ 1048576 := by omega
  clear hbq
  have x_3 := x_1.same (same_alloc (.cells #[.slice A1 n1 c1] 26) (by omega))
  clear x_1
  have w3_4 : Bx (w1.alloc (.cells #[.slice A1 n1 c1] 26)) (w1.heap.size) 26 #[.slice A1 n1 c1] := Bx.new _ _ _
  have B_4 := B_1.alloc z_1 (.cells #[.slice A1 n1 c1] 26)
  clear B_1
  have cw3_5 := w3_4.cells
  have fw3_5 := w3_4.free
  cases hw : winB xss
  · have HWin := Lib.hid hw
    have HD : Hid (dropB xss = false) := by unfold Hid dropB; rw [hw]; rfl
    have HDR : Hid (dropR xss = xss) := by unfold Hid dropR; rw [HD.out]; rfl
    clear hw
    go_wp2_with fail
    refine (idrop2 _ n1 _ _ xss xss false n1 HD.out HDR.out HXL.out _ x_3.rd ht n1b HW.out).mono ?_
    rintro e w2 ⟨A2, c2, g2, rfl, o, b⟩
    clear cw3_5 fw3_5
    simp only [World.size_alloc] at b o
    have t_6 := b.size
    simp only [World.size_alloc] at t_6
    have z_6 : w.heap.size ≤ w2.heap.size := by omega
    have x_7 := x_3.same (same_below b (by omega))
    clear x_3
    have w3_7 := w3_4.same (same_below b (by omega))
    clear w3_4
    have B_6 := B_4.trans (b.mono (by omega))
    clear B_4 b
    have y_6 := o
    clear o
    have cw3_8 := w3_7.cells
    have fw3_8 := w3_7.free
    clear cw3_8 fw3_8
    have x_9 := x_7.same (same_alloc (.cells #[.slice A2 n1 c2] 26) (by omega))
    clear x_7
    have w3_9 := w3_7.same (same_alloc (.cells #[.slice A2 n1 c2] 26) (by omega))
    clear w3_7
    have y_9 := y_6.same (same_alloc (.cells #[.slice A2 n1 c2] 26) (by omega))
    clear y_6
    have v4_10 : Bx (w2.alloc (.cells #[.slice A2 n1 c2] 26)) (w2.heap.size) 26 #[.slice A2 n1 c2] := Bx.new _ _ _
    have B_10 := B_6.alloc z_6 (.cells #[.slice A2 n1 c2] 26)
    clear B_6
    have cw3_11 := w3_9.cells
    have fw3_11 := w3_9.free
    have cv4_12 := v4_10.cells
    have fv4_12 := v4_10.free
    go_wp2_with fail
    refine (sWindowOk_any _ n1 _ _ xss _ x_9.rd ht n1b).mono ?_
    rw [HWin.out]
    rintro e w3 ⟨rfl, b⟩
    clear cw3_11 fw3_11
    clear cv4_12 fv4_12
    simp only [World.size_alloc] at b
    have t_13 := b.size
    simp only [World.size_alloc] at t_13
    have z_13 : w.heap.size ≤ w3.heap.size := by omega
    have x_14 := x_9.same (same_below b (by omega))
    clear x_9
    have w3_14 := w3_9.same (same_below b (by omega))
    clear w3_9
    have y_14 := y_9.same (same_below b (by omega))
    clear y_9
    have v4_14 := v4_10.same (same_below b (by omega))
    clear v4_10
    have B_13 := B_10.trans (b.mono (by omega))
    clear B_10 b
    have cw3_15 := w3_14.cells
    have fw3_15 := w3_14.free
    have cv4_16 := v4_14.cells
    have fv4_16 := v4_14.free
    go_wp2_with fail
    refine (sWindowSame_any _ _ n1 _ n1 _ _ _ xss xss _ y_14.rd x_14.rd ht ht n1b n1b).mono ?_
    rw [decide_eq_true (show xss = xss from rfl)]
    rintro e w4 ⟨rfl, b⟩
    clear cw3_15 fw3_15
    clear cv4_16 fv4_16
    have t_17 := b.size
    have z_17 : w.heap.size ≤ w4.heap.size := by omega
    have x_18 := x_14.same (same_below b (by omega))
    clear x_14
    have w3_18 := w3_14.same (same_below b (by omega))
    clear w3_14
    have y_18 := y_14.same (same_below b (by omega))
    clear y_14
    have v4_18 := v4_14.same (same_below b (by omega))
    clear v4_14
    have B_17 := B_13.trans (b.mono (by omega))
    clear B_13 b
    have cw3_19 := w3_18.cells
    have fw3_19 := w3_18.free
    have cv4_20 := v4_18.cells
    have fv4_20 := v4_18.free
    go_wp2_with fail
    go_ret
    exact ⟨rfl, B_17⟩
  · have HWin := Lib.hid hw
    clear hw
    by_cases hn0 : n1 = 0
    · have HD : Hid (dropB xss = false) := by unfold Hid dropB; rw [HWin.out, HXL.out, hn0]; rfl
      have HDR : Hid (dropR xss = xss) := by unfold Hid dropR; rw [HD.out]; rfl
      have hpb : ((n1 : Int) == 0) = true := by rw [hn0]; rfl
      have hpd : decide ((n1 : Int) = 0) = true := by rw [hn0]; rfl
      have hpi : (n1 : Int) = 0 := by omega
      have HN0 := Lib.hid hn0
      clear hn0 hpi
      go_wp2_with fail
      refine (idrop2 _ n1 _ _ xss xss false n1 HD.out HDR.out HXL.out _ x_3.rd ht n1b HW.out).mono ?_
      rintro e w2 ⟨A2, c2, g2, rfl, o, b⟩
      clear cw3_5 fw3_5
      simp only [World.size_alloc] at b o
      have t_6 := b.size
      simp only [World.size_alloc] at t_6
      have z_6 : w.heap.size ≤ w2.heap.size := by omega
      have x_7 := x_3.same (same_below b (by omega))
      clear x_3
      have w3_7 := w3_4.same (same_below b (by omega))
      clear w3_4
      have B_6 := B_4.trans (b.mono (by omega))
      clear B_4 b
      have y_6 := o
      clear o
      have cw3_8 := w3_7.cells
      have fw3_8 := w3_7.free
      clear cw3_8 fw3_8
      have x_9 := x_7.same (same_alloc (.cells #[.slice A2 n1 c2] 26) (by omega))
      clear x_7
      have w3_9 := w3_7.same (same_alloc (.cells #[.slice A2 n1 c2] 26) (by omega))
      clear w3_7
      have y_9 := y_6.same (same_alloc (.cells #[.slice A2 n1 c2] 26) (by omega))
      clear y_6
      have v4_10 : Bx (w2.alloc (.cells #[.slice A2 n1 c2] 26)) (w2.heap.size) 26 #[.slice A2 n1 c2] := Bx.new _ _ _
      have B_10 := B_6.alloc z_6 (.cells #[.slice A2 n1 c2] 26)
      clear B_6
      have cw3_11 := w3_9.cells
      have fw3_11 := w3_9.free
      have cv4_12 := v4_10.cells
      have fv4_12 := v4_10.free
      go_wp2_with fail
      refine (sWindowOk_any _ n1 _ _ xss _ x_9.rd ht n1b).mono ?_
      rw [HWin.out]
      rintro e w3 ⟨rfl, b⟩
      clear cw3_11 fw3_11
      clear cv4_12 fv4_12
      simp only [World.size_alloc] at b
      have t_13 := b.size
      simp only [World.size_alloc] at t_13
      have z_13 : w.heap.size ≤ w3.heap.size := by omega
      have x_14 := x_9.same (same_below b (by omega))
      clear x_9
      have w3_14 := w3_9.same (same_below b (by omega))
      clear w3_9
      have y_14 := y_9.same (same_below b (by omega))
      clear y_9
      have v4_14 := v4_10.same (same_below b (by omega))
      clear v4_10
      have B_13 := B_10.trans (b.mono (by omega))
      clear B_10 b
      have cw3_15 := w3_14.cells
      have fw3_15 := w3_14.free
      have cv4_16 := v4_14.cells
      have fv4_16 := v4_14.free
      go_wp2_with fail
      refine (sWindowSame_any _ _ n1 _ n1 _ _ _ xss xss _ y_14.rd x_14.rd ht ht n1b n1b).mono ?_
      rw [decide_eq_true (show xss = xss from rfl)]
      rintro e w4 ⟨rfl, b⟩
      clear cw3_15 fw3_15
      clear cv4_16 fv4_16
      have t_17 := b.size
      have z_17 : w.heap.size ≤ w4.heap.size := by omega
      have x_18 := x_14.same (same_below b (by omega))
      clear x_14
      have w3_18 := w3_14.same (same_below b (by omega))
      clear w3_14
      have y_18 := y_14.same (same_below b (by omega))
      clear y_14
      have v4_18 := v4_14.same (same_below b (by omega))
      clear v4_14
      have B_17 := B_13.trans (b.mono (by omega))
      clear B_13 b
      have cw3_19 := w3_18.cells
      have fw3_19 := w3_18.free
      have cv4_20 := v4_18.cells
      have fv4_20 := v4_18.free
      go_wp2_with fail
      go_ret
      exact ⟨rfl, B_17⟩
    · have HD : Hid (dropB xss = true) := by unfold Hid dropB; rw [HWin.out, HXL.out, decide_eq_true (by omega)]; rfl
      have hpb : ((n1 : Int) == 0) = false := beq_false_of_ne (by omega)
      have hpd : decide ((n1 : Int) = 0) = false := decide_eq_false (by omega)
      have hpn : ¬ (n1 : Int) = 0 := by omega
      obtain ⟨yss, hy⟩ : ∃ yss, dropR xss = yss := ⟨_, rfl⟩
      have hwy := dropR_win HD.out
      have hbk := dropR_bk HD.out
      have hle := dropR_le xss
      rw [hy] at hwy hbk hle
      obtain ⟨M, hM⟩ : ∃ M, yss.length = M := ⟨_, rfl⟩
      have hbp := bk_pos HWin.out (by have := HXL.out; omega)
      have hb24 := bk_len xss
      obtain ⟨al, has⟩ : ∃ al, bucketsL xss = al := ⟨_, rfl⟩
      rw [has] at hbk hbp hb24
      obtain ⟨N, hN⟩ : ∃ N, al.length = N + 1 := ⟨al.length - 1, by omega⟩
      have hN2 : (al.drop 1).length = N := by rw [List.length_drop, hN]; rfl
      have hN24 : N ≤ 24 := by omega
      have ht2 : totI yss ≤ 1048576 := by omega
      have hMb : M ≤ 1048576 := by have := HXL.out; omega
      have HWy2 := Lib.hid (addwf yss hwy)
      have HY := Lib.hid hy; have HM := Lib.hid hM; have HWy := Lib.hid hwy; have HBk := Lib.hid hbk; have HAs := Lib.hid has; have HN := Lib.hid hN; have HN2 := Lib.hid hN2
      clear hy hwy hbk hle hM has hN hN2 hbp hb24 hn0
      go_wp2_with fail
      refine (idrop2 _ n1 _ _ xss yss true M HD.out HY.out HM.out _ x_3.rd ht n1b HW.out).mono ?_
      rintro e w2 ⟨A2, c2, g2, rfl, o, b⟩
      clear cw3_5 fw3_5
      simp only [World.size_alloc] at b o
      have t_6 := b.size
      simp only [World.size_alloc] at t_6
      have z_6 : w.heap.size ≤ w2.heap.size := by omega
      have x_7 := x_3.same (same_below b (by omega))
      clear x_3
      have w3_7 := w3_4.same (same_below b (by omega))
      clear w3_4
      have B_6 := B_4.trans (b.mono (by omega))
      clear B_4 b
      have y_6 := o
      clear o
      have cw3_8 := w3_7.cells
      have fw3_8 := w3_7.free
      clear cw3_8 fw3_8
      have x_9 := x_7.same (same_alloc (.cells #[.slice A2 M c2] 26) (by omega))
      clear x_7
      have w3_9 := w3_7.same (same_alloc (.cells #[.slice A2 M c2] 26) (by omega))
      clear w3_7
      have y_9 := y_6.same (same_alloc (.cells #[.slice A2 M c2] 26) (by omega))
      clear y_6
      have v4_10 : Bx (w2.alloc (.cells #[.slice A2 M c2] 26)) (w2.heap.size) 26 #[.slice A2 M c2] := Bx.new _ _ _
      have B_10 := B_6.alloc z_6 (.cells #[.slice A2 M c2] 26)
      clear B_6
      have cw3_11 := w3_9.cells
      have fw3_11 := w3_9.free
      have cv4_12 := v4_10.cells
      have fv4_12 := v4_10.free
      go_wp2_with fail
      refine (sWindowOk_any _ n1 _ _ xss _ x_9.rd ht n1b).mono ?_
      rw [HWin.out]
      rintro e w3 ⟨rfl, b⟩
      clear cw3_11 fw3_11
      clear cv4_12 fv4_12
      simp only [World.size_alloc] at b
      have t_13 := b.size
      simp only [World.size_alloc] at t_13
      have z_13 : w.heap.size ≤ w3.heap.size := by omega
      have x_14 := x_9.same (same_below b (by omega))
      clear x_9
      have w3_14 := w3_9.same (same_below b (by omega))
      clear w3_9
      have y_14 := y_9.same (same_below b (by omega))
      clear y_9
      have v4_14 := v4_10.same (same_below b (by omega))
      clear v4_10
      have B_13 := B_10.trans (b.mono (by omega))
      clear B_10 b
      have cw3_15 := w3_14.cells
      have fw3_15 := w3_14.free
      have cv4_16 := v4_14.cells
      have fv4_16 := v4_14.free
      go_wp2_with fail
      refine (iBuckets2 _ n1 _ _ xss al (N + 1) _ HAs.out HN.out x_14.rd ht n1b HW.out).mono ?_
      rintro e w4 ⟨A6, c6, rfl, o, b⟩
      clear cw3_15 fw3_15
      clear cv4_16 fv4_16
      have t_17 := b.size
      have z_17 : w.heap.size ≤ w4.heap.size := by omega
      have x_18 := x_14.same (same_below b (by omega))
      clear x_14
      have w3_18 := w3_14.same (same_below b (by omega))
      clear w3_14
      have y_18 := y_14.same (same_below b (by omega))
      clear y_14
      have v4_18 := v4_14.same (same_below b (by omega))
      clear v4_14
      have B_17 := B_13.trans (b.mono (by omega))
      clear B_13 b
      have a_17 := Ow2.of o
      clear o
      have cw3_19 := w3_18.cells
      have fw3_19 := w3_18.free
      have cv4_20 := v4_18.cells
      have fv4_20 := v4_18.free
      go_wp2_with fail
      refine (iBuckets2 _ M _ _ yss (al.drop 1) N _ HBk.out HN2.out y_18.rd ht2 hMb HWy2.out).mono ?_
      rintro e w5 ⟨A7, c7, rfl, o, b⟩
      clear cw3_19 fw3_19
      clear cv4_20 fv4_20
      have t_21 := b.size
      have z_21 : w.heap.size ≤ w5.heap.size := by omega
      have x_22 := x_18.same (same_below b (by omega))
      clear x_18
      have w3_22 := w3_18.same (same_below b (by omega))
      clear w3_18
      have y_22 := y_18.same (same_below b (by omega))
      clear y_18
      have v4_22 := v4_18.same (same_below b (by omega))
      clear v4_18
      have a_22 := a_17.same (same_below b (by omega))
      clear a_17
      have B_21 := B_17.trans (b.mono (by omega))
      clear B_17 b
      have bb_21 := Ow2.of o
      clear o
      have cw3_23 := w3_22.cells
      have fw3_23 := w3_22.free
      have cv4_24 := v4_22.cells
      have fv4_24 := v4_22.free
      go_wp2_with fail
      refine (iWindowOk_any _ M _ _ yss _ y_22.rd ht2 hMb HWy2.out).mono ?_
      rw [HWy.out]
      rintro e w6 ⟨rfl, b⟩
      clear cw3_23 fw3_23
      clear cv4_24 fv4_24
      have t_25 := b.size
      have z_25 : w.heap.size ≤ w6.heap.size := by omega
      have x_26 := x_22.same (same_below b (by omega))
      clear x_22
      have w3_26 := w3_22.same (same_below b (by omega))
      clear w3_22
      have y_26 := y_22.same (same_below b (by omega))
      clear y_22
      have v4_26 := v4_22.same (same_below b (by omega))
      clear v4_22
      have a_26 := a_22.same (same_below b (by omega))
      clear a_22
      have bb_26 := bb_21.same (same_below b (by omega))
      clear bb_21
      have B_25 := B_21.trans (b.mono (by omega))
      clear B_21 b
      have cw3_27 := w3_26.cells
      have fw3_27 := w3_26.free
      have cv4_28 := v4_26.cells
      have fv4_28 := v4_26.free
      have HRa := Lib.hid a_26.rd; have HRb := Lib.hid bb_26.rd; have HAc := Lib.hid B_25
      have m1 : ((N + 1 : Nat) : Int) - 1 = (N : Int) := by omega
      have m2 : IntKind.i64.wrap ((N : Int) + 1 - 1) = (N : Int) := by rw [show (N : Int) + 1 - 1 = (N : Int) by omega]; exact IntWalk.i64_in _ (by omega)
      have m3 : (N : Int) + 1 - 1 = (N : Int) := by omega
      go_wp2_with fail
      clear cw3_27 fw3_27 cv4_28 fv4_28 m1 m2 m3
      go_loopw [8] (fun si wr => ∃ j : Nat, j ≤ N ∧ si = .int .i64 j ∧ Below w6.heap.size w6 wr) (fun si _ => N - (intOf si).toNat)
      case atStart => exact ⟨0, Nat.zero_le _, rfl, Below.refl _ _⟩
      case round =>
        obtain ⟨j, hj, rfl, hbel⟩ := hrel
        obtain ⟨wo, rfl⟩ : ∃ wo : World, wo = wr := ⟨_, rfl⟩
        have HBel := Lib.hid hbel
        have HRa2 := Lib.hid (HRa.out.below hbel (Nat.le_refl _)); have HRb2 := Lib.hid (HRb.out.below hbel (Nat.le_refl _))
        have HB9 := Lib.hid (HAc.out.trans (hbel.mono (by omega)))
        clear hbel
        by_cases hlt : j < N
        · obtain ⟨b0, hb0⟩ : ∃ b, al[j + 1]? = some b := ⟨_, List.getElem?_eq_getElem (by have := HN.out; omega)⟩
          obtain ⟨k1, k2⟩ := bcells_get (bs := al) hb0
          obtain ⟨k3, k4⟩ := bcells_get (bs := al.drop 1) (k := j) (b := b0) (by rw [List.getElem?_drop, Nat.add_comm]; exact hb0)
          obtain ⟨ba, offa, rfl, hbl1, hc1⟩ := HRa2.out.ex (by omega)
          obtain ⟨bb, offb, rfl, hbl2, hc2⟩ := HRb2.out.ex (by omega)
          have q1 := hc1 _ _ k1; have q2 := hc1 _ _ k2; have q3 := hc2 _ _ k3; have q4 := hc2 _ _ k4
          rw [← Nat.add_assoc] at q2 q4
          have j0 : (0 : Int) ≤ (j : Int) := Int.natCast_nonneg _
          have j1 : (j : Int) < (N : Int) := by omega
          have e1 : IntKind.i64.wrap ((j : Int) + 1) = (j : Int) + 1 := IntWalk.i64_in _ (by omega)
          have e2 : ((j : Int) + 1).toNat = j + 1 := by omega
          have e3 : (0 : Int) ≤ (j : Int) + 1 := by omega
          have e4 : (j : Int) + 1 < ((N + 1 : Nat) : Int) := by omega
          have e5 : (j : Int) + 1 < (N : Int) + 1 := by omega
          clear k1 k2 k3 k4 hc1 hc2 hb0
          go_wp2_with fail
          go_quiet (fail)
          go_wp2_with fail
          go_roundw
          case rel => exact ⟨j + 1, by omega, by go_num, HBel.out.trans ⟨rfl, rfl, rfl, Nat.le_refl _, fun _ _ => rfl⟩⟩
          case measure => simp [intOf]; omega
        · obtain rfl : N = j := by omega
          go_wp2_with fail
          go_ret
          exact ⟨rfl, HB9.out⟩

theorem walk (w : World) (A : Option Addr) (n c : Nat) (xs : List Int) (hl : n ≤ c) (hm : c ≤ maxLen) (hr : Rd w A n (xs.map (Value.int .u8))) (hu : ∀ z ∈ xs, (Lit.int .u8 z).wf = true) :
    Calls Try.prog 5 #[.slice A n c] w fun e w' => e = .returned (.bool true) ∧ Below w.heap.size w w' := by
  unfold maxLen at hm
  have HR := Lib.hid hr
  have HU : Hid (∀ z ∈ xs, 0 ≤ z ∧ z ≤ 255) := fun z hz => u8wf (hu z hz)
  clear hr hu
  by_cases hn : n ≤ 1048576
  · exact walkIn w A n c xs hn HR HU
  · go_enter Try.func5, Try.ntmps5
    go_wp2_with fail
    refine (big_yes A n c w hn).mono ?_
    rintro e _ ⟨rfl, rfl⟩
    go_wp2_with fail
    go_ret
    exact ⟨rfl, Below.refl _ _⟩

set_option maxRecDepth 100000 in
theorem walks : Walks 5 Try.f5 := by
  intro H enc W base args ds ps hval hA _
  rw [Try.params5] at hA hval
  obtain ⟨v0, vs0, d0, ds0, p0, q0, hargs, rfl, rfl, h0, r0⟩ := trodAll_cons hA
  obtain ⟨rfl, rfl, rfl⟩ := trodAll_nil r0
  obtain rfl : args = #[v0] := by cases args; simp_all
  obtain ⟨f0, y0, z0⟩ := slice_cell Try.underlying22 (hval 0 22 v0 rfl rfl) h0
  obtain ⟨A0, n0, c0, a0, rfl, hl0, hm0, hr0, w0⟩ := open_ints_rd Try.underlying22 (by kernel_rfl) Try.underlying5 z0
  exact walk (w := W) A0 n0 c0 a0 hl0 hm0 hr0 w0

set_option maxRecDepth 100000 in
theorem lifted (os : Os) (started : os.Started) (H : Type) (enc : TypeId × Value → H) :
    ReturnsInHanded {} Try.checked os 5 .any (Rows.fnDropSpec.pre6 enc Try.prog Try.f5 Rows.fnDropRow.domain false) (Rows.fnDropSpec.post enc Try.prog Try.f5 false true false false) :=
  law_lifted started (by kernel_rfl) Try.func5
    (ChangeSpec.witness6 (enc := enc) (C := Try.checked) false ⟨#[], #[.slice none 0 0], []⟩ 8 (by kernel_rfl) (by kernel_rfl) (by kernel_rfl) (by kernel_rfl))
    rfl rfl Try.underlying4 (fun ds h => match ds, h with | [_], _ => rfl) (by
      rw [Try.params5]
      intro t ht
      simp only [List.mem_cons, List.not_mem_nil, or_false] at ht
      subst ht
      exact ⟨by kernel_rfl, of_decide_eq_true (by kernel_rfl)⟩) walks

theorem over : Rows.fnDropRow.holds Try.pinned (OpenSpec.ofChange Rows.fnDropSpec) :=
  OpenClaim.holds_of_wide 5 Try.f5 rfl rfl rfl rfl rfl rfl rfl ⟨rfl, rfl, rfl, rfl, rfl⟩ rfl rfl rfl rfl rfl (by kernel_rfl) Try.func5 (by kernel_rfl)
    (of_decide_eq_true (by kernel_rfl)) (by unfold Func.isWrapper; first | (rw [if_pos (by decide +kernel)]; kernel_rfl) | (rw [if_neg (by decide +kernel)]; exact ⟨rfl, rfl⟩))
    (fun os started H enc _ => lifted os started H enc)

theorem proved : Rows.FnDropSaid := over
#print axioms proved

end LawFDrop
end Go.Proofs.Ytnljlehbjdambaa
