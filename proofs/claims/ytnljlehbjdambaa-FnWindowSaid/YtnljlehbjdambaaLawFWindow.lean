/-
  Proved: laws.FnWindow returns true for every list of bytes. Conditions: none.
-/
import Derived.Test.YtnljlehbjdambaaAddI
import Derived.Test.YtnljlehbjdambaaDrawY
import Derived.Test.YtnljlehbjdambaaAddP
import Derived.Test.YtnljlehbjdambaaObjB
import Derived.Test.YtnljlehbjdambaaOpen
import Derived.Test.YtnljlehbjdambaaWinSame
import Derived.Deep.DeepCutAuto
import Derived.Deep.CutBlock
import Derived.BigQuiet
import Derived.Lib.QuietBelow
namespace Go.Proofs.Ytnljlehbjdambaa
open Go.ChangeShapes Go.WideShapes Go.ChangeAt Go.RowKit Go.Deep
namespace LawFWindow
open Go.Sort
set_option linter.unusedSimpArgs false
set_option linter.unusedVariables false
theorem u8wf {z : Int} (h : (Lit.int .u8 z).wf = true) : 0 ≤ z ∧ z ≤ 255 := by
  simp [Lit.wf, IntKind.min, IntKind.max, IntKind.bits, IntKind.signed] at h
  omega
theorem big_no (A : Option Addr) (n c : Nat) (w : World) (h : n ≤ 1048576) : Calls Try.prog 8 #[.slice A n c] w fun e w' => e = .returned (.bool false) ∧ w = w' := by
  go_enter Try.func8, Try.ntmps8
  go_wp2
  go_ret
  exact ⟨by simp; omega, rfl⟩
theorem big_yes (A : Option Addr) (n c : Nat) (w : World) (h : ¬ n ≤ 1048576) : Calls Try.prog 8 #[.slice A n c] w fun e w' => e = .returned (.bool true) ∧ w = w' := by
  go_enter Try.func8, Try.ntmps8
  go_wp2
  go_ret
  exact ⟨by simp; omega, rfl⟩

theorem totI_le : ∀ (xss : List (List Int)), (∀ xs ∈ xss, xs.length ≤ 3) → totI xss ≤ 3 * xss.length
  | [], _ => by simp [totI]
  | xs :: t, h => by
    have ih := totI_le t fun x hx => h x (by simp [hx])
    have h1 := h xs (by simp)
    simp only [totI, List.map_cons, List.sum_cons, List.length_cons] at ih ⊢; omega
theorem win_tot {xss : List (List Int)} (h : winB xss = true) : totI xss ≤ 24 ∧ xss.length ≤ 8 := by
  have h8 := winB_len h
  have h1 := totI_le xss fun xs hx => by
    obtain ⟨j, hj⟩ := List.getElem?_of_mem hx
    exact (rowB_len (winB_row h hj)).2
  omega
theorem addR_le (xss : List (List Int)) (bit : Int) : totI (addR xss bit) ≤ max (totI xss) 24 ∧ (addR xss bit).length ≤ max xss.length 8 := by
  cases h : addB xss bit
  · unfold addR; rw [h, if_neg (by simp)]; omega
  · have := win_tot (addR_win h); omega

theorem iadd2 (A : Option Addr) (n c : Nat) (hs : List Hd) (xss yss : List (List Int)) (z : Bool) (M : Nat) (bit : Int) (hz : addB xss bit = z) (hy : addR xss bit = yss) (hM : yss.length = M) (w : World) (h : RdSS w A n hs (iss xss)) (hb : totI xss ≤ 1048576) (hn : n ≤ 1048576) (hwf : ∀ xs ∈ xss, ∀ x ∈ xs, -9223372036854775808 ≤ x ∧ x ≤ 9223372036854775807) :
    Calls Try.prog 28 #[.agg #[.slice A n c], .int .i64 bit] w fun e w' => ∃ A' c' hs', e = .returned (.tuple #[.agg #[.slice A' M c'], .bool z]) ∧ OwSS w.heap.size w'.heap.size w' A' M c' hs' (iss yss) ∧ Below w.heap.size w w' := by
  refine (iWindowAdd_any A n c hs xss bit w h hb hn hwf).mono ?_
  rintro e w' ⟨A', n', c', hs', rfl, o, b⟩
  have hl := o.len
  rw [iss_len, hy, hM] at hl
  subst hl hz hy
  exact ⟨A', c', hs', rfl, o, b⟩

theorem wT_nn2 : ∀ (xss : List (List Int)) (k : Nat), 0 ≤ wT k xss
  | [], _ => Int.le_refl _
  | xs :: t, k => by
    have h1 := wT_nn2 t (k + 1)
    have h2 : 0 ≤ pw k * (xs.length : Int) := Int.mul_nonneg (by unfold pw; exact Int.natCast_nonneg _) (Int.natCast_nonneg _)
    simp only [wT]; omega
theorem wT_row2 : ∀ (xss : List (List Int)) (k r : Nat), r < xss.length → 1 ≤ (xss.getD r []).length → pw (k + r) ≤ wT k xss
  | [], k, r, h, _ => by simp at h
  | xs :: t, k, 0, _, h => by
    have h1 := wT_nn2 t (k + 1)
    have h2 : pw k * 1 ≤ pw k * (xs.length : Int) := Int.mul_le_mul_of_nonneg_left (by simp at h; omega) (by unfold pw; exact Int.natCast_nonneg _)
    simp only [wT, Nat.add_zero]; omega
  | xs :: t, k, r + 1, hr, h => by
    have h1 := wT_row2 t (k + 1) r (by simpa using hr) (by simpa using h)
    have h2 : 0 ≤ pw k * (xs.length : Int) := Int.mul_nonneg (by unfold pw; exact Int.natCast_nonneg _) (Int.natCast_nonneg _)
    rw [show k + (r + 1) = k + 1 + r by omega]
    simp only [wT]; omega
theorem wT_big {xss : List (List Int)} (h : winB xss = true) (h8 : xss.length = 8) : 128 ≤ wT 0 xss := by
  have hl : 7 < xss.length := by omega
  have := wT_row2 xss 0 7 hl (rowB_len (winB_row h (getD_of hl))).1
  have e : pw (0 + 7) = 128 := rfl
  omega
set_option maxRecDepth 50000 in
set_option maxHeartbeats 8000000 in
theorem walkIn (w : World) (A : Option Addr) (n c : Nat) (xs : List Int) (hn : n ≤ 1048576) (HR : Hid (Rd w A n (xs.map (Value.int .u8)))) (HU : Hid (∀ z ∈ xs, 0 ≤ z ∧ z ≤ 255)) :
    Calls Try.prog 7 #[.slice A n c] w fun e w' => e = .returned (.bool true) ∧ Below w.heap.size w w' := by
  have B0 := Below.refl w.heap.size w
  have s0 : w.heap.size ≤ w.heap.size := Nat.le_refl _
  go_enter Try.func7, Try.ntmps7
  go_wp2_with fail
  refine (big_no A n c _ hn).mono ?_
  rintro e w1 ⟨rfl, rfl⟩
  go_wp2_with fail
  refine (sDrawWindowAdd_any A n c xs _ (HR.out.below B0 (Nat.le_refl _)) HU.out (by omega)).mono ?_
  rintro e w1 ⟨A1, n1, c1, g1, xss, bit, rfl, hn9, hbq, hbit, o, b⟩
  have t_1 := b.size
  have z_1 : w.heap.size ≤ w1.heap.size := by omega
  have B_1 := B0.trans (b.mono (by omega))
  clear B0 b
  have x_1 := o
  clear o
  have HXL : Hid (xss.length = n1) := by have := x_1.len; rwa [iss_len] at this
  have ht : totI xss ≤ 1048576 := by have := bdQ_tot hbq; have := HXL.out; omega
  have HW := Lib.hid (bdQ_wf hbq)
  have n1b : n1 ≤ 1048576 := by omega
  obtain ⟨z, hz⟩ : ∃ z, addB xss bit = z := ⟨_, rfl⟩
  obtain ⟨yss, hy⟩ : ∃ yss, addR xss bit = yss := ⟨_, rfl⟩
  obtain ⟨M, hM⟩ : ∃ M, yss.length = M := ⟨_, rfl⟩
  have hle := addR_le xss bit
  rw [hy, hM, HXL.out] at hle
  obtain ⟨hle1, hle2⟩ := hle
  have ht2 : totI yss ≤ 1048576 := by omega
  have hMb : M ≤ 1048576 := by omega
  obtain ⟨wb, hwb⟩ : ∃ b, winB xss = b := ⟨_, rfl⟩
  have hzz : z = (wb && inB bit 0 1) := by rw [← hz, ← hwb]; rfl
  have HD := Lib.hid hz; have HY := Lib.hid hy; have HM := Lib.hid hM; have HWB := Lib.hid hwb; have HZZ := Lib.hid hzz
  clear hbq hz hy hM hle1 hle2 hwb hzz
  have x_3 := x_1.same (same_alloc (.cells #[.slice A1 n1 c1] 26) (by omega))
  clear x_1
  have w3_4 : Bx (w1.alloc (.cells #[.slice A1 n1 c1] 26)) (w1.heap.size) 26 #[.slice A1 n1 c1] := Bx.new _ _ _
  have B_4 := B_1.alloc z_1 (.cells #[.slice A1 n1 c1] 26)
  clear B_1
  have cw3_5 := w3_4.cells
  have fw3_5 := w3_4.free
  go_wp2_with fail
  refine (iadd2 _ n1 _ _ xss yss z M bit HD.out HY.out HM.out _ x_3.rd ht n1b HW.out).mono ?_
  rintro e w2 ⟨A2, c2, g2, rfl, o, b⟩
  clear cw3_5 fw3_5
  simp only [World.size_alloc] at b o
  have t_6 := b.size
  simp only [World.size_alloc] at t_6
  have z_6 : w.heap.size ≤ w2.heap.size := by omega
  have x_7 := x_3.same (same_below b (by omega))
  clear x_3
  have w3_7 := w3_4.same (same_below b (by omega))
  clear w3_4
  have B_6 := B_4.trans (b.mono (by omega))
  clear B_4 b
  have y_6 := o
  clear o
  have cw3_8 := w3_7.cells
  have fw3_8 := w3_7.free
  clear cw3_8 fw3_8
  have x_9 := x_7.same (same_alloc (.cells #[.slice A2 M c2] 26) (by omega))
  clear x_7
  have w3_9 := w3_7.same (same_alloc (.cells #[.slice A2 M c2] 26) (by omega))
  clear w3_7
  have y_9 := y_6.same (same_alloc (.cells #[.slice A2 M c2] 26) (by omega))
  clear y_6
  have v5_10 : Bx (w2.alloc (.cells #[.slice A2 M c2] 26)) (w2.heap.size) 26 #[.slice A2 M c2] := Bx.new _ _ _
  have B_10 := B_6.alloc z_6 (.cells #[.slice A2 M c2] 26)
  clear B_6
  have cw3_11 := w3_9.cells
  have fw3_11 := w3_9.free
  have cv5_12 := v5_10.cells
  have fv5_12 := v5_10.free
  go_upto_region 5 with fail
  clear cw3_11 fw3_11
  clear cv5_12 fv5_12
  obtain ⟨vb13, hvb13⟩ : ∃ vb13, vb13 = (w2.alloc (.cells #[.slice A2 M c2] 26)) := ⟨_, rfl⟩
  have zvb13 : w2.heap.size + 1 ≤ vb13.heap.size := by rw [hvb13]; simp
  rw [← hvb13] at x_9 w3_9 y_9 v5_10 B_10 ⊢
  clear hvb13
  skip
  have HA_14 := Lib.hid B_10
  go_cut [37] (fun s37 wx => s37 = .bool false ∧ Below vb13.heap.size vb13 wx)
  case first =>
    have c3 := w3_9.cells 0
    simp at c3
    cases wb
    · obtain rfl : z = false := by rw [HZZ.out]; rfl
      go_wp2_with fail
      refine (sWindowOk_any A1 n1 c1 g1 xss _ x_9.rd ht n1b).mono ?_
      rw [HWB.out]
      rintro e w' ⟨rfl, b9⟩
      go_wp2_with fail
      go_meet
      exact ⟨rfl, b9⟩
    · by_cases hb0 : bit = 0
      · obtain rfl : z = true := by rw [HZZ.out, hb0]; rfl
        have k0 : (bit == 0) = true := by rw [hb0]; rfl
        have d0 : decide (bit = 0) = true := decide_eq_true hb0
        clear hb0
        go_wp2_with fail
        refine (sWindowOk_any A1 n1 c1 g1 xss _ x_9.rd ht n1b).mono ?_
        rw [HWB.out]
        rintro e w' ⟨rfl, b9⟩
        go_wp2_with fail
        go_meet
        exact ⟨rfl, b9⟩
      · by_cases hb1 : bit = 1
        · obtain rfl : z = true := by rw [HZZ.out, hb1]; rfl
          have k0 : (bit == 0) = false := beq_false_of_ne hb0
          have d0 : decide (bit = 0) = false := decide_eq_false hb0
          have k1 : (bit == 1) = true := by rw [hb1]; rfl
          have d1 : decide (bit = 1) = true := decide_eq_true hb1
          clear hb1
          go_wp2_with fail
          refine (sWindowOk_any A1 n1 c1 g1 xss _ x_9.rd ht n1b).mono ?_
          rw [HWB.out]
          rintro e w' ⟨rfl, b9⟩
          go_wp2_with fail
          go_meet
          exact ⟨rfl, b9⟩
        · obtain rfl : z = false := by rw [HZZ.out, inB_no (by omega)]; rfl
          have k0 : (bit == 0) = false := beq_false_of_ne hb0
          have d0 : decide (bit = 0) = false := decide_eq_false hb0
          have k1 : (bit == 1) = false := beq_false_of_ne hb1
          have d1 : decide (bit = 1) = false := decide_eq_false hb1
          go_wp2_with fail
          refine (sWindowOk_any A1 n1 c1 g1 xss _ x_9.rd ht n1b).mono ?_
          rw [HWB.out]
          rintro e w' ⟨rfl, b9⟩
          go_wp2_with fail
          go_meet
          exact ⟨rfl, b9⟩
  obtain ⟨rfl, bc_14⟩ := hcut
  obtain ⟨w3, rfl⟩ : ∃ w3 : World, w3 = wc := ⟨_, rfl⟩
  have t_14 := bc_14.size
  have z_14 : w.heap.size ≤ w3.heap.size := by omega
  have x_15 := x_9.same (same_below bc_14 (by omega))
  clear x_9
  have w3_15 := w3_9.same (same_below bc_14 (by omega))
  clear w3_9
  have y_15 := y_9.same (same_below bc_14 (by omega))
  clear y_9
  have v5_15 := v5_10.same (same_below bc_14 (by omega))
  clear v5_10
  have B_14 := B_10.trans (bc_14.mono (by omega))
  clear B_10 bc_14 HA_14
  have cw3_16 := w3_15.cells
  have fw3_16 := w3_15.free
  have cv5_17 := v5_15.cells
  have fv5_17 := v5_15.free
  cases z
  · have HSame : Hid (yss = xss) := by unfold Hid; rw [← HY.out]; unfold addR; rw [HD.out]; rfl
    go_wp2_with fail
    refine (sWindowSame_any _ _ M _ n1 _ _ _ yss xss _ y_15.rd x_15.rd ht2 ht hMb n1b).mono ?_
    rw [decide_eq_true HSame.out]
    rintro e w4 ⟨rfl, b⟩
    clear cw3_16 fw3_16
    clear cv5_17 fv5_17
    have t_18 := b.size
    have z_18 : w.heap.size ≤ w4.heap.size := by omega
    have x_19 := x_15.same (same_below b (by omega))
    clear x_15
    have w3_19 := w3_15.same (same_below b (by omega))
    clear w3_15
    have y_19 := y_15.same (same_below b (by omega))
    clear y_15
    have v5_19 := v5_15.same (same_below b (by omega))
    clear v5_15
    have B_18 := B_14.trans (b.mono (by omega))
    clear B_14 b
    have cw3_20 := w3_19.cells
    have fw3_20 := w3_19.free
    have cv5_21 := v5_19.cells
    have fv5_21 := v5_19.free
    go_wp2_with fail
    go_ret
    exact ⟨rfl, B_18⟩
  · have hwin : winB xss = true := by
      have := HD.out
      unfold addB at this
      exact (Bool.and_eq_true _ _ ▸ this).1
    have hwy : winB yss = true := by rw [← HY.out]; exact addR_win HD.out
    have htt := addR_tot HD.out
    rw [HY.out, HXL.out, ← (bk_sum hwin).1, ← (bk_sum hwin).2, ← (bk_sum hwy).1, ← (bk_sum hwy).2] at htt
    have hord := bk_ord hwy
    have hpos := bk_pos hwy (by
      have h1 : yss ≠ [] := fun e => by
        have h2 := addR_tot HD.out
        rw [HY.out, e] at h2
        have h3 := wT_nn2 xss 0
        rcases h2 with ⟨a, _⟩ | ⟨h8, a⟩
        · simp only [wT] at a; omega
        · have h9 := wT_big hwin h8
          simp only [wT] at a; omega
      exact List.length_pos_iff.2 h1)
    have hb24 := bk_len yss
    have hT1 := (sm1_bd yss (bucketsL yss).length).2; have hT1' := (sm1_bd yss (bucketsL yss).length).1; have hO1b := sm2_bd yss (bucketsL yss).length
    have hT0 := (sm1_bd xss (bucketsL xss).length).2; have hT0' := (sm1_bd xss (bucketsL xss).length).1; have hO0b := sm2_bd xss (bucketsL xss).length
    rw [List.take_of_length_le (Nat.le_refl _)] at hT1 hT1' hO1b hT0 hT0' hO0b
    obtain ⟨T1, hT1e⟩ : ∃ x, sm1 (bucketsL yss) = x := ⟨_, rfl⟩
    obtain ⟨T0, hT0e⟩ : ∃ x, sm1 (bucketsL xss) = x := ⟨_, rfl⟩
    obtain ⟨O1, hO1e⟩ : ∃ x, sm2 (bucketsL yss) = x := ⟨_, rfl⟩
    obtain ⟨O0, hO0e⟩ : ∃ x, sm2 (bucketsL xss) = x := ⟨_, rfl⟩
    rw [hT1e] at hT1 hT1'; rw [hO1e] at hO1b; rw [hT0e] at hT0 hT0'; rw [hO0e] at hO0b
    rw [hT1e, hT0e, hO1e, hO0e] at htt
    obtain ⟨al, hal⟩ : ∃ al, bucketsL yss = al := ⟨_, rfl⟩
    rw [hal] at hord hpos hb24
    obtain ⟨N, hN⟩ : ∃ N, al.length = N := ⟨_, rfl⟩
    rw [hN] at hpos hb24
    have HT1 := Lib.hid hT1e; have HT0 := Lib.hid hT0e; have HO1 := Lib.hid hO1e; have HO0 := Lib.hid hO0e; have HAs := Lib.hid hal; have HN := Lib.hid hN; have HOrd := Lib.hid hord; have HWyb := Lib.hid hwy
    have HWy := Lib.hid (bdR_wf (bdR_win hwy).1)
    clear hwin hwy hord hT1e hT0e hO1e hO0e hal hN
    rcases htt with ⟨ta, tb⟩ | ⟨h8, ta⟩
    · have HTA := Lib.hid ta; have HTB := Lib.hid tb
      have m1 : IntKind.i64.wrap (T1 - T0) = 1 := by rw [show T1 - T0 = 1 by omega]; rfl
      have HMo := Lib.hid m1
      have o1 : IntKind.i64.wrap (O0 + bit) = O1 := by rw [← tb]; exact IntWalk.i64_in _ (by omega)
      have d1 : (O1 != O1) = false := by simp
      clear ta tb
      go_wp2_with fail
      have clv50_18 := cell_regrown (w := w3) (a := ⟨w2.heap.size, 0, none⟩) (v := .slice A2 M c2) (v5_15.cells 0)
      have clw30_18 := cell_regrown (w := w3) (a := ⟨w1.heap.size, 0, none⟩) (v := .slice A1 n1 c1) (w3_15.cells 0)
      clear cw3_16 fw3_16
      clear cv5_17 fv5_17
      have cA : ∀ d' os, Calls Try.prog 11 #[.agg #[.slice A2 M c2]] (grow (redrawn w3 d') os) fun e w'' => e = .returned (.int .i64 T1) ∧ ∃ p : Regrown, w'' = grow (redrawn w3 p.d) p.os := fun d' os => Calls.regrown_of (by rw [← HT1.out]; exact iWindowTotal_any A2 M c2 g2 yss _ (y_15.rd.below (below_regrown _ d' os) (Nat.le_refl _)) ht2 hMb HWy.out)
      have cB : ∀ d' os, Calls Try.prog 11 #[.agg #[.slice A1 n1 c1]] (grow (redrawn w3 d') os) fun e w'' => e = .returned (.int .i64 T0) ∧ ∃ p : Regrown, w'' = grow (redrawn w3 p.d) p.os := fun d' os => Calls.regrown_of (by rw [← HT0.out]; exact iWindowTotal_any A1 n1 c1 g1 xss _ (x_15.rd.below (below_regrown _ d' os) (Nat.le_refl _)) ht n1b HW.out)
      have HA_18 := Lib.hid B_14
      refine wp_region_quiet_below (by kernel_rfl) (by kernel_rfl) ?_
      repeat (first | go_big_quiet_step (first | with_reducible exact cA _ _ | with_reducible exact cB _ _) | quiet_step (first | with_reducible exact cA _ _ | with_reducible exact cB _ _))
      refine wpQuiet_nil ?_
      intro _ hw'
      obtain ⟨⟨dq, osq⟩, hw''⟩ := hw'
      subst hw''
      have bq := below_regrown w3 dq osq
      clear cA cB clv50_18 clw30_18
      generalize grow (redrawn w3 dq) osq = w4 at bq ⊢
      have t_18 := bq.size
      have z_18 : w.heap.size ≤ w4.heap.size := by omega
      have x_19 := x_15.same (same_below bq (by omega))
      clear x_15
      have w3_19 := w3_15.same (same_below bq (by omega))
      clear w3_15
      have y_19 := y_15.same (same_below bq (by omega))
      clear y_15
      have v5_19 := v5_15.same (same_below bq (by omega))
      clear v5_15
      have B_18 := B_14.trans (bq.mono (by omega))
      clear B_14 bq
      have cw3_20 := w3_19.cells
      have fw3_20 := w3_19.free
      have cv5_21 := v5_19.cells
      have fv5_21 := v5_19.free
      have mm := HMo.out
      clear cw3_20 fw3_20
      clear cv5_21 fv5_21
      go_upto_region 10 with fail
      have HC3 := Lib.hid (w3_19.cells 0)
      have HA_22 := Lib.hid B_18
      go_cut [8] (fun s8 wx => s8 = .bool false ∧ Below w4.heap.size w4 wx)
      case first =>
        have c8 := HC3.out
        by_cases hn8 : n1 = 8
        · have k1 : ((n1 : Int) == 8) = true := by rw [hn8]; rfl
          have k2 : decide ((n1 : Int) = 8) = true := by rw [hn8]; rfl
          have k3 : (n1 : Int) = 8 := by omega
          have HN8 := Lib.hid hn8; clear hn8 k3
          go_wp2_with fail
          go_meet
          exact ⟨rfl, Below.refl _ _⟩
        · have k1 : ((n1 : Int) == 8) = false := beq_false_of_ne (by omega)
          have k2 : decide ((n1 : Int) = 8) = false := decide_eq_false (by omega)
          have k3 : ¬ (n1 : Int) = 8 := by omega
          go_wp2_with fail
          go_meet
          exact ⟨rfl, Below.refl _ _⟩
      obtain ⟨rfl, bc_22⟩ := hcut
      obtain ⟨w5, rfl⟩ : ∃ w5 : World, w5 = wc := ⟨_, rfl⟩
      have t_22 := bc_22.size
      have z_22 : w.heap.size ≤ w5.heap.size := by omega
      have x_23 := x_19.same (same_below bc_22 (by omega))
      clear x_19
      have w3_23 := w3_19.same (same_below bc_22 (by omega))
      clear w3_19
      have y_23 := y_19.same (same_below bc_22 (by omega))
      clear y_19
      have v5_23 := v5_19.same (same_below bc_22 (by omega))
      clear v5_19
      have B_22 := B_18.trans (bc_22.mono (by omega))
      clear B_18 bc_22 HA_22
      have cw3_24 := w3_23.cells
      have fw3_24 := w3_23.free
      have cv5_25 := v5_23.cells
      have fv5_25 := v5_23.free
      skip
      go_wp2_with fail
      have clv50_26 := cell_regrown (w := w5) (a := ⟨w2.heap.size, 0, none⟩) (v := .slice A2 M c2) (v5_23.cells 0)
      have clw30_26 := cell_regrown (w := w5) (a := ⟨w1.heap.size, 0, none⟩) (v := .slice A1 n1 c1) (w3_23.cells 0)
      clear cw3_24 fw3_24
      clear cv5_25 fv5_25
      have cA : ∀ d' os, Calls Try.prog 15 #[.agg #[.slice A2 M c2]] (grow (redrawn w5 d') os) fun e w'' => e = .returned (.bool true) ∧ ∃ p : Regrown, w'' = grow (redrawn w5 p.d) p.os := fun d' os => Calls.regrown_of (by rw [← HWyb.out]; exact iWindowOk_any A2 M c2 g2 yss _ (y_23.rd.below (below_regrown _ d' os) (Nat.le_refl _)) ht2 hMb HWy.out)
      have cB : ∀ d' os, Calls Try.prog 12 #[.agg #[.slice A2 M c2]] (grow (redrawn w5 d') os) fun e w'' => e = .returned (.int .i64 O1) ∧ ∃ p : Regrown, w'' = grow (redrawn w5 p.d) p.os := fun d' os => Calls.regrown_of (by rw [← HO1.out]; exact iWindowOnes_any A2 M c2 g2 yss _ (y_23.rd.below (below_regrown _ d' os) (Nat.le_refl _)) ht2 hMb HWy.out)
      have cC : ∀ d' os, Calls Try.prog 12 #[.agg #[.slice A1 n1 c1]] (grow (redrawn w5 d') os) fun e w'' => e = .returned (.int .i64 O0) ∧ ∃ p : Regrown, w'' = grow (redrawn w5 p.d) p.os := fun d' os => Calls.regrown_of (by rw [← HO0.out]; exact iWindowOnes_any A1 n1 c1 g1 xss _ (x_23.rd.below (below_regrown _ d' os) (Nat.le_refl _)) ht n1b HW.out)
      have HA_26 := Lib.hid B_22
      refine wp_region_quiet_below (by kernel_rfl) (by kernel_rfl) ?_
      repeat (first | go_big_quiet_step (first | with_reducible exact cA _ _ | with_reducible exact cB _ _ | with_reducible exact cC _ _) | quiet_step (first | with_reducible exact cA _ _ | with_reducible exact cB _ _ | with_reducible exact cC _ _))
      refine wpQuiet_nil ?_
      intro _ hw'
      obtain ⟨⟨dq, osq⟩, hw''⟩ := hw'
      subst hw''
      have bq := below_regrown w5 dq osq
      clear cA cB cC clv50_26 clw30_26
      generalize grow (redrawn w5 dq) osq = w6 at bq ⊢
      have t_26 := bq.size
      have z_26 : w.heap.size ≤ w6.heap.size := by omega
      have x_27 := x_23.same (same_below bq (by omega))
      clear x_23
      have w3_27 := w3_23.same (same_below bq (by omega))
      clear w3_23
      have y_27 := y_23.same (same_below bq (by omega))
      clear y_23
      have v5_27 := v5_23.same (same_below bq (by omega))
      clear v5_23
      have B_26 := B_22.trans (bq.mono (by omega))
      clear B_22 bq
      have cw3_28 := w3_27.cells
      have fw3_28 := w3_27.free
      have cv5_29 := v5_27.cells
      have fv5_29 := v5_27.free
      go_wp2_with fail
      refine (iBuckets2 A2 M c2 g2 yss al N _ HAs.out HN.out y_27.rd ht2 hMb HWy.out).mono ?_
      rintro e w7 ⟨A6, c6, rfl, o, b⟩
      clear cw3_28 fw3_28
      clear cv5_29 fv5_29
      have t_30 := b.size
      have z_30 : w.heap.size ≤ w7.heap.size := by omega
      have x_31 := x_27.same (same_below b (by omega))
      clear x_27
      have w3_31 := w3_27.same (same_below b (by omega))
      clear w3_27
      have y_31 := y_27.same (same_below b (by omega))
      clear y_27
      have v5_31 := v5_27.same (same_below b (by omega))
      clear v5_27
      have B_30 := B_26.trans (b.mono (by omega))
      clear B_26 b
      have a_30 := Ow2.of o
      clear o
      have cw3_32 := w3_31.cells
      have fw3_32 := w3_31.free
      have cv5_33 := v5_31.cells
      have fv5_33 := v5_31.free
      have HRa := Lib.hid a_30.rd; have HAc := Lib.hid B_30; have HYo := Lib.hid y_31.rd; have HV5 := Lib.hid (v5_31.cells 0)
      have lv5 := v5_31.lt
      go_wp2_with fail
      clear cw3_32 fw3_32 cv5_33 fv5_33
      go_loopw [10, 11, 12] (fun sn su si wr => ∃ j : Nat, j ≤ N ∧ si = .int .i64 j ∧ sn = .int .i64 (sm1 (al.take j)) ∧ su = .int .i64 (sm2 (al.take j)) ∧ Below w7.heap.size w7 wr) (fun _ _ si _ => N - (intOf si).toNat)
      case atStart => exact ⟨0, Nat.zero_le _, rfl, by simp [sm1], by simp [sm2], Below.refl _ _⟩
      case round =>
        obtain ⟨j, hj, rfl, rfl, rfl, hbel⟩ := hrel
        obtain ⟨wo, rfl⟩ : ∃ wo : World, wo = wr := ⟨_, rfl⟩
        have hzo := hbel.size
        have HBel := Lib.hid hbel
        have HRa2 := Lib.hid (HRa.out.below hbel (Nat.le_refl _))
        have HB9 := Lib.hid (HAc.out.trans (hbel.mono (by omega)))
        clear hbel
        by_cases hlt : j < N
        · obtain ⟨b0, hb0⟩ : ∃ b, al[j]? = some b := ⟨_, List.getElem?_eq_getElem (by have := HN.out; omega)⟩
          obtain ⟨k1, k2⟩ := bcells_get (bs := al) hb0
          obtain ⟨ba, offa, hA6, hbl1, hc1⟩ := HRa2.out.ex (by omega)
          subst hA6
          have q1 := hc1 _ _ k1; have q2 := hc1 _ _ k2
          rw [← Nat.add_assoc] at q2
          have hbm := bk_mem (xss := yss) (by rw [HAs.out]; exact List.mem_of_getElem? hb0)
          have hbo := (HOrd.out.2 b0 (List.mem_of_getElem? hb0)).2
          have hsb := sm1_bd yss j; have hsb2 := sm2_bd yss j
          rw [HAs.out] at hsb hsb2
          have hss := sm1_succ hb0; have hss2 := sm2_succ hb0
          obtain ⟨s, hs⟩ : ∃ s, sm1 (al.take j) = s := ⟨_, rfl⟩
          obtain ⟨s2, hs2⟩ : ∃ s, sm2 (al.take j) = s := ⟨_, rfl⟩
          rw [hs] at hsb hss ⊢
          rw [hs2] at hsb2 hss2 ⊢
          have HSS := Lib.hid hss; have HSS2 := Lib.hid hss2
          have j0 : (0 : Int) ≤ (j : Int) := Int.natCast_nonneg _
          have j1 : (j : Int) < (N : Int) := by omega
          have b1 := hbm.1; have b2 := hbm.2
          obtain ⟨x1, hx1⟩ : ∃ x, b0.1 = x := ⟨_, rfl⟩
          obtain ⟨x2, hx2⟩ : ∃ x, b0.2 = x := ⟨_, rfl⟩
          rw [hx1] at q1 hbo b1 HSS
          rw [hx2] at q2 hbo b2 HSS2
          have hd : decide (x1 < x2) = false := decide_eq_false (by omega)
          have HX1 := Lib.hid hx1
          clear k1 k2 hss hss2 hs hs2 hbm hx1 hx2
          by_cases hj0 : j = 0
          · have e0 : decide ((0 : Int) < (j : Int)) = false := decide_eq_false (by omega)
            have e0' : decide (0 < j) = false := decide_eq_false (by omega)
            have HJ0 := Lib.hid hj0
            clear hj0 hc1 hb0 HX1
            go_wp2_with fail
            go_quiet (fail)
            go_wp2_with fail
            go_roundw
            case rel => exact ⟨j + 1, by omega, by go_num, by rw [HSS.out], by rw [HSS2.out], HBel.out.trans ⟨rfl, rfl, rfl, Nat.le_refl _, fun _ _ => rfl⟩⟩
            case measure => simp [intOf]; omega
          · obtain ⟨i, hi⟩ : ∃ i, j = i + 1 := ⟨j - 1, by omega⟩
            obtain ⟨b9, hb9⟩ : ∃ b, al[i]? = some b := ⟨_, List.getElem?_eq_getElem (by have := HN.out; omega)⟩
            have q3 := hc1 _ _ (bcells_get (bs := al) hb9).1
            obtain ⟨y1, hy1⟩ : ∃ x, b9.1 = x := ⟨_, rfl⟩
            rw [hy1] at q3
            have hle : x1 ≤ y1 := by
              obtain ⟨l1, l2⟩ := List.getElem?_eq_some_iff.1 hb9
              obtain ⟨l3, l4⟩ := List.getElem?_eq_some_iff.1 hb0
              have := List.pairwise_iff_getElem.1 HOrd.out.1 i j l1 l3 (by omega)
              rw [l2, l4, hy1, HX1.out] at this
              exact this
            have e0 : decide ((0 : Int) < (j : Int)) = true := decide_eq_true (by omega)
            have e0' : decide (0 < j) = true := decide_eq_true (by omega)
            have e0i : (0 : Int) < (j : Int) := by omega
            have n3 : (j : Int) - 1 = (i : Int) := by omega
            have e1 : IntKind.i64.wrap ((j : Int) - 1) = (i : Int) := by rw [n3]; exact IntWalk.i64_in _ (by omega)
            have e2 : (0 : Int) ≤ (i : Int) := Int.natCast_nonneg _
            have e3 : (i : Int) < (N : Int) := by omega
            have e4 : i < N := by omega
            have hd2 : decide (y1 < x1) = false := decide_eq_false (by omega)
            have HI := Lib.hid hi
            clear hj0 hc1 hb0 hb9 hy1 HX1 hi n3
            go_wp2_with fail
            go_quiet (fail)
            go_wp2_with fail
            clear e1
            go_roundw
            case rel => exact ⟨j + 1, by omega, by go_num, by rw [HSS.out], by rw [HSS2.out], HBel.out.trans ⟨rfl, rfl, rfl, Nat.le_refl _, fun _ _ => rfl⟩⟩
            case measure => simp [intOf]; omega
        · obtain rfl : N = j := by omega
          have HS : Hid (sm1 (al.take N) = T1) := by unfold Hid; rw [List.take_of_length_le (Nat.le_of_eq HN.out), ← HAs.out]; exact HT1.out
          have HS2 : Hid (sm2 (al.take N) = O1) := by unfold Hid; rw [List.take_of_length_le (Nat.le_of_eq HN.out), ← HAs.out]; exact HO1.out
          rw [HS.out, HS2.out]
          have c5 : wo.cell? ⟨w2.heap.size, 0, none⟩ = some (.slice A2 M c2) := (HBel.out.cell (p := ⟨w2.heap.size, 0, none⟩) lv5).trans HV5.out
          have HY1 := Lib.hid (HYo.out.below HBel.out (Nat.le_refl _))
          go_wp2_with fail
          refine (iWindowTotal_any A2 M c2 g2 yss _ HY1.out ht2 hMb HWy.out).mono ?_
          rw [HT1.out]
          rintro e u1 ⟨rfl, d1⟩
          have hz1 := d1.size
          have c6' : u1.cell? ⟨w2.heap.size, 0, none⟩ = some (.slice A2 M c2) := (d1.cell (p := ⟨w2.heap.size, 0, none⟩) (Nat.lt_of_lt_of_le lv5 hzo)).trans c5
          have HY2 := Lib.hid (HY1.out.below d1 (Nat.le_refl _))
          have HD1 := Lib.hid d1
          clear d1 c5
          go_wp2_with fail
          refine (iWindowOnes_any A2 M c2 g2 yss _ HY2.out ht2 hMb HWy.out).mono ?_
          rw [HO1.out]
          rintro e u2 ⟨rfl, d2⟩
          have HB8 := Lib.hid (HB9.out.trans ((HD1.out.trans (d2.mono hz1)).mono (by omega)))
          have hN0 : (0 : Int) < (N : Int) := by omega
          have hN0n : 0 < N := by omega
          have hN0d : decide (0 < N) = true := decide_eq_true hN0n
          clear d2 c6'
          go_wp2_with fail
          go_ret
          exact ⟨rfl, HB8.out⟩
    · have HN8 := Lib.hid h8
      have HTA := Lib.hid ta
      have m1 : IntKind.i64.wrap (T1 - T0) = -127 := by rw [show T1 - T0 = -127 by omega]; rfl
      have HMo := Lib.hid m1
      clear h8 ta
      go_wp2_with fail
      have clv50_18 := cell_regrown (w := w3) (a := ⟨w2.heap.size, 0, none⟩) (v := .slice A2 M c2) (v5_15.cells 0)
      have clw30_18 := cell_regrown (w := w3) (a := ⟨w1.heap.size, 0, none⟩) (v := .slice A1 n1 c1) (w3_15.cells 0)
      clear cw3_16 fw3_16
      clear cv5_17 fv5_17
      have cA : ∀ d' os, Calls Try.prog 11 #[.agg #[.slice A2 M c2]] (grow (redrawn w3 d') os) fun e w'' => e = .returned (.int .i64 T1) ∧ ∃ p : Regrown, w'' = grow (redrawn w3 p.d) p.os := fun d' os => Calls.regrown_of (by rw [← HT1.out]; exact iWindowTotal_any A2 M c2 g2 yss _ (y_15.rd.below (below_regrown _ d' os) (Nat.le_refl _)) ht2 hMb HWy.out)
      have cB : ∀ d' os, Calls Try.prog 11 #[.agg #[.slice A1 n1 c1]] (grow (redrawn w3 d') os) fun e w'' => e = .returned (.int .i64 T0) ∧ ∃ p : Regrown, w'' = grow (redrawn w3 p.d) p.os := fun d' os => Calls.regrown_of (by rw [← HT0.out]; exact iWindowTotal_any A1 n1 c1 g1 xss _ (x_15.rd.below (below_regrown _ d' os) (Nat.le_refl _)) ht n1b HW.out)
      have HA_18 := Lib.hid B_14
      refine wp_region_quiet_below (by kernel_rfl) (by kernel_rfl) ?_
      repeat (first | go_big_quiet_step (first | with_reducible exact cA _ _ | with_reducible exact cB _ _) | quiet_step (first | with_reducible exact cA _ _ | with_reducible exact cB _ _))
      refine wpQuiet_nil ?_
      intro _ hw'
      obtain ⟨⟨dq, osq⟩, hw''⟩ := hw'
      subst hw''
      have bq := below_regrown w3 dq osq
      clear cA cB clv50_18 clw30_18
      generalize grow (redrawn w3 dq) osq = w4 at bq ⊢
      have t_18 := bq.size
      have z_18 : w.heap.size ≤ w4.heap.size := by omega
      have x_19 := x_15.same (same_below bq (by omega))
      clear x_15
      have w3_19 := w3_15.same (same_below bq (by omega))
      clear w3_15
      have y_19 := y_15.same (same_below bq (by omega))
      clear y_15
      have v5_19 := v5_15.same (same_below bq (by omega))
      clear v5_15
      have B_18 := B_14.trans (bq.mono (by omega))
      clear B_14 bq
      have cw3_20 := w3_19.cells
      have fw3_20 := w3_19.free
      have cv5_21 := v5_19.cells
      have fv5_21 := v5_19.free
      have mm := HMo.out
      clear cw3_20 fw3_20
      clear cv5_21 fv5_21
      go_upto_region 10 with fail
      have HC3 := Lib.hid (w3_19.cells 0)
      have HA_22 := Lib.hid B_18
      go_cut [8] (fun s8 wx => s8 = .bool true ∧ Below w4.heap.size w4 wx)
      case first =>
        have c8 := HC3.out
        have k1 : ((n1 : Int) == 8) = true := by rw [HN8.out]; rfl
        have k2 : decide ((n1 : Int) = 8) = true := by rw [HN8.out]; rfl
        go_wp2_with fail
        go_meet
        exact ⟨rfl, Below.refl _ _⟩
      obtain ⟨rfl, bc_22⟩ := hcut
      obtain ⟨w5, rfl⟩ : ∃ w5 : World, w5 = wc := ⟨_, rfl⟩
      have t_22 := bc_22.size
      have z_22 : w.heap.size ≤ w5.heap.size := by omega
      have x_23 := x_19.same (same_below bc_22 (by omega))
      clear x_19
      have w3_23 := w3_19.same (same_below bc_22 (by omega))
      clear w3_19
      have y_23 := y_19.same (same_below bc_22 (by omega))
      clear y_19
      have v5_23 := v5_19.same (same_below bc_22 (by omega))
      clear v5_19
      have B_22 := B_18.trans (bc_22.mono (by omega))
      clear B_18 bc_22 HA_22
      have cw3_24 := w3_23.cells
      have fw3_24 := w3_23.free
      have cv5_25 := v5_23.cells
      have fv5_25 := v5_23.free
      skip
      go_wp2_with fail
      have clv50_26 := cell_regrown (w := w5) (a := ⟨w2.heap.size, 0, none⟩) (v := .slice A2 M c2) (v5_23.cells 0)
      have clw30_26 := cell_regrown (w := w5) (a := ⟨w1.heap.size, 0, none⟩) (v := .slice A1 n1 c1) (w3_23.cells 0)
      clear cw3_24 fw3_24
      clear cv5_25 fv5_25
      have cA : ∀ d' os, Calls Try.prog 15 #[.agg #[.slice A2 M c2]] (grow (redrawn w5 d') os) fun e w'' => e = .returned (.bool true) ∧ ∃ p : Regrown, w'' = grow (redrawn w5 p.d) p.os := fun d' os => Calls.regrown_of (by rw [← HWyb.out]; exact iWindowOk_any A2 M c2 g2 yss _ (y_23.rd.below (below_regrown _ d' os) (Nat.le_refl _)) ht2 hMb HWy.out)
      have HA_26 := Lib.hid B_22
      refine wp_region_quiet_below (by kernel_rfl) (by kernel_rfl) ?_
      repeat (first | go_big_quiet_step (first | with_reducible exact cA _ _) | quiet_step (first | with_reducible exact cA _ _))
      refine wpQuiet_nil ?_
      intro _ hw'
      obtain ⟨⟨dq, osq⟩, hw''⟩ := hw'
      subst hw''
      have bq := below_regrown w5 dq osq
      clear cA clv50_26 clw30_26
      generalize grow (redrawn w5 dq) osq = w6 at bq ⊢
      have t_26 := bq.size
      have z_26 : w.heap.size ≤ w6.heap.size := by omega
      have x_27 := x_23.same (same_below bq (by omega))
      clear x_23
      have w3_27 := w3_23.same (same_below bq (by omega))
      clear w3_23
      have y_27 := y_23.same (same_below bq (by omega))
      clear y_23
      have v5_27 := v5_23.same (same_below bq (by omega))
      clear v5_23
      have B_26 := B_22.trans (bq.mono (by omega))
      clear B_22 bq
      have cw3_28 := w3_27.cells
      have fw3_28 := w3_27.free
      have cv5_29 := v5_27.cells
      have fv5_29 := v5_27.free
      go_wp2_with fail
      refine (iBuckets2 A2 M c2 g2 yss al N _ HAs.out HN.out y_27.rd ht2 hMb HWy.out).mono ?_
      rintro e w7 ⟨A6, c6, rfl, o, b⟩
      clear cw3_28 fw3_28
      clear cv5_29 fv5_29
      have t_30 := b.size
      have z_30 : w.heap.size ≤ w7.heap.size := by omega
      have x_31 := x_27.same (same_below b (by omega))
      clear x_27
      have w3_31 := w3_27.same (same_below b (by omega))
      clear w3_27
      have y_31 := y_27.same (same_below b (by omega))
      clear y_27
      have v5_31 := v5_27.same (same_below b (by omega))
      clear v5_27
      have B_30 := B_26.trans (b.mono (by omega))
      clear B_26 b
      have a_30 := Ow2.of o
      clear o
      have cw3_32 := w3_31.cells
      have fw3_32 := w3_31.free
      have cv5_33 := v5_31.cells
      have fv5_33 := v5_31.free
      have HRa := Lib.hid a_30.rd; have HAc := Lib.hid B_30; have HYo := Lib.hid y_31.rd; have HV5 := Lib.hid (v5_31.cells 0)
      have lv5 := v5_31.lt
      go_wp2_with fail
      clear cw3_32 fw3_32 cv5_33 fv5_33
      go_loopw [10, 11, 12] (fun sn su si wr => ∃ j : Nat, j ≤ N ∧ si = .int .i64 j ∧ sn = .int .i64 (sm1 (al.take j)) ∧ su = .int .i64 (sm2 (al.take j)) ∧ Below w7.heap.size w7 wr) (fun _ _ si _ => N - (intOf si).toNat)
      case atStart => exact ⟨0, Nat.zero_le _, rfl, by simp [sm1], by simp [sm2], Below.refl _ _⟩
      case round =>
        obtain ⟨j, hj, rfl, rfl, rfl, hbel⟩ := hrel
        obtain ⟨wo, rfl⟩ : ∃ wo : World, wo = wr := ⟨_, rfl⟩
        have hzo := hbel.size
        have HBel := Lib.hid hbel
        have HRa2 := Lib.hid (HRa.out.below hbel (Nat.le_refl _))
        have HB9 := Lib.hid (HAc.out.trans (hbel.mono (by omega)))
        clear hbel
        by_cases hlt : j < N
        · obtain ⟨b0, hb0⟩ : ∃ b, al[j]? = some b := ⟨_, List.getElem?_eq_getElem (by have := HN.out; omega)⟩
          obtain ⟨k1, k2⟩ := bcells_get (bs := al) hb0
          obtain ⟨ba, offa, hA6, hbl1, hc1⟩ := HRa2.out.ex (by omega)
          subst hA6
          have q1 := hc1 _ _ k1; have q2 := hc1 _ _ k2
          rw [← Nat.add_assoc] at q2
          have hbm := bk_mem (xss := yss) (by rw [HAs.out]; exact List.mem_of_getElem? hb0)
          have hbo := (HOrd.out.2 b0 (List.mem_of_getElem? hb0)).2
          have hsb := sm1_bd yss j; have hsb2 := sm2_bd yss j
          rw [HAs.out] at hsb hsb2
          have hss := sm1_succ hb0; have hss2 := sm2_succ hb0
          obtain ⟨s, hs⟩ : ∃ s, sm1 (al.take j) = s := ⟨_, rfl⟩
          obtain ⟨s2, hs2⟩ : ∃ s, sm2 (al.take j) = s := ⟨_, rfl⟩
          rw [hs] at hsb hss ⊢
          rw [hs2] at hsb2 hss2 ⊢
          have HSS := Lib.hid hss; have HSS2 := Lib.hid hss2
          have j0 : (0 : Int) ≤ (j : Int) := Int.natCast_nonneg _
          have j1 : (j : Int) < (N : Int) := by omega
          have b1 := hbm.1; have b2 := hbm.2
          obtain ⟨x1, hx1⟩ : ∃ x, b0.1 = x := ⟨_, rfl⟩
          obtain ⟨x2, hx2⟩ : ∃ x, b0.2 = x := ⟨_, rfl⟩
          rw [hx1] at q1 hbo b1 HSS
          rw [hx2] at q2 hbo b2 HSS2
          have hd : decide (x1 < x2) = false := decide_eq_false (by omega)
          have HX1 := Lib.hid hx1
          clear k1 k2 hss hss2 hs hs2 hbm hx1 hx2
          by_cases hj0 : j = 0
          · have e0 : decide ((0 : Int) < (j : Int)) = false := decide_eq_false (by omega)
            have e0' : decide (0 < j) = false := decide_eq_false (by omega)
            have HJ0 := Lib.hid hj0
            clear hj0 hc1 hb0 HX1
            go_wp2_with fail
            go_quiet (fail)
            go_wp2_with fail
            go_roundw
            case rel => exact ⟨j + 1, by omega, by go_num, by rw [HSS.out], by rw [HSS2.out], HBel.out.trans ⟨rfl, rfl, rfl, Nat.le_refl _, fun _ _ => rfl⟩⟩
            case measure => simp [intOf]; omega
          · obtain ⟨i, hi⟩ : ∃ i, j = i + 1 := ⟨j - 1, by omega⟩
            obtain ⟨b9, hb9⟩ : ∃ b, al[i]? = some b := ⟨_, List.getElem?_eq_getElem (by have := HN.out; omega)⟩
            have q3 := hc1 _ _ (bcells_get (bs := al) hb9).1
            obtain ⟨y1, hy1⟩ : ∃ x, b9.1 = x := ⟨_, rfl⟩
            rw [hy1] at q3
            have hle : x1 ≤ y1 := by
              obtain ⟨l1, l2⟩ := List.getElem?_eq_some_iff.1 hb9
              obtain ⟨l3, l4⟩ := List.getElem?_eq_some_iff.1 hb0
              have := List.pairwise_iff_getElem.1 HOrd.out.1 i j l1 l3 (by omega)
              rw [l2, l4, hy1, HX1.out] at this
              exact this
            have e0 : decide ((0 : Int) < (j : Int)) = true := decide_eq_true (by omega)
            have e0' : decide (0 < j) = true := decide_eq_true (by omega)
            have e0i : (0 : Int) < (j : Int) := by omega
            have n3 : (j : Int) - 1 = (i : Int) := by omega
            have e1 : IntKind.i64.wrap ((j : Int) - 1) = (i : Int) := by rw [n3]; exact IntWalk.i64_in _ (by omega)
            have e2 : (0 : Int) ≤ (i : Int) := Int.natCast_nonneg _
            have e3 : (i : Int) < (N : Int) := by omega
            have e4 : i < N := by omega
            have hd2 : decide (y1 < x1) = false := decide_eq_false (by omega)
            have HI := Lib.hid hi
            clear hj0 hc1 hb0 hb9 hy1 HX1 hi n3
            go_wp2_with fail
            go_quiet (fail)
            go_wp2_with fail
            clear e1
            go_roundw
            case rel => exact ⟨j + 1, by omega, by go_num, by rw [HSS.out], by rw [HSS2.out], HBel.out.trans ⟨rfl, rfl, rfl, Nat.le_refl _, fun _ _ => rfl⟩⟩
            case measure => simp [intOf]; omega
        · obtain rfl : N = j := by omega
          have HS : Hid (sm1 (al.take N) = T1) := by unfold Hid; rw [List.take_of_length_le (Nat.le_of_eq HN.out), ← HAs.out]; exact HT1.out
          have HS2 : Hid (sm2 (al.take N) = O1) := by unfold Hid; rw [List.take_of_length_le (Nat.le_of_eq HN.out), ← HAs.out]; exact HO1.out
          rw [HS.out, HS2.out]
          have c5 : wo.cell? ⟨w2.heap.size, 0, none⟩ = some (.slice A2 M c2) := (HBel.out.cell (p := ⟨w2.heap.size, 0, none⟩) lv5).trans HV5.out
          have HY1 := Lib.hid (HYo.out.below HBel.out (Nat.le_refl _))
          go_wp2_with fail
          refine (iWindowTotal_any A2 M c2 g2 yss _ HY1.out ht2 hMb HWy.out).mono ?_
          rw [HT1.out]
          rintro e u1 ⟨rfl, d1⟩
          have hz1 := d1.size
          have c6' : u1.cell? ⟨w2.heap.size, 0, none⟩ = some (.slice A2 M c2) := (d1.cell (p := ⟨w2.heap.size, 0, none⟩) (Nat.lt_of_lt_of_le lv5 hzo)).trans c5
          have HY2 := Lib.hid (HY1.out.below d1 (Nat.le_refl _))
          have HD1 := Lib.hid d1
          clear d1 c5
          go_wp2_with fail
          refine (iWindowOnes_any A2 M c2 g2 yss _ HY2.out ht2 hMb HWy.out).mono ?_
          rw [HO1.out]
          rintro e u2 ⟨rfl, d2⟩
          have HB8 := Lib.hid (HB9.out.trans ((HD1.out.trans (d2.mono hz1)).mono (by omega)))
          have hN0 : (0 : Int) < (N : Int) := by omega
          have hN0n : 0 < N := by omega
          have hN0d : decide (0 < N) = true := decide_eq_true hN0n
          clear d2 c6'
          go_wp2_with fail
          go_ret
          exact ⟨rfl, HB8.out⟩

theorem walk (w : World) (A : Option Addr) (n c : Nat) (xs : List Int) (hl : n ≤ c) (hm : c ≤ maxLen) (hr : Rd w A n (xs.map (Value.int .u8))) (hu : ∀ z ∈ xs, (Lit.int .u8 z).wf = true) :
    Calls Try.prog 7 #[.slice A n c] w fun e w' => e = .returned (.bool true) ∧ Below w.heap.size w w' := by
  unfold maxLen at hm
  have HR := Lib.hid hr
  have HU : Hid (∀ z ∈ xs, 0 ≤ z ∧ z ≤ 255) := fun z hz => u8wf (hu z hz)
  clear hr hu
  by_cases hn : n ≤ 1048576
  · exact walkIn w A n c xs hn HR HU
  · go_enter Try.func7, Try.ntmps7
    go_wp2_with fail
    refine (big_yes A n c w hn).mono ?_
    rintro e _ ⟨rfl, rfl⟩
    go_wp2_with fail
    go_ret
    exact ⟨rfl, Below.refl _ _⟩

set_option maxRecDepth 100000 in
theorem walks : Walks 7 Try.f7 := by
  intro H enc W base args ds ps hval hA _
  rw [Try.params7] at hA hval
  obtain ⟨v0, vs0, d0, ds0, p0, q0, hargs, rfl, rfl, h0, r0⟩ := trodAll_cons hA
  obtain ⟨rfl, rfl, rfl⟩ := trodAll_nil r0
  obtain rfl : args = #[v0] := by cases args; simp_all
  obtain ⟨f0, y0, z0⟩ := slice_cell Try.underlying22 (hval 0 22 v0 rfl rfl) h0
  obtain ⟨A0, n0, c0, a0, rfl, hl0, hm0, hr0, w0⟩ := open_ints_rd Try.underlying22 (by kernel_rfl) Try.underlying5 z0
  exact walk (w := W) A0 n0 c0 a0 hl0 hm0 hr0 w0

set_option maxRecDepth 100000 in
theorem lifted (os : Os) (started : os.Started) (H : Type) (enc : TypeId × Value → H) :
    ReturnsInHanded {} Try.checked os 7 .any (Rows.fnWindowSpec.pre6 enc Try.prog Try.f7 Rows.fnWindowRow.domain false) (Rows.fnWindowSpec.post enc Try.prog Try.f7 false true false false) :=
  law_lifted started (by kernel_rfl) Try.func7
    (ChangeSpec.witness6 (enc := enc) (C := Try.checked) false ⟨#[], #[.slice none 0 0], []⟩ 8 (by kernel_rfl) (by kernel_rfl) (by kernel_rfl) (by kernel_rfl))
    rfl rfl Try.underlying4 (fun ds h => match ds, h with | [_], _ => rfl) (by
      rw [Try.params7]
      intro t ht
      simp only [List.mem_cons, List.not_mem_nil, or_false] at ht
      subst ht
      exact ⟨by kernel_rfl, of_decide_eq_true (by kernel_rfl)⟩) walks

theorem over : Rows.fnWindowRow.holds Try.pinned (OpenSpec.ofChange Rows.fnWindowSpec) :=
  OpenClaim.holds_of_wide 7 Try.f7 rfl rfl rfl rfl rfl rfl rfl ⟨rfl, rfl, rfl, rfl, rfl⟩ rfl rfl rfl rfl rfl (by kernel_rfl) Try.func7 (by kernel_rfl)
    (of_decide_eq_true (by kernel_rfl)) (by unfold Func.isWrapper; first | (rw [if_pos (by decide +kernel)]; kernel_rfl) | (rw [if_neg (by decide +kernel)]; exact ⟨rfl, rfl⟩))
    (fun os started H enc _ => lifted os started H enc)

theorem proved : Rows.FnWindowSaid := over
#print axioms proved

end LawFWindow
end Go.Proofs.Ytnljlehbjdambaa
