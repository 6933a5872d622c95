/-
  CutAt, Shrink and WindowStep of impl, for windows of constant bits.
-/
import Derived.Test.YtnljlehbjdambaaSteP
import Derived.Test.YtnljlehbjdambaaAddI
import Derived.Deep.RegionHeld3
import Derived.Deep.DeepCutAuto
import Derived.BigQuiet
namespace Go.Proofs.Ytnljlehbjdambaa
open Go.RowKit
set_option linter.unusedSimpArgs false
set_option linter.unusedVariables false

set_option maxRecDepth 20000 in
set_option maxHeartbeats 4000000 in
theorem iCutAt_steady (A : Option Addr) (n c : Nat) (hs : List Hd) (xss : List (List Int)) (bit : Int) (i : Nat) (k : Int) (w : World) (h : RdSS w A n hs (iss xss)) (hb : totI xss ≤ 1048576) (hn : n ≤ 1048576) (hwf : ∀ xs ∈ xss, ∀ x ∈ xs, -9223372036854775808 ≤ x ∧ x ≤ 9223372036854775807) (hst : Steady bit i xss) (h0 : 0 ≤ bit) (h1 : bit ≤ 1) :
    Calls Try.prog 14 #[.agg #[.slice A n c], .int .i64 k] w fun e w' => e = .returned (.int .i64 0) ∧ Below w.heap.size w w' := by
  have H := Lib.hid h
  have HWf := Lib.hid hwf
  have HSt := Lib.hid hst
  obtain ⟨s1, s2⟩ := steady_tot hst
  have hib : sm1 (bucketsL xss) ≤ 6144 := by have := (sm1_bd xss (bucketsL xss).length).2; rwa [List.take_of_length_le (Nat.le_refl _)] at this
  have hob := sm2_bd xss (bucketsL xss).length
  rw [List.take_of_length_le (Nat.le_refl _)] at hob
  have hi : i ≤ 6144 := by omega
  obtain ⟨bt, hbt⟩ : ∃ bt, bit * (i : Int) = bt := ⟨_, rfl⟩
  rw [hbt] at s2
  rw [s2] at hob
  have HBtb := Lib.hid hob
  have HS1 := Lib.hid s1; have HS2 := Lib.hid s2
  have HBt := Lib.hid hbt.symm
  clear h hwf hst s1 s2 hbt hob hib
  have B0 := Below.refl w.heap.size w
  have s0 : w.heap.size ≤ w.heap.size := Nat.le_refl _
  go_enter Try.func14, Try.ntmps14
  have p_2 : Bx (w.alloc (.cells #[.slice A n c] 26)) (w.heap.size) 26 #[.slice A n c] := Bx.new _ _ _
  have B_2 := B0.alloc s0 (.cells #[.slice A n c] 26)
  clear B0
  have cp_3 := p_2.cells
  have fp_3 := p_2.free
  go_wp2_with fail
  refine (iBuckets_any A n c hs xss _ (H.out.below B_2 (Nat.le_refl _)) hb hn HWf.out).mono ?_
  rintro e w1 ⟨A2, c2, N, rfl, hN, o2, b⟩
  clear cp_3 fp_3
  simp only [World.size_alloc] at b o2
  have t_4 := b.size
  simp only [World.size_alloc] at t_4
  have z_4 : w.heap.size ≤ w1.heap.size := by omega
  have p_5 := p_2.same (same_below b (by omega))
  clear p_2
  have B_4 := B_2.trans (b.mono (by omega))
  clear B_2 b
  have cp_6 := p_5.cells
  have fp_6 := p_5.free
  have HN := Lib.hid hN
  have hN24 : N ≤ 24 := by rw [hN]; exact bk_len xss
  have HAc := Lib.hid B_4
  have HR5 := Lib.hid (H.out.below B_4 (Nat.le_refl _))
  have HP := Lib.hid (p_5.cells 0)
  have lp := p_5.lt
  have HRd := Lib.hid (Rd.of_own2 o2)
  clear hN o2 cp_6 fp_6 p_5 B_4
  have p0 : w1.cell? ⟨w.heap.size, 0, none⟩ = some (.slice A n c) := HP.out
  have HK : Hid (∀ w' : World, Below w1.heap.size w1 w' → w'.cell? ⟨w.heap.size, 0, none⟩ = some (.slice A n c) ∧ Below w1.heap.size w1 w') := fun w' hb => ⟨(hb.cell (p := ⟨w.heap.size, 0, none⟩) lp).trans HP.out, hb⟩
  go_upto_region 2 with fail
  go_cut [6, 7] (fun s6 s7 wx => s6 = .int .i64 (i : Int) ∧ s7 = .int .i64 bt ∧ Below w1.heap.size w1 wx)
  case first =>
    go_region_held3 (fun w' => w'.cell? ⟨w.heap.size, 0, none⟩ = some (.slice A n c) ∧ Below w1.heap.size w1 w')
      ((refine HK.out _ ?_; first | exact (Below.refl _ _).drew | assumption))
      (first
        | (go_at_call 11; go_split_ands; refine (lift (W0 := w1) (B := w1.heap.size) (iWindowTotal_any A n c hs xss _ (HR5.out.below (by assumption) (Nat.le_refl _)) hb hn HWf.out) (by assumption) (Nat.le_refl _)).mono ?_; rw [HS1.out]; rintro e w7 ⟨rfl, b7⟩)
        | (go_at_call 12; go_split_ands; refine (lift (W0 := w1) (B := w1.heap.size) (iWindowOnes_any A n c hs xss _ (HR5.out.below (by assumption) (Nat.le_refl _)) hb hn HWf.out) (by assumption) (Nat.le_refl _)).mono ?_; rw [HS2.out]; rintro e w8 ⟨rfl, b8⟩))
    all_goals (go_wp2_with fail; go_meet)
    all_goals exact ⟨rfl, rfl, by assumption⟩
  obtain ⟨rfl, rfl, bc⟩ := hcut
  obtain ⟨u, rfl⟩ : ∃ u : World, u = wc := ⟨_, rfl⟩
  have HB2 : Hid (Below w.heap.size w u) := HAc.out.trans (bc.mono (by omega))
  have HRu := Lib.hid (HRd.out.below bc (Nat.le_refl _))
  clear bc p0 HRd
  go_wp2_with fail
  go_loop [8, 9, 10] (fun sn su si => ∃ j : Nat, j ≤ N ∧ si = .int .i64 j ∧ sn = .int .i64 (sm1 ((bucketsL xss).take j)) ∧ su = .int .i64 (sm2 ((bucketsL xss).take j))) (fun _ _ si => N - (intOf si).toNat)
  case atStart => exact ⟨0, Nat.zero_le _, rfl, by simp [sm1], by simp [sm2]⟩
  case round =>
    obtain ⟨j, hj, rfl, rfl, rfl⟩ := hrel
    have j0 : (0 : Int) ≤ (j : Int) := Int.natCast_nonneg _
    by_cases hlt : j + 1 < N
    · have hkl : j < (bucketsL xss).length := by rw [← HN.out]; omega
      obtain ⟨b0, hb0⟩ : ∃ b, (bucketsL xss)[j]? = some b := ⟨_, List.getElem?_eq_getElem hkl⟩
      obtain ⟨g1, g2⟩ := bcells_get hb0
      have hbm := bk_mem (List.mem_of_getElem? hb0)
      obtain ⟨b, off, rfl, hbl, hc⟩ := HRu.out.ex (by omega)
      have c1 := hc _ _ g1; have c2 := hc _ _ g2
      rw [← Nat.add_assoc] at c2
      have hsb := sm1_bd xss j; have hss := sm1_succ hb0
      have hsb2 := sm2_bd xss j; have hss2 := sm2_succ hb0
      have hsc := steady_take HSt.out (j + 1)
      obtain ⟨s, hs⟩ : ∃ s, sm1 ((bucketsL xss).take j) = s := ⟨_, rfl⟩
      obtain ⟨s2, hs2⟩ : ∃ s, sm2 ((bucketsL xss).take j) = s := ⟨_, rfl⟩
      rw [hs] at hsb hss ⊢
      rw [hs2] at hsb2 hss2 ⊢
      have HSS := Lib.hid hss; have HSS2 := Lib.hid hss2
      have HCut : Hid (cutB (s + b0.1) (s2 + b0.2) ((i : Int) - (s + b0.1)) (bt - (s2 + b0.2)) k = false) := by
        unfold Hid
        rw [hss, hss2] at hsc
        rw [hsc, HBt.out, ← Int.mul_sub]
        exact cut_const bit _ _ k
      have hj1 : (j : Int) < (N : Int) := by omega
      have hj2 : (j : Int) + 1 < (N : Int) := by omega
      have hbt := HBtb.out
      have hjN : j < N := by omega
      have b1 := hbm.1; have b2 := hbm.2
      clear hss hss2 hs hs2 g1 g2 hc hb0 hsc hbm hkl
      go_wp2_with (go_at_call 13; refine (iCutHere_any _ _ _ _ _ _).mono ?_; rw [HCut.out]; rintro e w' ⟨rfl, rfl⟩)
      go_round
      case rel => exact ⟨j + 1, by omega, by go_num, by rw [HSS.out], by rw [HSS2.out]⟩
      case measure => simp [intOf]; omega
    · have hj2 : ¬ (j : Int) + 1 < (N : Int) := by omega
      go_wp2_with fail
      go_ret
      exact ⟨rfl, HB2.out⟩

set_option maxRecDepth 20000 in
set_option maxHeartbeats 4000000 in
theorem iShrink_steady (A : Option Addr) (n c : Nat) (hs : List Hd) (xss : List (List Int)) (bit : Int) (i : Nat) (k : Int) (w : World) (h : RdSS w A n hs (iss xss)) (hb : totI xss ≤ 1048576) (hn : n ≤ 1048576) (hwf : ∀ xs ∈ xss, ∀ x ∈ xs, -9223372036854775808 ≤ x ∧ x ≤ 9223372036854775807) (hst : Steady bit i xss) (h0 : 0 ≤ bit) (h1 : bit ≤ 1) :
    Calls Try.prog 32 #[.agg #[.slice A n c], .int .i64 k] w fun e w' => ∃ A' c' hs', e = .returned (.tuple #[.agg #[.slice A' n c'], .int .i64 0]) ∧ OwSS w.heap.size w'.heap.size w' A' n c' hs' (iss xss) ∧ Below w.heap.size w w' := by
  have H := Lib.hid h
  have HWf := Lib.hid hwf
  have HSt := Lib.hid hst
  clear h hwf hst
  have B0 := Below.refl w.heap.size w
  have s0 : w.heap.size ≤ w.heap.size := Nat.le_refl _
  go_enter Try.func32, Try.ntmps32
  have p_2 : Bx (w.alloc (.cells #[.slice A n c] 26)) (w.heap.size) 26 #[.slice A n c] := Bx.new _ _ _
  have B_2 := B0.alloc s0 (.cells #[.slice A n c] 26)
  clear B0
  have cp_3 := p_2.cells
  have fp_3 := p_2.free
  clear cp_3 fp_3
  have p_4 := p_2.same (same_alloc (.cells #[.slice none 0 0] 26) (by simp only [World.size_alloc]; omega))
  clear p_2
  have r_5 : Bx ((w.alloc (.cells #[.slice A n c] 26)).alloc (.cells #[.slice none 0 0] 26)) (w.heap.size + 1) 26 #[.slice none 0 0] := by
    have h := Bx.new (w.alloc (.cells #[.slice A n c] 26)) 26 #[.slice none 0 0]
    simpa only [World.size_alloc] using h
  have B_5 := B_2.alloc (by simp only [World.size_alloc]; omega) (.cells #[.slice none 0 0] 26)
  clear B_2
  have cp_6 := p_4.cells
  have fp_6 := p_4.free
  have cr_7 := r_5.cells
  have fr_7 := r_5.free
  go_wp2_with fail
  refine (iCloneWindow_any A n c hs xss _ (H.out.below B_5 (Nat.le_refl _)) hb hn).mono ?_
  rintro e w1 ⟨A1, c1, g1, rfl, o, b⟩
  clear cp_6 fp_6
  clear cr_7 fr_7
  simp only [World.size_alloc] at b o
  have t_8 := b.size
  simp only [World.size_alloc] at t_8
  have z_8 : w.heap.size ≤ w1.heap.size := by omega
  have p_9 := p_4.same (same_below b (by omega))
  clear p_4
  have r_9 := r_5.same (same_below b (by omega))
  clear r_5
  have B_8 := B_5.trans (b.mono (by omega))
  clear B_5 b
  have x_8 := o
  clear o
  have cp_10 := p_9.cells
  have fp_10 := p_9.free
  have cr_11 := r_9.cells
  have fr_11 := r_9.free
  clear cp_10 fp_10
  clear cr_11 fr_11
  have p_12 := p_9.same (same_alloc (.cells #[.slice A1 n c1] 26) (by omega))
  clear p_9
  have r_12 := r_9.same (same_alloc (.cells #[.slice A1 n c1] 26) (by omega))
  clear r_9
  have x_12 := x_8.same (same_alloc (.cells #[.slice A1 n c1] 26) (by omega))
  clear x_8
  have out_13 : Bx (w1.alloc (.cells #[.slice A1 n c1] 26)) (w1.heap.size) 26 #[.slice A1 n c1] := Bx.new _ _ _
  have B_13 := B_8.alloc z_8 (.cells #[.slice A1 n c1] 26)
  clear B_8
  have cp_14 := p_12.cells
  have fp_14 := p_12.free
  have cr_15 := r_12.cells
  have fr_15 := r_12.free
  have cout_16 := out_13.cells
  have fout_16 := out_13.free
  go_wp2_with fail
  clear cp_14 fp_14
  clear cr_15 fr_15
  clear cout_16 fout_16
  obtain ⟨v17, hv17⟩ : ∃ v17, v17 = (w1.alloc (.cells #[.slice A1 n c1] 26)) := ⟨_, rfl⟩
  have zv17 : w1.heap.size + 1 ≤ v17.heap.size := by rw [hv17]; simp
  rw [← hv17] at p_12 r_12 x_12 out_13 B_13 ⊢
  clear hv17
  have HAc := Lib.hid B_13; have HX := Lib.hid x_12; have HO := Lib.hid out_13; have HR := Lib.hid r_12; have lo_ := out_13.lt
  clear B_13 x_12 out_13 r_12 p_12
  go_loopw [7] (fun sd wr => sd = .int .i64 0 ∧ Below v17.heap.size v17 wr) (fun _ _ => 0)
  case atStart => exact ⟨rfl, Below.refl _ _⟩
  case round =>
    obtain ⟨rfl, hbel⟩ := hrel
    obtain ⟨wo, rfl⟩ : ∃ wo : World, wo = wr := ⟨_, rfl⟩
    have hzo := hbel.size
    have HBx := HO.out.same (same_below hbel (by omega))
    have HXo := Lib.hid (HX.out.same (same_below hbel (by omega)))
    have HB2 := Lib.hid (HAc.out.trans (hbel.mono (by omega)))
    have q0 := HBx.cells 0; have qf := HBx.free 0
    have HRo := HR.out.same (same_below hbel (by omega))
    simp at q0
    clear hbel
    go_wp2_with fail
    refine (iCutAt_steady A1 n c1 g1 xss bit i k _ HXo.out.rd hb hn HWf.out HSt.out h0 h1).mono ?_
    rintro e w5 ⟨rfl, b⟩
    have hz5 := b.size
    have HB5 := Lib.hid (HB2.out.trans (b.mono (by omega)))
    have HX5 := Lib.hid (HXo.out.same (same_below b (by omega)))
    have hbx5 := HBx.same (same_below b (by omega))
    have hr5 := HRo.same (same_below b (by omega))
    have q5 := hbx5.cells 0; have qf5 := hbx5.free 0
    simp at q5
    have r0 := hr5.cells 0; have fr0 := hr5.free 0
    simp at r0
    have hfin : ∀ w9, w9 = w5.setCell ⟨w.heap.size + 1, 0, none⟩ (.slice A1 n c1) → OwSS w.heap.size w9.heap.size w9 A1 n c1 g1 (iss xss) ∧ Below w.heap.size w w9 := by
      intro w9 h9
      subst h9
      rw [setc_size]
      exact ⟨(HX5.out.same (same_setc (b := w.heap.size + 1) (i := 0) (u := .slice A1 n c1) (by omega))).wide (by omega) (by omega), Below.setCell (p := ⟨w.heap.size + 1, 0, none⟩) HB5.out (by show w.heap.size ≤ w.heap.size + 1; omega) _⟩
    have HFin := Lib.hid hfin
    clear hfin b q0 qf HBx HRo hbx5 hr5
    go_wp2_with ((with_reducible refine bodyPost_ret (v := .tuple #[.agg #[.slice A1 n c1], .int .i64 0]) ?k1 ?k2 ?k3); (case k1 => (simp [results, Try.results32, go_sem, r0, fr0])); (case k2 => rfl); (case k3 => (exact ⟨A1, c1, g1, rfl, (HFin.out _ rfl).1, (HFin.out _ rfl).2⟩)))

theorem steady_small {bit : Int} {i : Nat} {yss : List (List Int)} (h : Steady bit i yss) : yss.length ≤ 8 ∧ totI yss ≤ 1048576 ∧ ∀ xs ∈ yss, ∀ x ∈ xs, -9223372036854775808 ≤ x ∧ x ≤ 9223372036854775807 := by
  have h8 := winB_len h.win
  have key : ∀ (l : List (List Int)), (∀ xs ∈ l, xs.length ≤ 3) → totI l ≤ 3 * l.length := by
    intro l
    induction l with
    | nil => intro _; simp [totI]
    | cons a l ih =>
      intro hl
      have h1 := ih fun x hx => hl x (by simp [hx])
      have h2 := hl a (by simp)
      simp only [totI, List.map_cons, List.sum_cons, List.length_cons] at h1 ⊢; omega
  refine ⟨h8, ?_, fun xs hxs x hx => ?_⟩
  · have := key yss fun xs hx => by
      obtain ⟨j, hj⟩ := List.getElem?_of_mem hx
      exact (rowB_len (winB_row h.win hj)).2
    omega
  · obtain ⟨j, hj⟩ := List.getElem?_of_mem hxs
    have h1 := rowB_elem (winB_row h.win hj) hx
    have hj8 : j < yss.length := (List.getElem?_eq_some_iff.1 hj).1
    have h2 := (pw_bd (r := j) (by omega)).2
    omega

set_option maxRecDepth 20000 in
set_option maxHeartbeats 4000000 in
theorem iWindowStep_steady (A : Option Addr) (n c : Nat) (hs : List Hd) (xss : List (List Int)) (bit : Int) (i : Nat) (k : Int) (w : World) (h : RdSS w A n hs (iss xss)) (hb : totI xss ≤ 1048576) (hn : n ≤ 1048576) (hwf : ∀ xs ∈ xss, ∀ x ∈ xs, -9223372036854775808 ≤ x ∧ x ≤ 9223372036854775807) (hst : Steady bit i xss) (h0 : 0 ≤ bit) (h1 : bit ≤ 1) (hi : i < 100) (hk : 1 ≤ k ∧ k ≤ 9) :
    Calls Try.prog 10 #[.agg #[.slice A n c], .int .i64 bit, .int .i64 k] w fun e w' => ∃ A' n' c' hs', e = .returned (.tuple #[.agg #[.slice A' n' c'], .bool false, .bool true]) ∧ n' ≤ 8 ∧ OwSS w.heap.size w'.heap.size w' A' n' c' hs' (iss (addR xss bit)) ∧ Below w.heap.size w w' := by
  have H := Lib.hid h
  have HWf := Lib.hid hwf
  have HSt := Lib.hid hst
  have HDB := Lib.hid (steady_addB hst h0 h1)
  have hst2 := steady_add hst h0 h1 hi
  obtain ⟨yss, hy⟩ : ∃ yss, addR xss bit = yss := ⟨_, rfl⟩
  rw [hy] at hst2
  obtain ⟨hyl, hyt, hyw⟩ := steady_small hst2
  have HSt2 := Lib.hid hst2; have HYw := Lib.hid hyw; have HYs := Lib.hid hy
  have HK9 := Lib.hid (inB_yes hk.1 hk.2)
  rw [hy]
  clear h hwf hst hst2 hyw hy
  have B0 := Below.refl w.heap.size w
  have s0 : w.heap.size ≤ w.heap.size := Nat.le_refl _
  go_enter Try.func10, Try.ntmps10
  have p_2 : Bx (w.alloc (.cells #[.slice A n c] 26)) (w.heap.size) 26 #[.slice A n c] := Bx.new _ _ _
  have B_2 := B0.alloc s0 (.cells #[.slice A n c] 26)
  clear B0
  have cp_3 := p_2.cells
  have fp_3 := p_2.free
  clear cp_3 fp_3
  have p_4 := p_2.same (same_alloc (.cells #[.slice none 0 0] 26) (by simp only [World.size_alloc]; omega))
  clear p_2
  have r_5 : Bx ((w.alloc (.cells #[.slice A n c] 26)).alloc (.cells #[.slice none 0 0] 26)) (w.heap.size + 1) 26 #[.slice none 0 0] := by
    have h := Bx.new (w.alloc (.cells #[.slice A n c] 26)) 26 #[.slice none 0 0]
    simpa only [World.size_alloc] using h
  have B_5 := B_2.alloc (by simp only [World.size_alloc]; omega) (.cells #[.slice none 0 0] 26)
  clear B_2
  have cp_6 := p_4.cells
  have fp_6 := p_4.free
  have cr_7 := r_5.cells
  have fr_7 := r_5.free
  go_wp2_with fail
  refine (iWindowAdd_any A n c hs xss bit _ (H.out.below B_5 (Nat.le_refl _)) hb hn HWf.out).mono ?_
  rw [HDB.out]
  rintro e w1 ⟨A1, n1, c1, g1, rfl, o, b⟩
  clear cp_6 fp_6
  clear cr_7 fr_7
  simp only [World.size_alloc] at b o
  have t_8 := b.size
  simp only [World.size_alloc] at t_8
  have z_8 : w.heap.size ≤ w1.heap.size := by omega
  have p_9 := p_4.same (same_below b (by omega))
  clear p_4
  have r_9 := r_5.same (same_below b (by omega))
  clear r_5
  have B_8 := B_5.trans (b.mono (by omega))
  clear B_5 b
  have x_8 := o
  clear o
  have cp_10 := p_9.cells
  have fp_10 := p_9.free
  have cr_11 := r_9.cells
  have fr_11 := r_9.free
  rw [HYs.out] at x_8
  have HN1 := Lib.hid x_8.len
  have hn1 : n1 ≤ 8 := by have := HN1.out; rw [iss_len] at this; have := hyl; omega
  clear cp_10 fp_10
  clear cr_11 fr_11
  have p_12 := p_9.same (same_alloc (.cells #[.slice A1 n1 c1] 26) (by omega))
  clear p_9
  have r_12 := r_9.same (same_alloc (.cells #[.slice A1 n1 c1] 26) (by omega))
  clear r_9
  have x_12 := x_8.same (same_alloc (.cells #[.slice A1 n1 c1] 26) (by omega))
  clear x_8
  have ad_13 : Bx (w1.alloc (.cells #[.slice A1 n1 c1] 26)) (w1.heap.size) 26 #[.slice A1 n1 c1] := Bx.new _ _ _
  have B_13 := B_8.alloc z_8 (.cells #[.slice A1 n1 c1] 26)
  clear B_8
  have cp_14 := p_12.cells
  have fp_14 := p_12.free
  have cr_15 := r_12.cells
  have fr_15 := r_12.free
  have cad_16 := ad_13.cells
  have fad_16 := ad_13.free
  go_wp2_with fail
  refine (within_any k 1 9 _).mono ?_
  rw [HK9.out]
  rintro e w2 ⟨rfl, rfl⟩
  go_wp2_with fail
  refine (iShrink_steady A1 n1 c1 g1 yss bit (i + 1) k _ x_12.rd (by omega) (by omega) HYw.out HSt2.out h0 h1).mono ?_
  rintro e w2 ⟨A2, c2, g2, rfl, o, b⟩
  clear cp_14 fp_14
  clear cr_15 fr_15
  clear cad_16 fad_16
  simp only [World.size_alloc] at b o
  have t_17 := b.size
  simp only [World.size_alloc] at t_17
  have z_17 : w.heap.size ≤ w2.heap.size := by omega
  have p_18 := p_12.same (same_below b (by omega))
  clear p_12
  have r_18 := r_12.same (same_below b (by omega))
  clear r_12
  have x_18 := x_12.same (same_below b (by omega))
  clear x_12
  have ad_18 := ad_13.same (same_below b (by omega))
  clear ad_13
  have B_17 := B_13.trans (b.mono (by omega))
  clear B_13 b
  have y_17 := o
  clear o
  have cp_19 := p_18.cells
  have fp_19 := p_18.free
  have cr_20 := r_18.cells
  have fr_20 := r_18.free
  have cad_21 := ad_18.cells
  have fad_21 := ad_18.free
  clear cp_19 fp_19
  clear cr_20 fr_20
  clear cad_21 fad_21
  have p_22 := p_18.same (same_alloc (.cells #[.slice A2 n1 c2] 26) (by omega))
  clear p_18
  have r_22 := r_18.same (same_alloc (.cells #[.slice A2 n1 c2] 26) (by omega))
  clear r_18
  have x_22 := x_18.same (same_alloc (.cells #[.slice A2 n1 c2] 26) (by omega))
  clear x_18
  have ad_22 := ad_18.same (same_alloc (.cells #[.slice A2 n1 c2] 26) (by omega))
  clear ad_18
  have y_22 := y_17.same (same_alloc (.cells #[.slice A2 n1 c2] 26) (by omega))
  clear y_17
  have out_23 : Bx (w2.alloc (.cells #[.slice A2 n1 c2] 26)) (w2.heap.size) 26 #[.slice A2 n1 c2] := Bx.new _ _ _
  have B_23 := B_17.alloc z_17 (.cells #[.slice A2 n1 c2] 26)
  clear B_17
  have cp_24 := p_22.cells
  have fp_24 := p_22.free
  have cr_25 := r_22.cells
  have fr_25 := r_22.free
  have cad_26 := ad_22.cells
  have fad_26 := ad_22.free
  have cout_27 := out_23.cells
  have fout_27 := out_23.free
  go_upto_region 5 with fail
  clear cp_24 fp_24
  clear cr_25 fr_25
  clear cad_26 fad_26
  clear cout_27 fout_27
  obtain ⟨v28, hv28⟩ : ∃ v28, v28 = (w2.alloc (.cells #[.slice A2 n1 c2] 26)) := ⟨_, rfl⟩
  have zv28 : w2.heap.size + 1 ≤ v28.heap.size := by rw [hv28]; simp
  rw [← hv28] at p_22 r_22 x_22 ad_22 y_22 out_23 B_23 ⊢
  clear hv28
  have HAc := Lib.hid B_23; have HY := Lib.hid y_22; have HO := Lib.hid out_23; have HR := Lib.hid r_22; have lo_ := out_23.lt
  have lad := ad_22.lt
  clear B_23 p_22 r_22 x_22 ad_22 y_22 out_23
  go_cut [13] (fun s13 wx => s13 = .bool false ∧ Below v28.heap.size v28 wx)
  case first =>
    go_quiet (fail)
    all_goals (go_wp2_with fail; go_meet)
    all_goals exact ⟨rfl, by first | exact (Below.refl _ _).drew | exact Below.refl _ _ | exact ⟨rfl, rfl, rfl, Nat.le_refl _, fun _ _ => rfl⟩⟩
  obtain ⟨rfl, bc⟩ := hcut
  obtain ⟨u, rfl⟩ : ∃ u : World, u = wc := ⟨_, rfl⟩
  have hzu := bc.size
  have HB5 := Lib.hid (HAc.out.trans (bc.mono (by omega)))
  have HX5 := Lib.hid (HY.out.same (same_below bc (by omega)))
  have hbx5 := HO.out.same (same_below bc (by omega))
  have hr5 := HR.out.same (same_below bc (by omega))
  have q5 := hbx5.cells 0; have qf5 := hbx5.free 0
  simp at q5
  have r0 := hr5.cells 0; have fr0 := hr5.free 0
  simp at r0
  have hfin : ∀ w9, w9 = u.setCell ⟨w.heap.size + 1, 0, none⟩ (.slice A2 n1 c2) → OwSS w.heap.size w9.heap.size w9 A2 n1 c2 g2 (iss yss) ∧ Below w.heap.size w w9 := by
    intro w9 h9
    subst h9
    rw [setc_size]
    exact ⟨(HX5.out.same (same_setc (b := w.heap.size + 1) (i := 0) (u := .slice A2 n1 c2) (by omega))).wide (by omega) (by omega), Below.setCell (p := ⟨w.heap.size + 1, 0, none⟩) HB5.out (by show w.heap.size ≤ w.heap.size + 1; omega) _⟩
  have HFin := Lib.hid hfin
  clear hfin bc hbx5 hr5
  go_wp2_with ((with_reducible refine bodyPost_ret (v := .tuple #[.agg #[.slice A2 n1 c2], .bool false, .bool true]) ?k1 ?k2 ?k3); (case k1 => (simp [results, Try.results10, go_sem, r0, fr0])); (case k2 => rfl); (case k3 => (exact ⟨A2, n1, c2, g2, rfl, hn1, (HFin.out _ rfl).1, (HFin.out _ rfl).2⟩)))

end Go.Proofs.Ytnljlehbjdambaa
