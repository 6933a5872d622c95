/-
  cloneWindow and WindowDrop of impl.
-/
import Derived.Test.YtnljlehbjdambaaDel
import Derived.Test.YtnljlehbjdambaaAddW
import Derived.Deep.RegionLaw
import Derived.Deep.DeepCutAuto
namespace Go.Proofs.Ytnljlehbjdambaa
open Go.RowKit
set_option linter.unusedSimpArgs false
set_option linter.unusedVariables false

set_option maxHeartbeats 4000000 in
theorem iCloneWindow_any (A : Option Addr) (n c : Nat) (hs : List Hd) (xss : List (List Int)) (w : World) (h : RdSS w A n hs (iss xss)) (hb : totI xss ≤ 1048576) (hn : n ≤ 1048576) :
    Calls Try.prog 31 #[.agg #[.slice A n c]] w fun e w' => ∃ A' c' hs', e = .returned (.agg #[.slice A' n c']) ∧ OwSS w.heap.size w'.heap.size w' A' n c' hs' (iss xss) ∧ Below w.heap.size w w' := by
  have H := Lib.hid h
  clear h
  have B0 := Below.refl w.heap.size w
  have s0 : w.heap.size ≤ w.heap.size := Nat.le_refl _
  go_enter Try.func31, Try.ntmps31
  have p_2 : Bx (w.alloc (.cells #[.slice A n c] 26)) (w.heap.size) 26 #[.slice A n c] := Bx.new _ _ _
  have B_2 := B0.alloc s0 (.cells #[.slice A n c] 26)
  clear B0
  have cp_3 := p_2.cells
  have fp_3 := p_2.free
  clear cp_3 fp_3
  have p_4 := p_2.same (same_alloc (.cells #[.slice none 0 0] 26) (by simp only [World.size_alloc]; omega))
  clear p_2
  have r_5 : Bx ((w.alloc (.cells #[.slice A n c] 26)).alloc (.cells #[.slice none 0 0] 26)) (w.heap.size + 1) 26 #[.slice none 0 0] := by
    have h := Bx.new (w.alloc (.cells #[.slice A n c] 26)) 26 #[.slice none 0 0]
    simpa only [World.size_alloc] using h
  have B_5 := B_2.alloc (by simp only [World.size_alloc]; omega) (.cells #[.slice none 0 0] 26)
  clear B_2
  have cp_6 := p_4.cells
  have fp_6 := p_4.free
  have cr_7 := r_5.cells
  have fr_7 := r_5.free
  go_wp2_with fail
  refine (iCloneLists_any A n c hs xss _ (H.out.below B_5 (Nat.le_refl _)) hb hn).mono ?_
  rintro e w1 ⟨A1, c1, g1, rfl, o, b⟩
  clear cp_6 fp_6
  clear cr_7 fr_7
  simp only [World.size_alloc] at b o
  have t_8 := b.size
  simp only [World.size_alloc] at t_8
  have z_8 : w.heap.size ≤ w1.heap.size := by omega
  have p_9 := p_4.same (same_below b (by omega))
  clear p_4
  have r_9 := r_5.same (same_below b (by omega))
  clear r_5
  have B_8 := B_5.trans (b.mono (by omega))
  clear B_5 b
  have x_8 := o
  clear o
  have cp_10 := p_9.cells
  have fp_10 := p_9.free
  have cr_11 := r_9.cells
  have fr_11 := r_9.free
  have r0 := r_9.cells 0; have fr0 := r_9.free 0
  have hfin : ∀ w9, w9 = w1.setCell ⟨w.heap.size + 1, 0, none⟩ (.slice A1 n c1) → OwSS w.heap.size w9.heap.size w9 A1 n c1 g1 (iss xss) ∧ Below w.heap.size w w9 := by
    intro w9 h9
    subst h9
    have h := x_8
    have hsz : (w1.setCell ⟨w.heap.size + 1, 0, none⟩ (.slice A1 n c1)).heap.size = w1.heap.size := by simp [World.setCell]
    rw [hsz]
    exact ⟨(h.same (same_setc (b := w.heap.size + 1) (i := 0) (u := .slice A1 n c1) (by omega))).wide (by omega) (by omega), Below.setCell (p := ⟨w.heap.size + 1, 0, none⟩) B_8 (by show w.heap.size ≤ w.heap.size + 1; omega) _⟩
  have HFin := Lib.hid hfin
  clear hfin
  simp at r0
  go_wp2_with ((with_reducible refine bodyPost_ret (v := .agg #[.slice A1 n c1]) ?k1 ?k2 ?k3); (case k1 => (simp [results, Try.results31, go_sem, r0, fr0])); (case k2 => rfl); (case k3 => (exact ⟨A1, c1, g1, rfl, (HFin.out _ rfl).1, (HFin.out _ rfl).2⟩)))

set_option maxRecDepth 20000 in
set_option maxHeartbeats 8000000 in
theorem iWindowDrop_any (A : Option Addr) (n c : Nat) (hs : List Hd) (xss : List (List Int)) (w : World) (h : RdSS w A n hs (iss xss)) (hb : totI xss ≤ 1048576) (hn : n ≤ 1048576) (hwf : ∀ xs ∈ xss, ∀ x ∈ xs, -9223372036854775808 ≤ x ∧ x ≤ 9223372036854775807) :
    Calls Try.prog 19 #[.agg #[.slice A n c]] w fun e w' => ∃ A' n' c' hs', e = .returned (.tuple #[.agg #[.slice A' n' c'], .bool (dropB xss)]) ∧ OwSS w.heap.size w'.heap.size w' A' n' c' hs' (iss (dropR xss)) ∧ Below w.heap.size w w' := by
  have H := Lib.hid h
  have HWf := Lib.hid hwf
  have HXL : Hid (xss.length = n) := by have := h.len; rwa [iss_len] at this
  clear h hwf
  cases hw : winB xss
  · have HWin := Lib.hid hw
    have HDB : Hid (dropB xss = false) := by unfold Hid dropB; rw [hw]; rfl
    have HDR : Hid (dropR xss = xss) := by unfold Hid dropR; rw [HDB.out]; rfl
    clear hw
    have B0 := Below.refl w.heap.size w
    have s0 : w.heap.size ≤ w.heap.size := Nat.le_refl _
    go_enter Try.func19, Try.ntmps19
    have p_2 : Bx (w.alloc (.cells #[.slice A n c] 26)) (w.heap.size) 26 #[.slice A n c] := Bx.new _ _ _
    have B_2 := B0.alloc s0 (.cells #[.slice A n c] 26)
    clear B0
    have cp_3 := p_2.cells
    have fp_3 := p_2.free
    clear cp_3 fp_3
    have p_4 := p_2.same (same_alloc (.cells #[.slice none 0 0] 26) (by simp only [World.size_alloc]; omega))
    clear p_2
    have r_5 : Bx ((w.alloc (.cells #[.slice A n c] 26)).alloc (.cells #[.slice none 0 0] 26)) (w.heap.size + 1) 26 #[.slice none 0 0] := by
      have h := Bx.new (w.alloc (.cells #[.slice A n c] 26)) 26 #[.slice none 0 0]
      simpa only [World.size_alloc] using h
    have B_5 := B_2.alloc (by simp only [World.size_alloc]; omega) (.cells #[.slice none 0 0] 26)
    clear B_2
    have cp_6 := p_4.cells
    have fp_6 := p_4.free
    have cr_7 := r_5.cells
    have fr_7 := r_5.free
    go_wp2_with fail
    refine (iCloneWindow_any A n c hs xss _ (H.out.below B_5 (Nat.le_refl _)) hb hn).mono ?_
    rintro e w1 ⟨A1, c1, g1, rfl, o, b⟩
    clear cp_6 fp_6
    clear cr_7 fr_7
    simp only [World.size_alloc] at b o
    have t_8 := b.size
    simp only [World.size_alloc] at t_8
    have z_8 : w.heap.size ≤ w1.heap.size := by omega
    have p_9 := p_4.same (same_below b (by omega))
    clear p_4
    have r_9 := r_5.same (same_below b (by omega))
    clear r_5
    have B_8 := B_5.trans (b.mono (by omega))
    clear B_5 b
    have x_8 := o
    clear o
    have cp_10 := p_9.cells
    have fp_10 := p_9.free
    have cr_11 := r_9.cells
    have fr_11 := r_9.free
    clear cp_10 fp_10
    clear cr_11 fr_11
    have p_12 := p_9.same (same_alloc (.cells #[.slice A1 n c1] 26) (by omega))
    clear p_9
    have r_12 := r_9.same (same_alloc (.cells #[.slice A1 n c1] 26) (by omega))
    clear r_9
    have x_12 := x_8.same (same_alloc (.cells #[.slice A1 n c1] 26) (by omega))
    clear x_8
    have out_13 : Bx (w1.alloc (.cells #[.slice A1 n c1] 26)) (w1.heap.size) 26 #[.slice A1 n c1] := Bx.new _ _ _
    have B_13 := B_8.alloc z_8 (.cells #[.slice A1 n c1] 26)
    clear B_8
    have cp_14 := p_12.cells
    have fp_14 := p_12.free
    have cr_15 := r_12.cells
    have fr_15 := r_12.free
    have cout_16 := out_13.cells
    have fout_16 := out_13.free
    go_wp2_with fail
    refine (iWindowOk_any A n c hs xss _ (H.out.below B_13 (Nat.le_refl _)) hb hn HWf.out).mono ?_
    rw [HWin.out]
    rintro e w2 ⟨rfl, b⟩
    clear cp_14 fp_14
    clear cr_15 fr_15
    clear cout_16 fout_16
    simp only [World.size_alloc] at b
    have t_17 := b.size
    simp only [World.size_alloc] at t_17
    have z_17 : w.heap.size ≤ w2.heap.size := by omega
    have p_18 := p_12.same (same_below b (by omega))
    clear p_12
    have r_18 := r_12.same (same_below b (by omega))
    clear r_12
    have x_18 := x_12.same (same_below b (by omega))
    clear x_12
    have out_18 := out_13.same (same_below b (by omega))
    clear out_13
    have B_17 := B_13.trans (b.mono (by omega))
    clear B_13 b
    have cp_19 := p_18.cells
    have fp_19 := p_18.free
    have cr_20 := r_18.cells
    have fr_20 := r_18.free
    have cout_21 := out_18.cells
    have fout_21 := out_18.free
    have hfin : ∀ w9, w9 = w2.setCell ⟨w.heap.size + 1, 0, none⟩ (.slice A1 n c1) → OwSS w.heap.size w9.heap.size w9 A1 n c1 g1 (iss (dropR xss)) ∧ Below w.heap.size w w9 := by
      intro w9 h9
      subst h9
      have h := (by rw [HDR.out]; exact x_18 : OwSS _ _ w2 A1 n c1 g1 (iss (dropR xss)))
      have hsz : (w2.setCell ⟨w.heap.size + 1, 0, none⟩ (.slice A1 n c1)).heap.size = w2.heap.size := by simp [World.setCell]
      rw [hsz]
      exact ⟨(h.same (same_setc (b := w.heap.size + 1) (i := 0) (u := .slice A1 n c1) (by omega))).wide (by omega) (by omega), Below.setCell (p := ⟨w.heap.size + 1, 0, none⟩) B_17 (by show w.heap.size ≤ w.heap.size + 1; omega) _⟩
    have HFin := Lib.hid hfin
    clear hfin
    have r0 := r_18.cells 0; have fr0 := r_18.free 0
    simp at r0
    go_wp2_with ((with_reducible refine bodyPost_ret (v := .tuple #[.agg #[.slice A1 n c1], .bool false]) ?k1 ?k2 ?k3); (case k1 => (simp [results, Try.results19, go_sem, r0, fr0])); (case k2 => rfl); (case k3 => (exact ⟨A1, n, c1, g1, by rw [HDB.out], (HFin.out _ rfl).1, (HFin.out _ rfl).2⟩)))
  · have HWin := Lib.hid hw
    clear hw
    by_cases hn0 : n = 0
    · subst hn0
      have HDB : Hid (dropB xss = false) := by unfold Hid dropB; rw [HWin.out, HXL.out]; rfl
      have HDR : Hid (dropR xss = xss) := by unfold Hid dropR; rw [HDB.out]; rfl
      have B0 := Below.refl w.heap.size w
      have s0 : w.heap.size ≤ w.heap.size := Nat.le_refl _
      go_enter Try.func19, Try.ntmps19
      have p_2 : Bx (w.alloc (.cells #[.slice A 0 c] 26)) (w.heap.size) 26 #[.slice A 0 c] := Bx.new _ _ _
      have B_2 := B0.alloc s0 (.cells #[.slice A 0 c] 26)
      clear B0
      have cp_3 := p_2.cells
      have fp_3 := p_2.free
      clear cp_3 fp_3
      have p_4 := p_2.same (same_alloc (.cells #[.slice none 0 0] 26) (by simp only [World.size_alloc]; omega))
      clear p_2
      have r_5 : Bx ((w.alloc (.cells #[.slice A 0 c] 26)).alloc (.cells #[.slice none 0 0] 26)) (w.heap.size + 1) 26 #[.slice none 0 0] := by
        have h := Bx.new (w.alloc (.cells #[.slice A 0 c] 26)) 26 #[.slice none 0 0]
        simpa only [World.size_alloc] using h
      have B_5 := B_2.alloc (by simp only [World.size_alloc]; omega) (.cells #[.slice none 0 0] 26)
      clear B_2
      have cp_6 := p_4.cells
      have fp_6 := p_4.free
      have cr_7 := r_5.cells
      have fr_7 := r_5.free
      go_wp2_with fail
      refine (iCloneWindow_any A 0 c hs xss _ (H.out.below B_5 (Nat.le_refl _)) hb hn).mono ?_
      rintro e w1 ⟨A1, c1, g1, rfl, o, b⟩
      clear cp_6 fp_6
      clear cr_7 fr_7
      simp only [World.size_alloc] at b o
      have t_8 := b.size
      simp only [World.size_alloc] at t_8
      have z_8 : w.heap.size ≤ w1.heap.size := by omega
      have p_9 := p_4.same (same_below b (by omega))
      clear p_4
      have r_9 := r_5.same (same_below b (by omega))
      clear r_5
      have B_8 := B_5.trans (b.mono (by omega))
      clear B_5 b
      have x_8 := o
      clear o
      have cp_10 := p_9.cells
      have fp_10 := p_9.free
      have cr_11 := r_9.cells
      have fr_11 := r_9.free
      clear cp_10 fp_10
      clear cr_11 fr_11
      have p_12 := p_9.same (same_alloc (.cells #[.slice A1 0 c1] 26) (by omega))
      clear p_9
      have r_12 := r_9.same (same_alloc (.cells #[.slice A1 0 c1] 26) (by omega))
      clear r_9
      have x_12 := x_8.same (same_alloc (.cells #[.slice A1 0 c1] 26) (by omega))
      clear x_8
      have out_13 : Bx (w1.alloc (.cells #[.slice A1 0 c1] 26)) (w1.heap.size) 26 #[.slice A1 0 c1] := Bx.new _ _ _
      have B_13 := B_8.alloc z_8 (.cells #[.slice A1 0 c1] 26)
      clear B_8
      have cp_14 := p_12.cells
      have fp_14 := p_12.free
      have cr_15 := r_12.cells
      have fr_15 := r_12.free
      have cout_16 := out_13.cells
      have fout_16 := out_13.free
      go_wp2_with fail
      refine (iWindowOk_any A 0 c hs xss _ (H.out.below B_13 (Nat.le_refl _)) hb hn HWf.out).mono ?_
      rw [HWin.out]
      rintro e w2 ⟨rfl, b⟩
      clear cp_14 fp_14
      clear cr_15 fr_15
      clear cout_16 fout_16
      simp only [World.size_alloc] at b
      have t_17 := b.size
      simp only [World.size_alloc] at t_17
      have z_17 : w.heap.size ≤ w2.heap.size := by omega
      have p_18 := p_12.same (same_below b (by omega))
      clear p_12
      have r_18 := r_12.same (same_below b (by omega))
      clear r_12
      have x_18 := x_12.same (same_below b (by omega))
      clear x_12
      have out_18 := out_13.same (same_below b (by omega))
      clear out_13
      have B_17 := B_13.trans (b.mono (by omega))
      clear B_13 b
      have cp_19 := p_18.cells
      have fp_19 := p_18.free
      have cr_20 := r_18.cells
      have fr_20 := r_18.free
      have cout_21 := out_18.cells
      have fout_21 := out_18.free
      have hfin : ∀ w9, w9 = w2.setCell ⟨w.heap.size + 1, 0, none⟩ (.slice A1 0 c1) → OwSS w.heap.size w9.heap.size w9 A1 0 c1 g1 (iss (dropR xss)) ∧ Below w.heap.size w w9 := by
        intro w9 h9
        subst h9
        have h := (by rw [HDR.out]; exact x_18 : OwSS _ _ w2 A1 0 c1 g1 (iss (dropR xss)))
        have hsz : (w2.setCell ⟨w.heap.size + 1, 0, none⟩ (.slice A1 0 c1)).heap.size = w2.heap.size := by simp [World.setCell]
        rw [hsz]
        exact ⟨(h.same (same_setc (b := w.heap.size + 1) (i := 0) (u := .slice A1 0 c1) (by omega))).wide (by omega) (by omega), Below.setCell (p := ⟨w.heap.size + 1, 0, none⟩) B_17 (by show w.heap.size ≤ w.heap.size + 1; omega) _⟩
      have HFin := Lib.hid hfin
      clear hfin
      have r0 := r_18.cells 0; have fr0 := r_18.free 0
      simp at r0
      go_wp2_with ((with_reducible refine bodyPost_ret (v := .tuple #[.agg #[.slice A1 0 c1], .bool false]) ?k1 ?k2 ?k3); (case k1 => (simp [results, Try.results19, go_sem, r0, fr0])); (case k2 => rfl); (case k3 => (exact ⟨A1, 0, c1, g1, by rw [HDB.out], (HFin.out _ rfl).1, (HFin.out _ rfl).2⟩)))
    · obtain ⟨l, hnl⟩ : ∃ l, n = l + 1 := ⟨n - 1, by omega⟩
      have HDB : Hid (dropB xss = true) := by unfold Hid dropB; rw [HWin.out, HXL.out, decide_eq_true (by omega)]; rfl
      have hp0' : ¬ (n : Int) = 0 := by omega
      have hln : l < n := by omega
      have n3 : (n : Int) - 1 = (l : Int) := by omega
      have N2 : Hid (IntKind.i64.wrap ((n : Int) - 1) = (l : Int)) := by unfold Hid; rw [n3]; exact IntWalk.i64_in _ (by omega)
      have HXl : Hid (xss.length - 1 = l) := by unfold Hid; rw [HXL.out]; omega
      clear hnl n3
      have hpb : ((n : Int) == 0) = false := beq_false_of_ne hp0'
      have hpd : decide ((n : Int) = 0) = false := decide_eq_false hp0'
      have B0 := Below.refl w.heap.size w
      have s0 : w.heap.size ≤ w.heap.size := Nat.le_refl _
      go_enter Try.func19, Try.ntmps19
      have p_2 : Bx (w.alloc (.cells #[.slice A n c] 26)) (w.heap.size) 26 #[.slice A n c] := Bx.new _ _ _
      have B_2 := B0.alloc s0 (.cells #[.slice A n c] 26)
      clear B0
      have cp_3 := p_2.cells
      have fp_3 := p_2.free
      clear cp_3 fp_3
      have p_4 := p_2.same (same_alloc (.cells #[.slice none 0 0] 26) (by simp only [World.size_alloc]; omega))
      clear p_2
      have r_5 : Bx ((w.alloc (.cells #[.slice A n c] 26)).alloc (.cells #[.slice none 0 0] 26)) (w.heap.size + 1) 26 #[.slice none 0 0] := by
        have h := Bx.new (w.alloc (.cells #[.slice A n c] 26)) 26 #[.slice none 0 0]
        simpa only [World.size_alloc] using h
      have B_5 := B_2.alloc (by simp only [World.size_alloc]; omega) (.cells #[.slice none 0 0] 26)
      clear B_2
      have cp_6 := p_4.cells
      have fp_6 := p_4.free
      have cr_7 := r_5.cells
      have fr_7 := r_5.free
      go_wp2_with fail
      refine (iCloneWindow_any A n c hs xss _ (H.out.below B_5 (Nat.le_refl _)) hb hn).mono ?_
      rintro e w1 ⟨A1, c1, g1, rfl, o, b⟩
      clear cp_6 fp_6
      clear cr_7 fr_7
      simp only [World.size_alloc] at b o
      have t_8 := b.size
      simp only [World.size_alloc] at t_8
      have z_8 : w.heap.size ≤ w1.heap.size := by omega
      have p_9 := p_4.same (same_below b (by omega))
      clear p_4
      have r_9 := r_5.same (same_below b (by omega))
      clear r_5
      have B_8 := B_5.trans (b.mono (by omega))
      clear B_5 b
      have x_8 := o
      clear o
      have cp_10 := p_9.cells
      have fp_10 := p_9.free
      have cr_11 := r_9.cells
      have fr_11 := r_9.free
      clear cp_10 fp_10
      clear cr_11 fr_11
      have p_12 := p_9.same (same_alloc (.cells #[.slice A1 n c1] 26) (by omega))
      clear p_9
      have r_12 := r_9.same (same_alloc (.cells #[.slice A1 n c1] 26) (by omega))
      clear r_9
      have x_12 := x_8.same (same_alloc (.cells #[.slice A1 n c1] 26) (by omega))
      clear x_8
      have out_13 : Bx (w1.alloc (.cells #[.slice A1 n c1] 26)) (w1.heap.size) 26 #[.slice A1 n c1] := Bx.new _ _ _
      have B_13 := B_8.alloc z_8 (.cells #[.slice A1 n c1] 26)
      clear B_8
      have cp_14 := p_12.cells
      have fp_14 := p_12.free
      have cr_15 := r_12.cells
      have fr_15 := r_12.free
      have cout_16 := out_13.cells
      have fout_16 := out_13.free
      go_wp2_with fail
      refine (iWindowOk_any A n c hs xss _ (H.out.below B_13 (Nat.le_refl _)) hb hn HWf.out).mono ?_
      rw [HWin.out]
      rintro e w2 ⟨rfl, b⟩
      clear cp_14 fp_14
      clear cr_15 fr_15
      clear cout_16 fout_16
      simp only [World.size_alloc] at b
      have t_17 := b.size
      simp only [World.size_alloc] at t_17
      have z_17 : w.heap.size ≤ w2.heap.size := by omega
      have p_18 := p_12.same (same_below b (by omega))
      clear p_12
      have r_18 := r_12.same (same_below b (by omega))
      clear r_12
      have x_18 := x_12.same (same_below b (by omega))
      clear x_12
      have out_18 := out_13.same (same_below b (by omega))
      clear out_13
      have B_17 := B_13.trans (b.mono (by omega))
      clear B_13 b
      have cp_19 := p_18.cells
      have fp_19 := p_18.free
      have cr_20 := r_18.cells
      have fr_20 := r_18.free
      have cout_21 := out_18.cells
      have fout_21 := out_18.free
      have HAc := Lib.hid B_17; have HR := Lib.hid r_18; have HX := Lib.hid x_18; have HO := Lib.hid out_18; have lo_ := out_18.lt
      obtain ⟨ga, ca, hA, hga1, hga2, hcn, hcm⟩ := own_form HX.out.hd.own (show 0 < n by omega)
      simp only [Value.slice.injEq] at hA
      obtain ⟨rfl, _, rfl⟩ := hA
      have hgx := HX.out.hd.top ga rfl
      obtain ⟨y, vs, hy, hv, hrd, hvl⟩ := HX.out.rd.get (show l < n by omega)
      obtain ⟨xs, hxs, rfl⟩ := iss_get' hv
      obtain ⟨xa, xn, xc⟩ := y
      simp only [List.length_map] at hvl hrd
      have hrow := HX.out.rows.row l _ _ hy hv
      have hrl := rowB_len (winB_row HWin.out hxs)
      have hx1 : 1 ≤ xn := by omega
      have hx3 : xn ≤ 3 := by omega
      obtain ⟨gr, cr, hrv, hgr1, hgr2, hcr1, hcr2⟩ := own_form hrow.own (show 0 < xn by omega)
      simp only [Value.slice.injEq] at hrv
      obtain ⟨rfl, _, hxc⟩ := hrv
      have h8 : xn ≤ cr := hcr1
      have h9 : xc = cr := hxc
      have hxc' : xn ≤ xc := by omega
      clear hxc hcr1 hcr2 h8 h9
      have hgrt := hrow.top gr rfl
      have hgg : ga ≠ gr := fun e => HX.out.off l _ ga hy rfl (by rw [e]; rfl)
      have hgo : gr ≠ (w1.heap.size) := by omega
      have hcell : w2.cell? ⟨ga, l, none⟩ = some (.slice (some ⟨gr, 0, none⟩) xn xc) := by rw [HX.out.hd.own.cellAt l (by omega)]; simp [hy, hdV]
      have hfrz : w2.frozen? ⟨ga, l, none⟩ = false := HX.out.hd.own.frozenAt l
      have o0 := HO.out.cells 0
      simp at o0
      have HDrow : Hid (dropRow xss = xs.drop 1) := by unfold Hid dropRow; rw [HXl.out]; simp [List.getD, hxs]
      have HRow := Lib.hid hrow.own.drew
      have HY := Lib.hid hy; have HXs := Lib.hid hxs; have HV := Lib.hid hv
      have HVL := Lib.hid hvl
      have HC1 := Lib.hid hcell; have HC2 := Lib.hid hfrz; have HC3 := Lib.hid o0
      have HKe : Hid (∀ w' : World, w2.grownBy w' (some gr) → w'.cell? ⟨ga, l, none⟩ = some (.slice (some ⟨gr, 0, none⟩) xn xc) ∧ w'.frozen? ⟨ga, l, none⟩ = false ∧ w'.cell? ⟨(w1.heap.size), 0, none⟩ = some (.slice (some ⟨ga, 0, none⟩) n c1)) := fun w' hg => ⟨(cell_grown hg (by show ga < _; omega) (by simpa using hgg)).trans hcell, (frozen_grown hg (by show ga < _; omega) (by simpa using hgg)).trans hfrz, (cell_grown hg (by show (w1.heap.size) < _; omega) (by simpa using fun e => hgo e.symm)).trans o0⟩
      have n0 : (0 : Int) ≤ (l : Int) := Int.natCast_nonneg _
      have n1 : (l : Int) < (n : Int) := by omega
      have n2 := N2.out
      clear hrow hrd hv hy hxs hvl hcell hfrz o0
      have o0 := HO.out.cells 0
      simp at o0
      go_upto_region 5 with fail
      clear cp_19 fp_19 cr_20 fr_20 cout_21 fout_21 o0
      go_cut [] (fun wx => OwSS (w.heap.size + 1 + 1) w2.heap.size wx (some ⟨ga, 0, none⟩) n c1 (g1.set l (some ⟨gr, 0, none⟩, xn - 1, xc)) ((iss xss).set l ((xs.drop 1).map (Value.int .i64))) ∧ Bx wx ((w1.heap.size)) 26 #[.slice (some ⟨ga, 0, none⟩) n c1] ∧ Below (w.heap.size + 1 + 1) w2 wx ∧ wx.heap.size = w2.heap.size)
      case first =>
        have hcell := HC1.out; have hfrz := HC2.out; have o0 := HC3.out
        go_region_with ((go_at_call 39; refine (del_any (w.heap.size + 1 + 1) gr xn xc 1 xs _ HRow.out (by omega) (by omega) (by omega)).mono ?_; rintro e u3 ⟨rfl, od, gd, zd⟩; have hgd : w2.grownBy u3 (some gr) := (grown_drew _).trans gd; obtain ⟨hc3, hf3, o3⟩ := HKe.out _ hgd))
        all_goals
          have HY9 := Lib.hid (HX.out.turn (y := (some ⟨gr, 0, none⟩, xn - 1, xc)) (by omega) HY.out hgd od (fun k hk => .inl (by simpa [hdV, Value.ownBlock] using hk)))
          have hz3 : u3.heap.size = w2.heap.size := zd
          have b3 : Below (w.heap.size + 1 + 1) w2 u3 := Below.grown (Below.refl _ _) hgd (by omega) (fun kk hk => by injection hk with hk; omega)
          have HB9 : Hid (Below (w.heap.size + 1 + 1) w2 (u3.setCell ⟨ga, l, none⟩ (.slice (some ⟨gr, 0, none⟩) (xn - 1) xc))) := Below.setCell (p := ⟨ga, l, none⟩) b3 hga1 _
          have hsz9 : (u3.setCell ⟨ga, l, none⟩ (.slice (some ⟨gr, 0, none⟩) (xn - 1) xc)).heap.size = u3.heap.size := by simp [World.setCell]
          have HO9 : Hid (Bx (u3.setCell ⟨ga, l, none⟩ (.slice (some ⟨gr, 0, none⟩) (xn - 1) xc)) ((w1.heap.size)) 26 #[.slice (some ⟨ga, 0, none⟩) n c1]) := (HO.out.same (same_grown hgd (by omega) (by intro k hk; injection hk with hk; omega))).same (same_setc (by omega))
          go_wp2_with fail
          all_goals go_meet
          all_goals exact ⟨by rw [← hz3]; exact HY9.out, HO9.out, HB9.out, by rw [hsz9]; exact hz3⟩
      obtain ⟨hp9, ho9, hb9, hzz⟩ := hcut
      obtain ⟨u9, rfl⟩ : ∃ u9 : World, u9 = wc := ⟨_, rfl⟩
      have hgl : g1.length = n := HX.out.hlen
      have hrows : ∀ (j : Nat) (x : Hd), (g1.set l (some ⟨gr, 0, none⟩, xn - 1, xc))[j]? = some x → ∀ k, (hdV x).ownBlock = some k → (w.heap.size + 1 + 1) ≤ k ∧ k ≠ (w1.heap.size) := by
        intro j x hj k hk
        by_cases hjl : l = j
        · subst hjl
          rw [List.getElem?_set_self (by omega)] at hj
          obtain rfl := Option.some.inj hj
          simp only [hdV, Value.ownBlock, Option.some.injEq] at hk
          omega
        · rw [List.getElem?_set_ne hjl] at hj
          have := HX.out.rows.top j x k hj hk
          omega
      have HRows := Lib.hid hrows
      have hcell9 : u9.cell? ⟨ga, l, none⟩ = some (.slice (some ⟨gr, 0, none⟩) (xn - 1) xc) := by
        rw [hp9.hd.own.cellAt l (by omega), List.getElem?_map, List.getElem?_set_self (by omega)]; rfl
      have o9 := ho9.cells 0; have f9 := ho9.free 0
      simp at o9
      have r0 : u9.cell? ⟨w.heap.size + 1, 0, none⟩ = some (.slice none 0 0) := (hb9.cell (p := ⟨w.heap.size + 1, 0, none⟩) (show w.heap.size + 1 < _ by omega)).trans (HR.out.cells 0)
      have fr0 : u9.frozen? ⟨w.heap.size + 1, 0, none⟩ = false := (hb9.frozen (p := ⟨w.heap.size + 1, 0, none⟩) (show w.heap.size + 1 < _ by omega)).trans (HR.out.free 0)
      have HP9 := Lib.hid (hp9.wide (Nat.le_refl _) (Nat.le_of_eq hzz.symm))
      have HW9 : Hid (Below w.heap.size w u9) := HAc.out.trans (hb9.mono (by omega))
      have hz9 : w2.heap.size ≤ u9.heap.size := by omega
      have hdl : (dropRow xss).length = xn - 1 := by rw [HDrow.out, List.length_drop, HVL.out]
      have hgne : ga ≠ (w1.heap.size) := by omega
      clear hrows hp9 ho9 hb9 HRow HC1 HC2 HC3 HKe hzz
      by_cases h0 : xn - 1 = 0
      · have HDR : Hid (iss (dropR xss) = ((iss xss).set l ((xs.drop 1).map (Value.int .i64))).take l) := by
          unfold Hid dropR
          rw [if_pos HDB.out, if_pos (by rw [hdl]; exact h0), HXl.out, List.take_set_of_le (Nat.le_refl _)]
          unfold iss; rw [List.map_take]
        have hfin : ∀ w9, w9 = (u9.setCell ⟨(w1.heap.size), 0, none⟩ (.slice (some ⟨ga, 0, none⟩) l c1)).setCell ⟨w.heap.size + 1, 0, none⟩ (.slice (some ⟨ga, 0, none⟩) l c1) → OwSS w.heap.size w9.heap.size w9 (some ⟨ga, 0, none⟩) l c1 ((g1.set l (some ⟨gr, 0, none⟩, xn - 1, xc)).take l) (iss (dropR xss)) ∧ Below w.heap.size w w9 := by
          intro w9 h9
          subst h9
          have hsz : ((u9.setCell ⟨(w1.heap.size), 0, none⟩ (.slice (some ⟨ga, 0, none⟩) l c1)).setCell ⟨w.heap.size + 1, 0, none⟩ (.slice (some ⟨ga, 0, none⟩) l c1)).heap.size = u9.heap.size := by simp [World.setCell]
          rw [hsz, HDR.out]
          have h := HP9.out.take (m := l) (by omega)
          have h2 := h.off_set (b := (w1.heap.size)) (i := 0) (u := .slice (some ⟨ga, 0, none⟩) l c1) (fun e => hgne (Option.some.inj e)) (fun j x hj e => (HRows.out j x (take_get hj) _ e).2 rfl)
          have h3 := h2.off_set (b := w.heap.size + 1) (i := 0) (u := .slice (some ⟨ga, 0, none⟩) l c1) (fun e => by have := Option.some.inj e; dsimp only at this; omega) (fun j x hj e => by have := (HRows.out j x (take_get hj) _ e).1; omega)
          exact ⟨h3.wide (by omega) (Nat.le_refl _), Below.setCell (p := ⟨w.heap.size + 1, 0, none⟩) (Below.setCell (p := ⟨(w1.heap.size), 0, none⟩) HW9.out (by show w.heap.size ≤ (w1.heap.size); omega) _) (by show w.heap.size ≤ w.heap.size + 1; omega) _⟩
        have HFin := Lib.hid hfin
        rw [h0] at hcell9
        have n7 : (l : Int) ≤ (c1 : Int) := by omega
        clear hfin hdl h0
        go_wp2_with ((with_reducible refine bodyPost_ret (v := .tuple #[.agg #[.slice (some ⟨ga, 0, none⟩) l c1], .bool true]) ?k1 ?k2 ?k3); (case k1 => (simp [results, Try.results19, go_sem, r0, fr0])); (case k2 => rfl); (case k3 => (exact ⟨(some ⟨ga, 0, none⟩), l, c1, ((g1.set l (some ⟨gr, 0, none⟩, xn - 1, xc)).take l), by rw [HDB.out], (HFin.out _ rfl).1, (HFin.out _ rfl).2⟩)))
      · have HDR : Hid (iss (dropR xss) = (iss xss).set l ((xs.drop 1).map (Value.int .i64))) := by
          unfold Hid dropR
          rw [if_pos HDB.out, if_neg (by rw [hdl]; exact h0), HXl.out, HDrow.out]
          unfold iss; rw [List.map_set]
        have hfin : ∀ w9, w9 = u9.setCell ⟨w.heap.size + 1, 0, none⟩ (.slice (some ⟨ga, 0, none⟩) n c1) → OwSS w.heap.size w9.heap.size w9 (some ⟨ga, 0, none⟩) n c1 (g1.set l (some ⟨gr, 0, none⟩, xn - 1, xc)) (iss (dropR xss)) ∧ Below w.heap.size w w9 := by
          intro w9 h9
          subst h9
          have hsz : (u9.setCell ⟨w.heap.size + 1, 0, none⟩ (.slice (some ⟨ga, 0, none⟩) n c1)).heap.size = u9.heap.size := by simp [World.setCell]
          rw [hsz, HDR.out]
          have h3 := HP9.out.off_set (b := w.heap.size + 1) (i := 0) (u := .slice (some ⟨ga, 0, none⟩) n c1) (fun e => by have := Option.some.inj e; dsimp only at this; omega) (fun j x hj e => by have := (HRows.out j x hj _ e).1; omega)
          exact ⟨h3.wide (by omega) (Nat.le_refl _), Below.setCell (p := ⟨w.heap.size + 1, 0, none⟩) HW9.out (by show w.heap.size ≤ w.heap.size + 1; omega) _⟩
        have HFin := Lib.hid hfin
        obtain ⟨zn, hzn⟩ : ∃ zn, xn - 1 = zn := ⟨_, rfl⟩
        rw [hzn] at hcell9
        have m0 : ¬ (zn : Int) = 0 := by omega
        have mb : ((zn : Int) == 0) = false := beq_false_of_ne m0
        have md : decide ((zn : Int) = 0) = false := decide_eq_false m0
        clear hfin hdl h0 hzn
        go_wp2_with ((with_reducible refine bodyPost_ret (v := .tuple #[.agg #[.slice (some ⟨ga, 0, none⟩) n c1], .bool true]) ?k1 ?k2 ?k3); (case k1 => (simp [results, Try.results19, go_sem, r0, fr0])); (case k2 => rfl); (case k3 => (exact ⟨(some ⟨ga, 0, none⟩), n, c1, (g1.set l (some ⟨gr, 0, none⟩, xn - 1, xc)), by rw [HDB.out], (HFin.out _ rfl).1, (HFin.out _ rfl).2⟩)))

end Go.Proofs.Ytnljlehbjdambaa
