/-
  AttrsOk of both packages.
-/
import Derived.Test.YtchkmcikpamdeaaDoorFork
import Derived.Lib.QuietBelow
namespace Go.Proofs.YtchkmcikpamdeaaDoor
open Go.RowKit Go.Sort
set_option linter.unusedSimpArgs false
set_option linter.unusedVariables false

def attrsB (ats : List AD) (cs : List ByteArray) (xs : List Int) : Bool := schB ats cs && decide (0 < xs.length) && ascB xs && xs.all fun x => inB x 0 ((ats.length : Int) - 1)
theorem attrsB_no1 {ats : List AD} {cs : List ByteArray} {xs : List Int} (h : schB ats cs = false) : attrsB ats cs xs = false := by simp [attrsB, h]
theorem attrsB_no2 {ats : List AD} {cs : List ByteArray} {xs : List Int} (h : ¬ 0 < xs.length) : attrsB ats cs xs = false := by simp [attrsB, h]
theorem attrsB_no3 {ats : List AD} {cs : List ByteArray} {xs : List Int} (h : ascB xs = false) : attrsB ats cs xs = false := by simp [attrsB, h]
theorem attrsB_no4 {ats : List AD} {cs : List ByteArray} {xs : List Int} {k : Nat} {x : Int} (hx : xs[k]? = some x) (h : inB x 0 ((ats.length : Int) - 1) = false) : attrsB ats cs xs = false := by
  have : xs.all (fun x => inB x 0 ((ats.length : Int) - 1)) = false := by rw [List.all_eq_false]; exact ⟨x, List.mem_of_getElem? hx, by simp [h]⟩
  unfold attrsB; rw [this, Bool.and_false]
theorem attrsB_good {ats : List AD} {cs : List ByteArray} {xs : List Int} (h1 : schB ats cs = true) (h2 : 0 < xs.length) (h3 : ascB xs = true) (h4 : ∀ (k : Nat) (x : Int), xs[k]? = some x → inB x 0 ((ats.length : Int) - 1) = true) : attrsB ats cs xs = true := by
  have : xs.all (fun x => inB x 0 ((ats.length : Int) - 1)) = true := by rw [List.all_eq_true]; intro x hx; obtain ⟨k, hk⟩ := List.getElem?_of_mem hx; exact h4 k x hk
  unfold attrsB; rw [h1, h3, this, decide_eq_true h2]; rfl
theorem asc_mono {xs : List Int} (h : ascB xs = true) : ∀ (t j : Nat) (x y : Int), xs[j]? = some x → xs[j + t]? = some y → x ≤ y
  | 0, j, x, y, hx, hy => by rw [Nat.add_zero, hx] at hy; injection hy with e; omega
  | t + 1, j, x, y, hx, hy => by
    have hl := (List.getElem?_eq_some_iff.1 hy).1
    have h1 : j + t < xs.length := by omega
    have h2 := asc_mono h t j x _ hx (List.getElem?_eq_getElem h1)
    have h3 := ascB_get h (List.getElem?_eq_getElem h1) (by rw [show j + t + 1 = j + (t + 1) by omega]; exact hy)
    omega

set_option maxRecDepth 100000 in
set_option maxHeartbeats 8000000 in
theorem iAttrsOk_any (A C : Option Addr) (n c m d : Nat) (hs : List AH) (ats : List AD) (cs : List ByteArray) (X : Option Addr) (q e0 : Nat) (xs : List Int) (w : World) (r : Sch w A C n m d hs ats cs) (hx : Rd w X q (xs.map (Value.int .i64))) (hq : q ≤ 1048576) :
    Calls Tryd.prog 15 #[.agg #[.slice A n c, .slice C m d], .slice X q e0] w fun e w' => e = .returned (.bool (attrsB ats cs xs)) ∧ Below w.heap.size w w' := by
  have R := Lib.hid r
  have HL := Lib.hid r.lenA
  have hn := r.hn
  clear r
  have HX := Lib.hid hx
  have HXL : Hid (xs.length = q) := by have := hx.len; unfold Hid; simpa using this
  clear hx
  cases h1 : schB ats cs
  · have H1 := Lib.hid h1
    have HV := Lib.hid (attrsB_no1 (xs := xs) h1)
    clear h1
    have B0 := Below.refl w.heap.size w
    have s0 : w.heap.size ≤ w.heap.size := Nat.le_refl _
    go_enter Tryd.func15, Tryd.ntmps15
    have p_2 : Bx (w.alloc (.cells #[.slice A n c, .slice C m d] 32)) (w.heap.size) 32 #[.slice A n c, .slice C m d] := Bx.new _ _ _
    have B_2 := B0.alloc s0 (.cells #[.slice A n c, .slice C m d] 32)
    clear B0
    have cp_3 := p_2.cells
    have fp_3 := p_2.free
    go_wp2_with fail
    clear cp_3 fp_3
    obtain ⟨v4, hv4⟩ : ∃ v4, v4 = (w.alloc (.cells #[.slice A n c, .slice C m d] 32)) := ⟨_, rfl⟩
    have zv4 : w.heap.size + 1 ≤ v4.heap.size := by rw [hv4]; simp
    rw [← hv4] at p_2 B_2 ⊢
    clear hv4
    have R1 := Lib.hid (R.out.below B_2 (Nat.le_refl _)); have X1 := Lib.hid (HX.out.below B_2 (Nat.le_refl _))
    have f0 := cell_regrown (w := v4) (a := ⟨w.heap.size, 0, none⟩) (v := .slice A n c) (p_2.cells 0)
    have f1 := cell_regrown (w := v4) (a := ⟨w.heap.size, 1, none⟩) (v := .slice C m d) (p_2.cells 1)
    have cS : ∀ d' os, Calls Tryd.prog 35 #[.agg #[.slice A n c, .slice C m d]] (grow (redrawn v4 d') os) fun e w'' => e = .returned (.bool false) ∧ ∃ p : Regrown, w'' = grow (redrawn v4 p.d) p.os := fun d' os => Calls.regrown_of (by rw [← H1.out]; exact iSchemaOk_any _ C n c m d hs ats cs _ (R1.out.below (below_regrown v4 d' os) (Nat.le_refl _)))
    clear p_2
    refine wp_region_quiet_below (by kernel_rfl) (by kernel_rfl) ?_
    repeat (first | go_big_quiet_step (first | exact cS _ _) | quiet_step (first | exact cS _ _))
    refine wpQuiet_nil ?_
    intro _ hw'
    obtain ⟨⟨dq, osq⟩, hw''⟩ := hw'
    subst hw''
    go_wp2
    go_ret
    exact ⟨by rw [HV.out]; rfl, B_2.trans ((below_regrown _ dq osq).mono B_2.size)⟩
  · have H1 := Lib.hid h1
    by_cases h2 : 0 < q
    · obtain ⟨bx, ox, rfl, hbx, hcx⟩ := HX.out.ex h2
      obtain ⟨l, rfl⟩ : ∃ l, q = l + 1 := ⟨q - 1, by omega⟩
      obtain ⟨x0, hx0⟩ : ∃ x, xs[0]? = some x := ⟨_, List.getElem?_eq_getElem (by rw [HXL.out]; omega)⟩
      obtain ⟨x1, hx1⟩ : ∃ x, xs[l]? = some x := ⟨_, List.getElem?_eq_getElem (by rw [HXL.out]; omega)⟩
      have E0 : Hid (w.cell? ⟨bx, ox, none⟩ = some (.int .i64 x0)) := hcx 0 _ (by simp [hx0])
      have E1 : Hid (w.cell? ⟨bx, ox + l, none⟩ = some (.int .i64 x1)) := hcx l _ (by simp [hx1])
      have HX0 := Lib.hid hx0; have HX1 := Lib.hid hx1
      have h2' : (0 : Int) < ((l + 1 : Nat) : Int) := by omega
      have n0 : (0 : Int) ≤ (l : Int) := Int.natCast_nonneg _
      have n1 : IntKind.i64.wrap (((l + 1 : Nat) : Int) - 1) = (l : Int) := by rw [show ((l + 1 : Nat) : Int) - 1 = (l : Int) by omega]; exact IntWalk.i64_in _ (by omega)
      have n2 : IntKind.i64.wrap ((l : Int) + 1 - 1) = (l : Int) := by rw [show (l : Int) + 1 - 1 = (l : Int) by omega]; exact IntWalk.i64_in _ (by omega)
      have n3 : (l : Int) < (l : Int) + 1 := by omega
      clear hcx hx0 hx1 h1
      cases h3 : ascB xs
      · have H3 := Lib.hid h3
        have HV := Lib.hid (attrsB_no3 (ats := ats) (cs := cs) h3)
        clear h3
        have B0 := Below.refl w.heap.size w
        have s0 : w.heap.size ≤ w.heap.size := Nat.le_refl _
        go_enter Tryd.func15, Tryd.ntmps15
        have p_2 : Bx (w.alloc (.cells #[.slice A n c, .slice C m d] 32)) (w.heap.size) 32 #[.slice A n c, .slice C m d] := Bx.new _ _ _
        have B_2 := B0.alloc s0 (.cells #[.slice A n c, .slice C m d] 32)
        clear B0
        have cp_3 := p_2.cells
        have fp_3 := p_2.free
        go_wp2_with fail
        clear cp_3 fp_3
        obtain ⟨v4, hv4⟩ : ∃ v4, v4 = (w.alloc (.cells #[.slice A n c, .slice C m d] 32)) := ⟨_, rfl⟩
        have zv4 : w.heap.size + 1 ≤ v4.heap.size := by rw [hv4]; simp
        rw [← hv4] at p_2 B_2 ⊢
        clear hv4
        have K0 : Hid (v4.cell? ⟨bx, ox, none⟩ = some (.int .i64 x0)) := (B_2.cell (p := ⟨bx, ox, none⟩) hbx).trans E0.out
        have K1 : Hid (v4.cell? ⟨bx, ox + l, none⟩ = some (.int .i64 x1)) := (B_2.cell (p := ⟨bx, ox + l, none⟩) hbx).trans E1.out
        have lx : bx < v4.heap.size := Nat.lt_of_lt_of_le hbx B_2.size
        have R1 := Lib.hid (R.out.below B_2 (Nat.le_refl _)); have X1 := Lib.hid (HX.out.below B_2 (Nat.le_refl _))
        have f0 := cell_regrown (w := v4) (a := ⟨w.heap.size, 0, none⟩) (v := .slice A n c) (p_2.cells 0)
        have f1 := cell_regrown (w := v4) (a := ⟨w.heap.size, 1, none⟩) (v := .slice C m d) (p_2.cells 1)
        have f2 := cell_regrown (w := v4) (a := ⟨bx, ox, none⟩) (v := .int .i64 x0) K0.out
        have f3 := cell_regrown (w := v4) (a := ⟨bx, ox + l, none⟩) (v := .int .i64 x1) K1.out
        have cS : ∀ d' os, Calls Tryd.prog 35 #[.agg #[.slice A n c, .slice C m d]] (grow (redrawn v4 d') os) fun e w'' => e = .returned (.bool true) ∧ ∃ p : Regrown, w'' = grow (redrawn v4 p.d) p.os := fun d' os => Calls.regrown_of (by rw [← H1.out]; exact iSchemaOk_any _ C n c m d hs ats cs _ (R1.out.below (below_regrown v4 d' os) (Nat.le_refl _)))
        have cA : ∀ d' os, Calls Tryd.prog 36 #[.slice (some ⟨bx, ox, none⟩) (l + 1) e0] (grow (redrawn v4 d') os) fun e w'' => e = .returned (.bool false) ∧ ∃ p : Regrown, w'' = grow (redrawn v4 p.d) p.os := fun d' os => Calls.regrown_of (by rw [← H3.out]; exact iAscending_any _ _ _ xs _ (X1.out.below (below_regrown v4 d' os) (Nat.le_refl _)) hq)
        clear p_2
        refine wp_region_quiet_below (by kernel_rfl) (by kernel_rfl) ?_
        repeat (first | go_big_quiet_step (first | exact cS _ _ | exact cA _ _) | quiet_step (first | exact cS _ _ | exact cA _ _))
        refine wpQuiet_nil ?_
        intro _ hw'
        obtain ⟨⟨dq, osq⟩, hw''⟩ := hw'
        subst hw''
        go_wp2
        go_ret
        exact ⟨by rw [HV.out]; rfl, B_2.trans ((below_regrown _ dq osq).mono B_2.size)⟩
      · have H3 := Lib.hid h3
        clear h3
        by_cases h4 : 0 ≤ x0
        · by_cases h5 : x1 < (n : Int)
          · have HV : Hid (attrsB ats cs xs = true) := by
              refine attrsB_good H1.out (by rw [HXL.out]; omega) H3.out fun k x hk => ?_
              have hkl := (List.getElem?_eq_some_iff.1 hk).1
              rw [HXL.out] at hkl
              have a1 := asc_mono H3.out k 0 x0 x HX0.out (by rw [Nat.zero_add]; exact hk)
              have a2 := asc_mono H3.out (l - k) k x x1 hk (by rw [show k + (l - k) = l by omega]; exact HX1.out)
              exact inB_yes (by omega) (by rw [HL.out]; omega)
            have d4 : decide (0 ≤ x0) = true := decide_eq_true h4
            have d5 : decide (x1 < (n : Int)) = true := decide_eq_true h5
            have B0 := Below.refl w.heap.size w
            have s0 : w.heap.size ≤ w.heap.size := Nat.le_refl _
            go_enter Tryd.func15, Tryd.ntmps15
            have p_2 : Bx (w.alloc (.cells #[.slice A n c, .slice C m d] 32)) (w.heap.size) 32 #[.slice A n c, .slice C m d] := Bx.new _ _ _
            have B_2 := B0.alloc s0 (.cells #[.slice A n c, .slice C m d] 32)
            clear B0
            have cp_3 := p_2.cells
            have fp_3 := p_2.free
            go_wp2_with fail
            clear cp_3 fp_3
            obtain ⟨v4, hv4⟩ : ∃ v4, v4 = (w.alloc (.cells #[.slice A n c, .slice C m d] 32)) := ⟨_, rfl⟩
            have zv4 : w.heap.size + 1 ≤ v4.heap.size := by rw [hv4]; simp
            rw [← hv4] at p_2 B_2 ⊢
            clear hv4
            have K0 : Hid (v4.cell? ⟨bx, ox, none⟩ = some (.int .i64 x0)) := (B_2.cell (p := ⟨bx, ox, none⟩) hbx).trans E0.out
            have K1 : Hid (v4.cell? ⟨bx, ox + l, none⟩ = some (.int .i64 x1)) := (B_2.cell (p := ⟨bx, ox + l, none⟩) hbx).trans E1.out
            have lx : bx < v4.heap.size := Nat.lt_of_lt_of_le hbx B_2.size
            have R1 := Lib.hid (R.out.below B_2 (Nat.le_refl _)); have X1 := Lib.hid (HX.out.below B_2 (Nat.le_refl _))
            have f0 := cell_regrown (w := v4) (a := ⟨w.heap.size, 0, none⟩) (v := .slice A n c) (p_2.cells 0)
            have f1 := cell_regrown (w := v4) (a := ⟨w.heap.size, 1, none⟩) (v := .slice C m d) (p_2.cells 1)
            have f2 := cell_regrown (w := v4) (a := ⟨bx, ox, none⟩) (v := .int .i64 x0) K0.out
            have f3 := cell_regrown (w := v4) (a := ⟨bx, ox + l, none⟩) (v := .int .i64 x1) K1.out
            have cS : ∀ d' os, Calls Tryd.prog 35 #[.agg #[.slice A n c, .slice C m d]] (grow (redrawn v4 d') os) fun e w'' => e = .returned (.bool true) ∧ ∃ p : Regrown, w'' = grow (redrawn v4 p.d) p.os := fun d' os => Calls.regrown_of (by rw [← H1.out]; exact iSchemaOk_any _ C n c m d hs ats cs _ (R1.out.below (below_regrown v4 d' os) (Nat.le_refl _)))
            have cA : ∀ d' os, Calls Tryd.prog 36 #[.slice (some ⟨bx, ox, none⟩) (l + 1) e0] (grow (redrawn v4 d') os) fun e w'' => e = .returned (.bool true) ∧ ∃ p : Regrown, w'' = grow (redrawn v4 p.d) p.os := fun d' os => Calls.regrown_of (by rw [← H3.out]; exact iAscending_any _ _ _ xs _ (X1.out.below (below_regrown v4 d' os) (Nat.le_refl _)) hq)
            clear p_2
            refine wp_region_quiet_below (by kernel_rfl) (by kernel_rfl) ?_
            repeat (first | go_big_quiet_step (first | exact cS _ _ | exact cA _ _) | quiet_step (first | exact cS _ _ | exact cA _ _))
            refine wpQuiet_nil ?_
            intro _ hw'
            obtain ⟨⟨dq, osq⟩, hw''⟩ := hw'
            subst hw''
            go_wp2
            go_ret
            exact ⟨by rw [HV.out]; rfl, B_2.trans ((below_regrown _ dq osq).mono B_2.size)⟩
          · have HV : Hid (attrsB ats cs xs = false) := attrsB_no4 HX1.out (by rw [HL.out]; exact inB_no (by omega))
            have d4 : decide (0 ≤ x0) = true := decide_eq_true h4
            have d5 : decide (x1 < (n : Int)) = false := decide_eq_false h5
            have B0 := Below.refl w.heap.size w
            have s0 : w.heap.size ≤ w.heap.size := Nat.le_refl _
            go_enter Tryd.func15, Tryd.ntmps15
            have p_2 : Bx (w.alloc (.cells #[.slice A n c, .slice C m d] 32)) (w.heap.size) 32 #[.slice A n c, .slice C m d] := Bx.new _ _ _
            have B_2 := B0.alloc s0 (.cells #[.slice A n c, .slice C m d] 32)
            clear B0
            have cp_3 := p_2.cells
            have fp_3 := p_2.free
            go_wp2_with fail
            clear cp_3 fp_3
            obtain ⟨v4, hv4⟩ : ∃ v4, v4 = (w.alloc (.cells #[.slice A n c, .slice C m d] 32)) := ⟨_, rfl⟩
            have zv4 : w.heap.size + 1 ≤ v4.heap.size := by rw [hv4]; simp
            rw [← hv4] at p_2 B_2 ⊢
            clear hv4
            have K0 : Hid (v4.cell? ⟨bx, ox, none⟩ = some (.int .i64 x0)) := (B_2.cell (p := ⟨bx, ox, none⟩) hbx).trans E0.out
            have K1 : Hid (v4.cell? ⟨bx, ox + l, none⟩ = some (.int .i64 x1)) := (B_2.cell (p := ⟨bx, ox + l, none⟩) hbx).trans E1.out
            have lx : bx < v4.heap.size := Nat.lt_of_lt_of_le hbx B_2.size
            have R1 := Lib.hid (R.out.below B_2 (Nat.le_refl _)); have X1 := Lib.hid (HX.out.below B_2 (Nat.le_refl _))
            have f0 := cell_regrown (w := v4) (a := ⟨w.heap.size, 0, none⟩) (v := .slice A n c) (p_2.cells 0)
            have f1 := cell_regrown (w := v4) (a := ⟨w.heap.size, 1, none⟩) (v := .slice C m d) (p_2.cells 1)
            have f2 := cell_regrown (w := v4) (a := ⟨bx, ox, none⟩) (v := .int .i64 x0) K0.out
            have f3 := cell_regrown (w := v4) (a := ⟨bx, ox + l, none⟩) (v := .int .i64 x1) K1.out
            have cS : ∀ d' os, Calls Tryd.prog 35 #[.agg #[.slice A n c, .slice C m d]] (grow (redrawn v4 d') os) fun e w'' => e = .returned (.bool true) ∧ ∃ p : Regrown, w'' = grow (redrawn v4 p.d) p.os := fun d' os => Calls.regrown_of (by rw [← H1.out]; exact iSchemaOk_any _ C n c m d hs ats cs _ (R1.out.below (below_regrown v4 d' os) (Nat.le_refl _)))
            have cA : ∀ d' os, Calls Tryd.prog 36 #[.slice (some ⟨bx, ox, none⟩) (l + 1) e0] (grow (redrawn v4 d') os) fun e w'' => e = .returned (.bool true) ∧ ∃ p : Regrown, w'' = grow (redrawn v4 p.d) p.os := fun d' os => Calls.regrown_of (by rw [← H3.out]; exact iAscending_any _ _ _ xs _ (X1.out.below (below_regrown v4 d' os) (Nat.le_refl _)) hq)
            clear p_2
            refine wp_region_quiet_below (by kernel_rfl) (by kernel_rfl) ?_
            repeat (first | go_big_quiet_step (first | exact cS _ _ | exact cA _ _) | quiet_step (first | exact cS _ _ | exact cA _ _))
            refine wpQuiet_nil ?_
            intro _ hw'
            obtain ⟨⟨dq, osq⟩, hw''⟩ := hw'
            subst hw''
            go_wp2
            go_ret
            exact ⟨by rw [HV.out]; rfl, B_2.trans ((below_regrown _ dq osq).mono B_2.size)⟩
        · have HV : Hid (attrsB ats cs xs = false) := attrsB_no4 HX0.out (inB_no (by omega))
          have d4 : decide (0 ≤ x0) = false := decide_eq_false h4
          have B0 := Below.refl w.heap.size w
          have s0 : w.heap.size ≤ w.heap.size := Nat.le_refl _
          go_enter Tryd.func15, Tryd.ntmps15
          have p_2 : Bx (w.alloc (.cells #[.slice A n c, .slice C m d] 32)) (w.heap.size) 32 #[.slice A n c, .slice C m d] := Bx.new _ _ _
          have B_2 := B0.alloc s0 (.cells #[.slice A n c, .slice C m d] 32)
          clear B0
          have cp_3 := p_2.cells
          have fp_3 := p_2.free
          go_wp2_with fail
          clear cp_3 fp_3
          obtain ⟨v4, hv4⟩ : ∃ v4, v4 = (w.alloc (.cells #[.slice A n c, .slice C m d] 32)) := ⟨_, rfl⟩
          have zv4 : w.heap.size + 1 ≤ v4.heap.size := by rw [hv4]; simp
          rw [← hv4] at p_2 B_2 ⊢
          clear hv4
          have K0 : Hid (v4.cell? ⟨bx, ox, none⟩ = some (.int .i64 x0)) := (B_2.cell (p := ⟨bx, ox, none⟩) hbx).trans E0.out
          have K1 : Hid (v4.cell? ⟨bx, ox + l, none⟩ = some (.int .i64 x1)) := (B_2.cell (p := ⟨bx, ox + l, none⟩) hbx).trans E1.out
          have lx : bx < v4.heap.size := Nat.lt_of_lt_of_le hbx B_2.size
          have R1 := Lib.hid (R.out.below B_2 (Nat.le_refl _)); have X1 := Lib.hid (HX.out.below B_2 (Nat.le_refl _))
          have f0 := cell_regrown (w := v4) (a := ⟨w.heap.size, 0, none⟩) (v := .slice A n c) (p_2.cells 0)
          have f1 := cell_regrown (w := v4) (a := ⟨w.heap.size, 1, none⟩) (v := .slice C m d) (p_2.cells 1)
          have f2 := cell_regrown (w := v4) (a := ⟨bx, ox, none⟩) (v := .int .i64 x0) K0.out
          have f3 := cell_regrown (w := v4) (a := ⟨bx, ox + l, none⟩) (v := .int .i64 x1) K1.out
          have cS : ∀ d' os, Calls Tryd.prog 35 #[.agg #[.slice A n c, .slice C m d]] (grow (redrawn v4 d') os) fun e w'' => e = .returned (.bool true) ∧ ∃ p : Regrown, w'' = grow (redrawn v4 p.d) p.os := fun d' os => Calls.regrown_of (by rw [← H1.out]; exact iSchemaOk_any _ C n c m d hs ats cs _ (R1.out.below (below_regrown v4 d' os) (Nat.le_refl _)))
          have cA : ∀ d' os, Calls Tryd.prog 36 #[.slice (some ⟨bx, ox, none⟩) (l + 1) e0] (grow (redrawn v4 d') os) fun e w'' => e = .returned (.bool true) ∧ ∃ p : Regrown, w'' = grow (redrawn v4 p.d) p.os := fun d' os => Calls.regrown_of (by rw [← H3.out]; exact iAscending_any _ _ _ xs _ (X1.out.below (below_regrown v4 d' os) (Nat.le_refl _)) hq)
          clear p_2
          refine wp_region_quiet_below (by kernel_rfl) (by kernel_rfl) ?_
          repeat (first | go_big_quiet_step (first | exact cS _ _ | exact cA _ _) | quiet_step (first | exact cS _ _ | exact cA _ _))
          refine wpQuiet_nil ?_
          intro _ hw'
          obtain ⟨⟨dq, osq⟩, hw''⟩ := hw'
          subst hw''
          go_wp2
          go_ret
          exact ⟨by rw [HV.out]; rfl, B_2.trans ((below_regrown _ dq osq).mono B_2.size)⟩
    · have HV := Lib.hid (attrsB_no2 (ats := ats) (cs := cs) (xs := xs) (by rw [HXL.out]; exact h2))
      obtain rfl : q = 0 := by omega
      clear h1
      have B0 := Below.refl w.heap.size w
      have s0 : w.heap.size ≤ w.heap.size := Nat.le_refl _
      go_enter Tryd.func15, Tryd.ntmps15
      have p_2 : Bx (w.alloc (.cells #[.slice A n c, .slice C m d] 32)) (w.heap.size) 32 #[.slice A n c, .slice C m d] := Bx.new _ _ _
      have B_2 := B0.alloc s0 (.cells #[.slice A n c, .slice C m d] 32)
      clear B0
      have cp_3 := p_2.cells
      have fp_3 := p_2.free
      go_wp2_with fail
      clear cp_3 fp_3
      obtain ⟨v4, hv4⟩ : ∃ v4, v4 = (w.alloc (.cells #[.slice A n c, .slice C m d] 32)) := ⟨_, rfl⟩
      have zv4 : w.heap.size + 1 ≤ v4.heap.size := by rw [hv4]; simp
      rw [← hv4] at p_2 B_2 ⊢
      clear hv4
      have R1 := Lib.hid (R.out.below B_2 (Nat.le_refl _)); have X1 := Lib.hid (HX.out.below B_2 (Nat.le_refl _))
      have f0 := cell_regrown (w := v4) (a := ⟨w.heap.size, 0, none⟩) (v := .slice A n c) (p_2.cells 0)
      have f1 := cell_regrown (w := v4) (a := ⟨w.heap.size, 1, none⟩) (v := .slice C m d) (p_2.cells 1)
      have cS : ∀ d' os, Calls Tryd.prog 35 #[.agg #[.slice A n c, .slice C m d]] (grow (redrawn v4 d') os) fun e w'' => e = .returned (.bool true) ∧ ∃ p : Regrown, w'' = grow (redrawn v4 p.d) p.os := fun d' os => Calls.regrown_of (by rw [← H1.out]; exact iSchemaOk_any _ C n c m d hs ats cs _ (R1.out.below (below_regrown v4 d' os) (Nat.le_refl _)))
      clear p_2
      refine wp_region_quiet_below (by kernel_rfl) (by kernel_rfl) ?_
      repeat (first | go_big_quiet_step (first | exact cS _ _) | quiet_step (first | exact cS _ _))
      refine wpQuiet_nil ?_
      intro _ hw'
      obtain ⟨⟨dq, osq⟩, hw''⟩ := hw'
      subst hw''
      go_wp2
      go_ret
      exact ⟨by rw [HV.out]; rfl, B_2.trans ((below_regrown _ dq osq).mono B_2.size)⟩

set_option maxHeartbeats 8000000 in
theorem sAttrsOk_any (A C : Option Addr) (n c m d : Nat) (hs : List AH) (ats : List AD) (cs : List ByteArray) (X : Option Addr) (q e0 : Nat) (xs : List Int) (w : World) (r : Sch w A C n m d hs ats cs) (hx : Rd w X q (xs.map (Value.int .i64))) (hq : q ≤ 1048576) :
    Calls Tryd.prog 14 #[.agg #[.slice A n c, .slice C m d], .slice X q e0] w fun e w' => e = .returned (.bool (attrsB ats cs xs)) ∧ Below w.heap.size w w' := by
  have R := Lib.hid r
  have HL := Lib.hid r.lenA
  have hn := r.hn
  clear r
  have HX := Lib.hid hx
  have HXL : Hid (xs.length = q) := by have := hx.len; unfold Hid; simpa using this
  clear hx
  cases h1 : schB ats cs
  · have H1 := Lib.hid h1
    have HV := Lib.hid (attrsB_no1 (xs := xs) h1)
    clear h1
    have B0 := Below.refl w.heap.size w
    have s0 : w.heap.size ≤ w.heap.size := Nat.le_refl _
    go_enter Tryd.func14, Tryd.ntmps14
    have p_2 : Bx (w.alloc (.cells #[.slice A n c, .slice C m d] 32)) (w.heap.size) 32 #[.slice A n c, .slice C m d] := Bx.new _ _ _
    have B_2 := B0.alloc s0 (.cells #[.slice A n c, .slice C m d] 32)
    clear B0
    have cp_3 := p_2.cells
    have fp_3 := p_2.free
    go_wp2_with fail
    refine (sSchemaOk_any _ C n c m d hs ats cs _ (R.out.below B_2 (Nat.le_refl _))).mono ?_
    rw [H1.out]
    rintro e w1 ⟨rfl, b⟩
    clear cp_3 fp_3
    simp only [World.size_alloc] at b
    have t_4 := b.size
    simp only [World.size_alloc] at t_4
    have z_4 : w.heap.size ≤ w1.heap.size := by omega
    have p_5 := p_2.same (same_below b (by omega))
    clear p_2
    have B_4 := B_2.trans (b.mono (by omega))
    clear B_2 b
    have cp_6 := p_5.cells
    have fp_6 := p_5.free
    go_wp2_with fail
    go_ret
    exact ⟨by rw [HV.out]; rfl, B_4⟩
  · have H1 := Lib.hid h1
    clear h1
    by_cases h2 : q = 0
    · subst h2
      have HV := Lib.hid (attrsB_no2 (ats := ats) (cs := cs) (xs := xs) (by rw [HXL.out]; omega))
      have B0 := Below.refl w.heap.size w
      have s0 : w.heap.size ≤ w.heap.size := Nat.le_refl _
      go_enter Tryd.func14, Tryd.ntmps14
      have p_2 : Bx (w.alloc (.cells #[.slice A n c, .slice C m d] 32)) (w.heap.size) 32 #[.slice A n c, .slice C m d] := Bx.new _ _ _
      have B_2 := B0.alloc s0 (.cells #[.slice A n c, .slice C m d] 32)
      clear B0
      have cp_3 := p_2.cells
      have fp_3 := p_2.free
      go_wp2_with fail
      refine (sSchemaOk_any _ C n c m d hs ats cs _ (R.out.below B_2 (Nat.le_refl _))).mono ?_
      rw [H1.out]
      rintro e w1 ⟨rfl, b⟩
      clear cp_3 fp_3
      simp only [World.size_alloc] at b
      have t_4 := b.size
      simp only [World.size_alloc] at t_4
      have z_4 : w.heap.size ≤ w1.heap.size := by omega
      have p_5 := p_2.same (same_below b (by omega))
      clear p_2
      have B_4 := B_2.trans (b.mono (by omega))
      clear B_2 b
      have cp_6 := p_5.cells
      have fp_6 := p_5.free
      go_wp2_with fail
      go_ret
      exact ⟨by rw [HV.out]; rfl, B_4⟩
    · have h2' : ¬ (q : Int) = 0 := by omega
      have B0 := Below.refl w.heap.size w
      have s0 : w.heap.size ≤ w.heap.size := Nat.le_refl _
      go_enter Tryd.func14, Tryd.ntmps14
      have p_2 : Bx (w.alloc (.cells #[.slice A n c, .slice C m d] 32)) (w.heap.size) 32 #[.slice A n c, .slice C m d] := Bx.new _ _ _
      have B_2 := B0.alloc s0 (.cells #[.slice A n c, .slice C m d] 32)
      clear B0
      have cp_3 := p_2.cells
      have fp_3 := p_2.free
      go_wp2_with fail
      refine (sSchemaOk_any _ C n c m d hs ats cs _ (R.out.below B_2 (Nat.le_refl _))).mono ?_
      rw [H1.out]
      rintro e w1 ⟨rfl, b⟩
      clear cp_3 fp_3
      simp only [World.size_alloc] at b
      have t_4 := b.size
      simp only [World.size_alloc] at t_4
      have z_4 : w.heap.size ≤ w1.heap.size := by omega
      have p_5 := p_2.same (same_below b (by omega))
      clear p_2
      have B_4 := B_2.trans (b.mono (by omega))
      clear B_2 b
      have cp_6 := p_5.cells
      have fp_6 := p_5.free
      go_wp2_with fail
      have HP := Lib.hid p_5; have HAc := Lib.hid B_4; have hlp := p_5.lt
      clear cp_6 fp_6
      go_loopw [5] (fun i wr => ∃ k : Nat, k ≤ q ∧ i = .int .i64 k ∧ Hid (∀ (j : Nat) (x : Int), j < k → xs[j]? = some x → inB x 0 ((n : Int) - 1) = true ∧ ∀ y, 0 < j → xs[j - 1]? = some y → y < x) ∧ Below w1.heap.size w1 wr) (fun i _ => q - (intOf i).toNat)
      case atStart => exact ⟨0, Nat.zero_le _, rfl, (fun j x hj => absurd hj (by omega)), Below.refl _ _⟩
      case round =>
        obtain ⟨k, hk, rfl, hgood, hbel⟩ := hrel
        have c0 : wr.cell? ⟨w.heap.size, 0, none⟩ = some (.slice A n c) := (hbel.cell (p := ⟨w.heap.size, 0, none⟩) hlp).trans (HP.out.cells 0)
        by_cases hlt : k < q
        · obtain ⟨b, off, rfl, hbl, hc⟩ := HX.out.ex (by omega)
          obtain ⟨x, hx⟩ : ∃ x, xs[k]? = some x := ⟨_, List.getElem?_eq_getElem (by rw [HXL.out]; exact hlt)⟩
          have hbelw := HAc.out.trans (hbel.mono HAc.out.size)
          have hcell : wr.cell? ⟨b, off + k, none⟩ = some (.int .i64 x) := (hbelw.cell (p := ⟨b, off + k, none⟩) hbl).trans (hc k _ (by simp [hx]))
          have HXk := Lib.hid hx
          have HBel := Lib.hid hbel
          have n0 : (0 : Int) ≤ (k : Int) := Int.natCast_nonneg _
          have n1 : (k : Int) < (q : Int) := by omega
          have nn : IntKind.i64.wrap ((n : Int) - 1) = (n : Int) - 1 := IntWalk.i64_in _ (by omega)
          cases hin : inB x 0 ((n : Int) - 1)
          · have HV : Hid (attrsB ats cs xs = false) := attrsB_no4 HXk.out (by rw [HL.out]; exact hin)
            clear hc hx hbel hbelw
            go_wp2_with fail
            go_quiet ((go_at_call 34; exact Calls.quiet_of_same (l1In_q hin _)))
            clear nn
            go_wp2_with fail
            go_ret
            exact ⟨by rw [HV.out]; rfl, HAc.out.trans ((Below.trans HBel.out (by repeat (first | exact Below.refl _ _ | apply below_drewN | apply Below.drew))).mono HAc.out.size)⟩
          · have HIN := Lib.hid hin
            rcases Nat.eq_zero_or_pos k with hk0 | hk0
            · subst hk0
              simp only [Nat.add_zero] at hcell
              clear hc hx hbel hbelw
              go_wp2_with fail
              go_quiet ((go_at_call 34; exact Calls.quiet_of_same (l1In_q hin _)))
              clear nn
              go_wp2_with fail
              go_roundw
              case rel =>
                refine ⟨1, by omega, by go_num, (fun j u hj hu => ?_), Below.trans HBel.out (by repeat (first | exact Below.refl _ _ | apply below_drewN | apply Below.drew))⟩
                obtain rfl : j = 0 := by omega
                rw [HXk.out] at hu
                obtain rfl := Option.some.inj hu
                exact ⟨HIN.out, fun y h => absurd h (by omega)⟩
              case measure => simp [intOf]; omega
            · obtain ⟨k', rfl⟩ : ∃ k', k = k' + 1 := ⟨k - 1, by omega⟩
              obtain ⟨y, hy⟩ : ∃ y, xs[k']? = some y := ⟨_, List.getElem?_eq_getElem (by rw [HXL.out]; omega)⟩
              have hcell' : wr.cell? ⟨b, off + k', none⟩ = some (.int .i64 y) := (hbelw.cell (p := ⟨b, off + k', none⟩) hbl).trans (hc k' _ (by simp [hy]))
              have HY := Lib.hid hy
              rw [Int.natCast_add] at n0 n1
              rw [Int.natCast_add]
              have hg : (0 : Int) < (k' : Int) + 1 := by omega
              have g0 : (0 : Int) ≤ (k' : Int) := Int.natCast_nonneg _
              have g1 : (k' : Int) < (q : Int) := by omega
              have n4 : ((k' : Int) + 1).toNat = k' + 1 := by omega
              have n5 : IntKind.i64.wrap (k' : Int) = k' := IntWalk.i64_in _ (by omega)
              by_cases hyx : y < x
              · have HYX := Lib.hid hyx
                clear hc hx hy hbel hk0 hbelw
                go_wp2_with fail
                go_quiet ((go_at_call 34; exact Calls.quiet_of_same (l1In_q hin _)))
                clear n4 n5 nn
                go_wp2_with fail
                go_roundw
                case rel =>
                  refine ⟨k' + 2, by omega, by go_num, (fun j u hj hu => ?_), Below.trans HBel.out (by repeat (first | exact Below.refl _ _ | apply below_drewN | apply Below.drew))⟩
                  rcases Nat.lt_or_ge j (k' + 1) with h1 | h1
                  · exact hgood.out j u h1 hu
                  · obtain rfl : j = k' + 1 := by omega
                    rw [HXk.out] at hu
                    obtain rfl := Option.some.inj hu
                    refine ⟨HIN.out, fun v _ hv => ?_⟩
                    rw [show k' + 1 - 1 = k' from rfl, HY.out] at hv
                    obtain rfl := Option.some.inj hv
                    exact HYX.out
                case measure => simp [intOf]; omega
              · have HV : Hid (attrsB ats cs xs = false) := attrsB_no3 (ascB_bad HY.out HXk.out hyx)
                have hxy : x ≤ y := by omega
                clear hc hx hy hbel hk0 hyx hbelw
                go_wp2_with fail
                go_quiet ((go_at_call 34; exact Calls.quiet_of_same (l1In_q hin _)))
                clear n4 n5 nn
                go_wp2_with fail
                go_ret
                exact ⟨by rw [HV.out]; rfl, HAc.out.trans ((Below.trans HBel.out (by repeat (first | exact Below.refl _ _ | apply below_drewN | apply Below.drew))).mono HAc.out.size)⟩
        · obtain rfl : k = q := by omega
          have HV : Hid (attrsB ats cs xs = true) := by
            have hj' : ∀ (j : Nat) (x : Int), xs[j]? = some x → j < k := fun j x hj => by have := (List.getElem?_eq_some_iff.1 hj).1; rw [HXL.out] at this; exact this
            exact attrsB_good H1.out (by rw [HXL.out]; omega) (ascB_good fun j x y hx hy => (hgood.out (j + 1) y (hj' _ _ hy) hy).2 x (by omega) hx) (fun j x hx => by rw [HL.out]; exact (hgood.out j x (hj' _ _ hx) hx).1)
          have HBel := Lib.hid hbel
          clear hbel
          go_wp2_with fail
          go_ret
          exact ⟨by rw [HV.out]; rfl, HAc.out.trans (HBel.out.mono HAc.out.size)⟩

end Go.Proofs.YtchkmcikpamdeaaDoor
