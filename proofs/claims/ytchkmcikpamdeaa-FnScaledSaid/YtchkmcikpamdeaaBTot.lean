/-
  branchTotals of impl.
-/
import Derived.Test.YtchkmcikpamdeaaStatOkI
import Derived.Test.YtchkmcikpamdeaaBranch
import Derived.Lib.QuietBelow
namespace Go.Proofs.Ytchkmcikpamdeaa
open Go.RowKit Go.Sort
set_option linter.unusedSimpArgs false
set_option linter.unusedVariables false

/-- A row with the numbers struck whose bin is not taken. -/
def selRow (m : Nat) (sel : Nat → Bool) (row : List Int) : List Int := row.mapIdx fun j x => if sel (j / m) then x else 0
theorem selRow_get {m t : Nat} {sel : Nat → Bool} {row : List Int} {x : Int} (h : row[t]? = some x) : (selRow m sel row)[t]? = some (if sel (t / m) then x else 0) := by
  unfold selRow; rw [List.getElem?_mapIdx, h]; rfl
theorem selRow_bad {m : Nat} {sel : Nat → Bool} {row : List Int} (h : badW row = false) : badW (selRow m sel row) = false := by
  refine badW_no fun j x hx => ?_
  unfold selRow at hx
  rw [List.getElem?_mapIdx] at hx
  obtain ⟨y, hy, rfl⟩ := Option.map_eq_some_iff.1 hx
  have := badW_get h (List.mem_of_getElem? hy)
  rw [inB_iff]
  split
  · exact this
  · omega
def brSel (ats : List AD) (cs : List ByteArray) (fa ft i : Int) : Nat → Bool := fun b => decide (boI ats cs fa ft (b : Nat) = i)
theorem runL_skip {m q : Nat} {row : List Int} (hm : m = 2 ∨ m = 3) (hx : row[q]? = some 0) : runL m (q + 1) row = runL m q row := by
  unfold runL; apply List.map_congr_left; intro j hj; rw [runC_succ hm (List.mem_range.1 hj) hx]; split <;> simp
theorem own_kept {w w' : World} {base : Nat} {e : TypeId} {n c : Nat} {A : Option Addr} {xs : List Value} (h : w.ownsRow base e 1 (.slice A n c) n xs) (hb : Below w.heap.size w w') : w'.ownsRow base e 1 (.slice A n c) n xs :=
  ((Ow.of h).same (same_below hb (Nat.le_refl _))).own

set_option maxRecDepth 20000 in
set_option maxHeartbeats 4000000 in
theorem ibrTot_any (A C : Option Addr) (n c m d : Nat) (hs : List AH) (ats : List AD) (cs : List ByteArray) (T X : Option Addr) (q e0 p f0 : Nat) (gs : List Hd) (ts : List Int) (xss : List (List Int)) (w : World) (r : Sch w A C n m d hs ats cs) (s : Sta w T X q p gs ts xss) (k : Nat) (ft i : Int) (row : List Int) (nb : Nat) (hrow : xss[k]? = some row) (hrl : row.length = nb * m) (hbr : badW row = false) (hm : m = 2 ∨ m = 3) (hn4 : nb ≤ 4) :
    Calls Try.prog 74 #[.agg #[.slice A n c, .slice C m d], .agg #[.slice T q e0, .slice X p f0], .agg #[.int .i64 (k : Nat), .int .i64 ft], .int .i64 i] w fun e w' => ∃ g, e = .returned (.slice (some ⟨g, 0, none⟩) m m) ∧ w'.ownsRow w.heap.size 3 1 (.slice (some ⟨g, 0, none⟩) m m) m (runL m row.length (selRow m (brSel ats cs k ft i) row)) ∧ Below w.heap.size w w' := by
  have R := Lib.hid r
  have S := Lib.hid s
  have HL := Lib.hid r.lenA; have HC := Lib.hid r.lenC
  have HT := Lib.hid s.lenT; have HX := Lib.hid s.lenX
  have hn := r.hn; have hq := s.hq; have hp := s.hp
  clear r s
  rcases hm with rfl | rfl
  · skip
    have B0 := Below.refl w.heap.size w
    have s0 : w.heap.size ≤ w.heap.size := Nat.le_refl _
    go_enter Try.func74, Try.ntmps74
    have p_2 : Bx (w.alloc (.cells #[.slice A n c, .slice C 2 d] 40)) (w.heap.size) 40 #[.slice A n c, .slice C 2 d] := Bx.new _ _ _
    have B_2 := B0.alloc s0 (.cells #[.slice A n c, .slice C 2 d] 40)
    clear B0
    have cp_3 := p_2.cells
    have fp_3 := p_2.free
    clear cp_3 fp_3
    have p_4 := p_2.same (same_alloc (.cells #[.slice T q e0, .slice X p f0] 35) (by simp only [World.size_alloc]; omega))
    clear p_2
    have t_5 : Bx ((w.alloc (.cells #[.slice A n c, .slice C 2 d] 40)).alloc (.cells #[.slice T q e0, .slice X p f0] 35)) (w.heap.size + 1) 35 #[.slice T q e0, .slice X p f0] := by
      have h := Bx.new (w.alloc (.cells #[.slice A n c, .slice C 2 d] 40)) 35 #[.slice T q e0, .slice X p f0]
      simpa only [World.size_alloc] using h
    have B_5 := B_2.alloc (by simp only [World.size_alloc]; omega) (.cells #[.slice T q e0, .slice X p f0] 35)
    clear B_2
    have cp_6 := p_4.cells
    have fp_6 := p_4.free
    have ct_7 := t_5.cells
    have ft_7 := t_5.free
    clear cp_6 fp_6
    clear ct_7 ft_7
    have p_8 := p_4.same (same_alloc (.cells #[.int .i64 (k : Nat), .int .i64 ft] 55) (by simp only [World.size_alloc]; omega))
    clear p_4
    have t_8 := t_5.same (same_alloc (.cells #[.int .i64 (k : Nat), .int .i64 ft] 55) (by simp only [World.size_alloc]; omega))
    clear t_5
    have f_9 : Bx (((w.alloc (.cells #[.slice A n c, .slice C 2 d] 40)).alloc (.cells #[.slice T q e0, .slice X p f0] 35)).alloc (.cells #[.int .i64 (k : Nat), .int .i64 ft] 55)) (w.heap.size + 1 + 1) 55 #[.int .i64 (k : Nat), .int .i64 ft] := by
      have h := Bx.new ((w.alloc (.cells #[.slice A n c, .slice C 2 d] 40)).alloc (.cells #[.slice T q e0, .slice X p f0] 35)) 55 #[.int .i64 (k : Nat), .int .i64 ft]
      simpa only [World.size_alloc] using h
    have B_9 := B_5.alloc (by simp only [World.size_alloc]; omega) (.cells #[.int .i64 (k : Nat), .int .i64 ft] 55)
    clear B_5
    have cp_10 := p_8.cells
    have fp_10 := p_8.free
    have ct_11 := t_8.cells
    have ft_11 := t_8.free
    have cf_12 := f_9.cells
    have ff_12 := f_9.free
    go_wp2_with fail
    refine (iZeros_any 2 _ (by omega)).mono ?_
    rintro e w1 ⟨g5, rfl, o, b⟩
    clear cp_10 fp_10
    clear ct_11 ft_11
    clear cf_12 ff_12
    simp only [World.size_alloc] at b o
    have t_13 := b.size
    simp only [World.size_alloc] at t_13
    have z_13 : w.heap.size ≤ w1.heap.size := by omega
    have p_14 := p_8.same (same_below b (by omega))
    clear p_8
    have t_14 := t_8.same (same_below b (by omega))
    clear t_8
    have f_14 := f_9.same (same_below b (by omega))
    clear f_9
    have B_13 := B_9.trans (b.mono (by omega))
    clear B_9 b
    have ow_13 := Ow.of o
    clear o
    have cp_15 := p_14.cells
    have fp_15 := p_14.free
    have ct_16 := t_14.cells
    have ft_16 := t_14.free
    have cf_17 := f_14.cells
    have ff_17 := f_14.free
    have HAc := Lib.hid B_13; have HP := Lib.hid p_14; have HTb := Lib.hid t_14; have HF := Lib.hid f_14
    have HO5 : Hid (w1.ownsRow (w.heap.size + 1 + 1 + 1) 3 1 (.slice (some ⟨g5, 0, none⟩) 2 2) 2 (runL 2 0 (selRow 2 (brSel ats cs k ft i) row))) := by unfold Hid; rw [runL_zero (by omega)]; exact ow_13.own
    clear ow_13
    have hkp : k < p := by have := (List.getElem?_eq_some_iff.1 hrow).1; rw [HX.out] at this; exact this
    obtain ⟨y, vs, hy, hv, hrd, hvl⟩ := S.out.cel.get hkp
    obtain ⟨b2, o2, rfl, lb2, e2⟩ := S.out.cel.head hkp hy
    obtain ⟨row', hrow', rfl⟩ := iss_get' hv
    obtain rfl := Option.some.inj (hrow'.symm.trans hrow)
    obtain ⟨ya, yn, yc⟩ := y
    simp only [List.length_map] at hvl hrd e2
    have hyn : yn ≤ 12 := by omega
    have g2 : w1.cell? ⟨b2, o2 + k, none⟩ = some (.slice ya yn yc) := (B_13.cell (p := ⟨b2, o2 + k, none⟩) lb2).trans e2
    have HRL := Lib.hid hvl; have HRd := Lib.hid hrd; have HBR := Lib.hid hbr
    have k0 : (0 : Int) ≤ (k : Int) := Int.natCast_nonneg _
    have k1 : (k : Int) < (p : Int) := by omega
    clear hy hv hrow' hrd e2 hrow
    go_wp2_with fail
    clear cp_15 fp_15 ct_16 ft_16 cf_17 ff_17 g2 k0 k1
    go_loopw [25] (fun ix wr => ∃ t : Nat, t ≤ yn ∧ ix = .int .i64 t ∧ wr.ownsRow (w.heap.size + 1 + 1 + 1) 3 1 (.slice (some ⟨g5, 0, none⟩) 2 2) 2 (runL 2 t (selRow 2 (brSel ats cs k ft i) row')) ∧ Below (w.heap.size + 1 + 1 + 1) w1 wr) (fun ix _ => yn - (intOf ix).toNat)
    case atStart => exact ⟨0, Nat.zero_le _, rfl, HO5.out, Below.refl _ _⟩
    case round =>
      obtain ⟨t, ht, rfl, hown, hbel⟩ := hrel
      have HBel := Lib.hid hbel; have HOwn := Lib.hid hown
      have HW : Hid (Below w.heap.size w wr) := HAc.out.trans (hbel.mono (by omega))
      clear hbel hown
      by_cases hlt : t < yn
      · obtain ⟨b3, o3, rfl, lb3, hc3⟩ := HRd.out.ex (show 0 < yn by omega)
        obtain ⟨x, hx⟩ : ∃ x, row'[t]? = some x := ⟨_, List.getElem?_eq_getElem (by rw [HRL.out]; exact hlt)⟩
        have hcell : wr.cell? ⟨b3, o3 + t, none⟩ = some (.int .i64 x) := (HW.out.cell (p := ⟨b3, o3 + t, none⟩) lb3).trans (hc3 _ _ (by simp [hx]))
        have hxb := badW_get HBR.out (List.mem_of_getElem? hx)
        obtain ⟨r, hr⟩ : ∃ r, t % 2 = r := ⟨_, rfl⟩
        obtain ⟨u, hu⟩ : ∃ u, t / 2 = u := ⟨_, rfl⟩
        have hrM : r < 2 := by omega
        have HSel := Lib.hid (selRow_get (m := 2) (sel := brSel ats cs k ft i) hx)
        obtain ⟨z, hz⟩ : ∃ z, boI ats cs k ft (u : Nat) = z := ⟨_, rfl⟩
        have HZ := Lib.hid hz; have HR := Lib.hid hr; have HU := Lib.hid hu
        have n0 : (0 : Int) ≤ (t : Int) := Int.natCast_nonneg _
        have n1 : (t : Int) < (yn : Int) := by omega
        have m0 : Int.tmod (t : Int) 2 = (r : Int) := by rw [Int.tmod_eq_emod_of_nonneg n0]; omega
        have m1 : IntKind.i64.wrap (r : Int) = (r : Int) := IntWalk.i64_in _ (by omega)
        have m2 : (0 : Int) ≤ (r : Int) := Int.natCast_nonneg _
        have m3 : (r : Int) < 2 := by omega
        have d0 : Int.tdiv (t : Int) 2 = (u : Int) := by rw [Int.tdiv_eq_ediv_of_nonneg n0]; omega
        have d1 : IntKind.i64.wrap (u : Int) = (u : Int) := IntWalk.i64_in _ (by omega)
        clear hc3 hx hz hr hu
        have l0 := cell_regrown (w := wr) (a := ⟨w.heap.size, 0, none⟩) (v := .slice A n c) ((HBel.out.cell (p := ⟨w.heap.size, 0, none⟩) (by show w.heap.size < _; omega)).trans (HP.out.cells 0))
        have l1 := cell_regrown (w := wr) (a := ⟨w.heap.size, 1, none⟩) (v := .slice C 2 d) ((HBel.out.cell (p := ⟨w.heap.size, 1, none⟩) (by show w.heap.size < _; omega)).trans (HP.out.cells 1))
        have l2 := cell_regrown (w := wr) (a := ⟨w.heap.size + 1 + 1, 0, none⟩) (v := .int .i64 (k : Nat)) ((HBel.out.cell (p := ⟨w.heap.size + 1 + 1, 0, none⟩) (by show w.heap.size + 1 + 1 < _; omega)).trans (HF.out.cells 0))
        have l3 := cell_regrown (w := wr) (a := ⟨w.heap.size + 1 + 1, 1, none⟩) (v := .int .i64 ft) ((HBel.out.cell (p := ⟨w.heap.size + 1 + 1, 1, none⟩) (by show w.heap.size + 1 + 1 < _; omega)).trans (HF.out.cells 1))
        have cB : ∀ d' os, Calls Try.prog 39 #[.agg #[.slice A n c, .slice C 2 d], .agg #[.int .i64 (k : Nat), .int .i64 ft], .int .i64 (u : Nat)] (grow (redrawn wr d') os) fun e w'' => e = .returned (.int .i64 z) ∧ ∃ p : Regrown, w'' = grow (redrawn wr p.d) p.os := fun d' os => Calls.regrown_of (by rw [← HZ.out]; exact iBranchOf_any _ _ _ _ _ _ _ ats cs _ _ _ _ (R.out.below (HW.out.trans ((below_regrown wr d' os).mono HW.out.size)) (Nat.le_refl _)))
        go_wp2_with fail
        refine wp_region_quiet_below (by kernel_rfl) (by kernel_rfl) ?_
        repeat (first | go_big_quiet_step (first | with_reducible exact cB _ _) | quiet_step (first | with_reducible exact cB _ _))
        refine wpQuiet_nil ?_
        intro _ hw'
        obtain ⟨⟨dq, osq⟩, hw''⟩ := hw'
        subst hw''
        have bq := below_regrown wr dq osq
        clear cB l0 l1 l2 l3 hcell d0 d1
        generalize grow (redrawn wr dq) osq = w6 at bq ⊢
        have HO6 := Lib.hid (own_kept HOwn.out bq)
        have HB6 := Lib.hid (HBel.out.trans (bq.mono (by have h1 := HBel.out.size; have h2 := HAc.out.size; have h3 := HP.out.lt; have h4 := HF.out.lt; omega)))
        clear bq HOwn HBel
        by_cases hzi : z = i
        · subst hzi
          have HXr : Hid ((selRow 2 (brSel ats cs k ft z) row')[t]? = some x) := by unfold Hid; rw [HSel.out, if_pos (by unfold brSel; rw [HU.out]; exact decide_eq_true HZ.out)]
          obtain ⟨s, hs⟩ : ∃ s, runC 2 t r (selRow 2 (brSel ats cs k ft z) row') = s := ⟨_, rfl⟩
          have hrun : 0 ≤ s ∧ s ≤ 3996 := by
            have h := colB_bd (m := 2) (k := r) (row := selRow 2 (brSel ats cs k ft z) row') (fun x hx => badW_get (selRow_bad HBR.out) hx) (cntC 2 t r)
            have h2 := cntC_le (m := 2) (b := nb) (q := t) (k := r) (by omega) hrM (by omega)
            rw [← hs]; unfold runC; omega
          have HSet : Hid ((runL 2 t (selRow 2 (brSel ats cs k ft z) row')).set r (.int .i64 (s + x)) = runL 2 (t + 1) (selRow 2 (brSel ats cs k ft z) row')) := by unfold Hid; rw [← hs]; exact runL_set (by omega) HXr.out HR.out
          have hsc : w6.cell? ⟨g5, r, none⟩ = some (.int .i64 s) := by rw [HO6.out.cellAt r (by omega)]; exact runL_get hrM hs
          have hfr : w6.frozen? ⟨g5, r, none⟩ = false := HO6.out.frozenAt r
          obtain ⟨hs1, hs2⟩ := HO6.out.stored r (.int .i64 (s + x))
          rw [HSet.out] at hs1
          have hgv := (HO6.out.lt g5 rfl).1
          have HO9 := Lib.hid hs1
          have HB9 := Lib.hid (Below.setCell (p := ⟨g5, r, none⟩) HB6.out hgv (.int .i64 (s + x)))
          clear hs hs1 hs2
          go_wp2_with fail
          clear m0 m1 n0 n1 m2 m3
          go_roundw
          case rel => exact ⟨t + 1, by omega, by go_num, HO9.out, HB9.out⟩
          case measure => simp [intOf]; omega
        · have HXr : Hid ((selRow 2 (brSel ats cs k ft i) row')[t]? = some 0) := by unfold Hid; rw [HSel.out, if_neg (by unfold brSel; rw [HU.out, HZ.out]; simpa using hzi)]
          have HO9 : Hid (w6.ownsRow (w.heap.size + 1 + 1 + 1) 3 1 (.slice (some ⟨g5, 0, none⟩) 2 2) 2 (runL 2 (t + 1) (selRow 2 (brSel ats cs k ft i) row'))) := by unfold Hid; rw [runL_skip (by omega) HXr.out]; exact HO6.out
          have c0 : (z == i) = false := beq_false_of_ne hzi
          have c1 : decide (z = i) = false := decide_eq_false hzi
          go_wp2_with fail
          clear m0 m1 n0 n1 m2 m3 c0 c1
          go_roundw
          case rel => exact ⟨t + 1, by omega, by go_num, HO9.out, HB6.out⟩
          case measure => simp [intOf]; omega
      · obtain rfl : t = yn := by omega
        go_wp2_with fail
        go_ret
        exact ⟨g5, rfl, by rw [HRL.out]; exact own_base HOwn.out (by omega), HW.out⟩
  · skip
    have B0 := Below.refl w.heap.size w
    have s0 : w.heap.size ≤ w.heap.size := Nat.le_refl _
    go_enter Try.func74, Try.ntmps74
    have p_2 : Bx (w.alloc (.cells #[.slice A n c, .slice C 3 d] 40)) (w.heap.size) 40 #[.slice A n c, .slice C 3 d] := Bx.new _ _ _
    have B_2 := B0.alloc s0 (.cells #[.slice A n c, .slice C 3 d] 40)
    clear B0
    have cp_3 := p_2.cells
    have fp_3 := p_2.free
    clear cp_3 fp_3
    have p_4 := p_2.same (same_alloc (.cells #[.slice T q e0, .slice X p f0] 35) (by simp only [World.size_alloc]; omega))
    clear p_2
    have t_5 : Bx ((w.alloc (.cells #[.slice A n c, .slice C 3 d] 40)).alloc (.cells #[.slice T q e0, .slice X p f0] 35)) (w.heap.size + 1) 35 #[.slice T q e0, .slice X p f0] := by
      have h := Bx.new (w.alloc (.cells #[.slice A n c, .slice C 3 d] 40)) 35 #[.slice T q e0, .slice X p f0]
      simpa only [World.size_alloc] using h
    have B_5 := B_2.alloc (by simp only [World.size_alloc]; omega) (.cells #[.slice T q e0, .slice X p f0] 35)
    clear B_2
    have cp_6 := p_4.cells
    have fp_6 := p_4.free
    have ct_7 := t_5.cells
    have ft_7 := t_5.free
    clear cp_6 fp_6
    clear ct_7 ft_7
    have p_8 := p_4.same (same_alloc (.cells #[.int .i64 (k : Nat), .int .i64 ft] 55) (by simp only [World.size_alloc]; omega))
    clear p_4
    have t_8 := t_5.same (same_alloc (.cells #[.int .i64 (k : Nat), .int .i64 ft] 55) (by simp only [World.size_alloc]; omega))
    clear t_5
    have f_9 : Bx (((w.alloc (.cells #[.slice A n c, .slice C 3 d] 40)).alloc (.cells #[.slice T q e0, .slice X p f0] 35)).alloc (.cells #[.int .i64 (k : Nat), .int .i64 ft] 55)) (w.heap.size + 1 + 1) 55 #[.int .i64 (k : Nat), .int .i64 ft] := by
      have h := Bx.new ((w.alloc (.cells #[.slice A n c, .slice C 3 d] 40)).alloc (.cells #[.slice T q e0, .slice X p f0] 35)) 55 #[.int .i64 (k : Nat), .int .i64 ft]
      simpa only [World.size_alloc] using h
    have B_9 := B_5.alloc (by simp only [World.size_alloc]; omega) (.cells #[.int .i64 (k : Nat), .int .i64 ft] 55)
    clear B_5
    have cp_10 := p_8.cells
    have fp_10 := p_8.free
    have ct_11 := t_8.cells
    have ft_11 := t_8.free
    have cf_12 := f_9.cells
    have ff_12 := f_9.free
    go_wp2_with fail
    refine (iZeros_any 3 _ (by omega)).mono ?_
    rintro e w1 ⟨g5, rfl, o, b⟩
    clear cp_10 fp_10
    clear ct_11 ft_11
    clear cf_12 ff_12
    simp only [World.size_alloc] at b o
    have t_13 := b.size
    simp only [World.size_alloc] at t_13
    have z_13 : w.heap.size ≤ w1.heap.size := by omega
    have p_14 := p_8.same (same_below b (by omega))
    clear p_8
    have t_14 := t_8.same (same_below b (by omega))
    clear t_8
    have f_14 := f_9.same (same_below b (by omega))
    clear f_9
    have B_13 := B_9.trans (b.mono (by omega))
    clear B_9 b
    have ow_13 := Ow.of o
    clear o
    have cp_15 := p_14.cells
    have fp_15 := p_14.free
    have ct_16 := t_14.cells
    have ft_16 := t_14.free
    have cf_17 := f_14.cells
    have ff_17 := f_14.free
    have HAc := Lib.hid B_13; have HP := Lib.hid p_14; have HTb := Lib.hid t_14; have HF := Lib.hid f_14
    have HO5 : Hid (w1.ownsRow (w.heap.size + 1 + 1 + 1) 3 1 (.slice (some ⟨g5, 0, none⟩) 3 3) 3 (runL 3 0 (selRow 3 (brSel ats cs k ft i) row))) := by unfold Hid; rw [runL_zero (by omega)]; exact ow_13.own
    clear ow_13
    have hkp : k < p := by have := (List.getElem?_eq_some_iff.1 hrow).1; rw [HX.out] at this; exact this
    obtain ⟨y, vs, hy, hv, hrd, hvl⟩ := S.out.cel.get hkp
    obtain ⟨b2, o2, rfl, lb2, e2⟩ := S.out.cel.head hkp hy
    obtain ⟨row', hrow', rfl⟩ := iss_get' hv
    obtain rfl := Option.some.inj (hrow'.symm.trans hrow)
    obtain ⟨ya, yn, yc⟩ := y
    simp only [List.length_map] at hvl hrd e2
    have hyn : yn ≤ 12 := by omega
    have g2 : w1.cell? ⟨b2, o2 + k, none⟩ = some (.slice ya yn yc) := (B_13.cell (p := ⟨b2, o2 + k, none⟩) lb2).trans e2
    have HRL := Lib.hid hvl; have HRd := Lib.hid hrd; have HBR := Lib.hid hbr
    have k0 : (0 : Int) ≤ (k : Int) := Int.natCast_nonneg _
    have k1 : (k : Int) < (p : Int) := by omega
    clear hy hv hrow' hrd e2 hrow
    go_wp2_with fail
    clear cp_15 fp_15 ct_16 ft_16 cf_17 ff_17 g2 k0 k1
    go_loopw [25] (fun ix wr => ∃ t : Nat, t ≤ yn ∧ ix = .int .i64 t ∧ wr.ownsRow (w.heap.size + 1 + 1 + 1) 3 1 (.slice (some ⟨g5, 0, none⟩) 3 3) 3 (runL 3 t (selRow 3 (brSel ats cs k ft i) row')) ∧ Below (w.heap.size + 1 + 1 + 1) w1 wr) (fun ix _ => yn - (intOf ix).toNat)
    case atStart => exact ⟨0, Nat.zero_le _, rfl, HO5.out, Below.refl _ _⟩
    case round =>
      obtain ⟨t, ht, rfl, hown, hbel⟩ := hrel
      have HBel := Lib.hid hbel; have HOwn := Lib.hid hown
      have HW : Hid (Below w.heap.size w wr) := HAc.out.trans (hbel.mono (by omega))
      clear hbel hown
      by_cases hlt : t < yn
      · obtain ⟨b3, o3, rfl, lb3, hc3⟩ := HRd.out.ex (show 0 < yn by omega)
        obtain ⟨x, hx⟩ : ∃ x, row'[t]? = some x := ⟨_, List.getElem?_eq_getElem (by rw [HRL.out]; exact hlt)⟩
        have hcell : wr.cell? ⟨b3, o3 + t, none⟩ = some (.int .i64 x) := (HW.out.cell (p := ⟨b3, o3 + t, none⟩) lb3).trans (hc3 _ _ (by simp [hx]))
        have hxb := badW_get HBR.out (List.mem_of_getElem? hx)
        obtain ⟨r, hr⟩ : ∃ r, t % 3 = r := ⟨_, rfl⟩
        obtain ⟨u, hu⟩ : ∃ u, t / 3 = u := ⟨_, rfl⟩
        have hrM : r < 3 := by omega
        have HSel := Lib.hid (selRow_get (m := 3) (sel := brSel ats cs k ft i) hx)
        obtain ⟨z, hz⟩ : ∃ z, boI ats cs k ft (u : Nat) = z := ⟨_, rfl⟩
        have HZ := Lib.hid hz; have HR := Lib.hid hr; have HU := Lib.hid hu
        have n0 : (0 : Int) ≤ (t : Int) := Int.natCast_nonneg _
        have n1 : (t : Int) < (yn : Int) := by omega
        have m0 : Int.tmod (t : Int) 3 = (r : Int) := by rw [Int.tmod_eq_emod_of_nonneg n0]; omega
        have m1 : IntKind.i64.wrap (r : Int) = (r : Int) := IntWalk.i64_in _ (by omega)
        have m2 : (0 : Int) ≤ (r : Int) := Int.natCast_nonneg _
        have m3 : (r : Int) < 3 := by omega
        have d0 : Int.tdiv (t : Int) 3 = (u : Int) := by rw [Int.tdiv_eq_ediv_of_nonneg n0]; omega
        have d1 : IntKind.i64.wrap (u : Int) = (u : Int) := IntWalk.i64_in _ (by omega)
        clear hc3 hx hz hr hu
        have l0 := cell_regrown (w := wr) (a := ⟨w.heap.size, 0, none⟩) (v := .slice A n c) ((HBel.out.cell (p := ⟨w.heap.size, 0, none⟩) (by show w.heap.size < _; omega)).trans (HP.out.cells 0))
        have l1 := cell_regrown (w := wr) (a := ⟨w.heap.size, 1, none⟩) (v := .slice C 3 d) ((HBel.out.cell (p := ⟨w.heap.size, 1, none⟩) (by show w.heap.size < _; omega)).trans (HP.out.cells 1))
        have l2 := cell_regrown (w := wr) (a := ⟨w.heap.size + 1 + 1, 0, none⟩) (v := .int .i64 (k : Nat)) ((HBel.out.cell (p := ⟨w.heap.size + 1 + 1, 0, none⟩) (by show w.heap.size + 1 + 1 < _; omega)).trans (HF.out.cells 0))
        have l3 := cell_regrown (w := wr) (a := ⟨w.heap.size + 1 + 1, 1, none⟩) (v := .int .i64 ft) ((HBel.out.cell (p := ⟨w.heap.size + 1 + 1, 1, none⟩) (by show w.heap.size + 1 + 1 < _; omega)).trans (HF.out.cells 1))
        have cB : ∀ d' os, Calls Try.prog 39 #[.agg #[.slice A n c, .slice C 3 d], .agg #[.int .i64 (k : Nat), .int .i64 ft], .int .i64 (u : Nat)] (grow (redrawn wr d') os) fun e w'' => e = .returned (.int .i64 z) ∧ ∃ p : Regrown, w'' = grow (redrawn wr p.d) p.os := fun d' os => Calls.regrown_of (by rw [← HZ.out]; exact iBranchOf_any _ _ _ _ _ _ _ ats cs _ _ _ _ (R.out.below (HW.out.trans ((below_regrown wr d' os).mono HW.out.size)) (Nat.le_refl _)))
        go_wp2_with fail
        refine wp_region_quiet_below (by kernel_rfl) (by kernel_rfl) ?_
        repeat (first | go_big_quiet_step (first | with_reducible exact cB _ _) | quiet_step (first | with_reducible exact cB _ _))
        refine wpQuiet_nil ?_
        intro _ hw'
        obtain ⟨⟨dq, osq⟩, hw''⟩ := hw'
        subst hw''
        have bq := below_regrown wr dq osq
        clear cB l0 l1 l2 l3 hcell d0 d1
        generalize grow (redrawn wr dq) osq = w6 at bq ⊢
        have HO6 := Lib.hid (own_kept HOwn.out bq)
        have HB6 := Lib.hid (HBel.out.trans (bq.mono (by have h1 := HBel.out.size; have h2 := HAc.out.size; have h3 := HP.out.lt; have h4 := HF.out.lt; omega)))
        clear bq HOwn HBel
        by_cases hzi : z = i
        · subst hzi
          have HXr : Hid ((selRow 3 (brSel ats cs k ft z) row')[t]? = some x) := by unfold Hid; rw [HSel.out, if_pos (by unfold brSel; rw [HU.out]; exact decide_eq_true HZ.out)]
          obtain ⟨s, hs⟩ : ∃ s, runC 3 t r (selRow 3 (brSel ats cs k ft z) row') = s := ⟨_, rfl⟩
          have hrun : 0 ≤ s ∧ s ≤ 3996 := by
            have h := colB_bd (m := 3) (k := r) (row := selRow 3 (brSel ats cs k ft z) row') (fun x hx => badW_get (selRow_bad HBR.out) hx) (cntC 3 t r)
            have h2 := cntC_le (m := 3) (b := nb) (q := t) (k := r) (by omega) hrM (by omega)
            rw [← hs]; unfold runC; omega
          have HSet : Hid ((runL 3 t (selRow 3 (brSel ats cs k ft z) row')).set r (.int .i64 (s + x)) = runL 3 (t + 1) (selRow 3 (brSel ats cs k ft z) row')) := by unfold Hid; rw [← hs]; exact runL_set (by omega) HXr.out HR.out
          have hsc : w6.cell? ⟨g5, r, none⟩ = some (.int .i64 s) := by rw [HO6.out.cellAt r (by omega)]; exact runL_get hrM hs
          have hfr : w6.frozen? ⟨g5, r, none⟩ = false := HO6.out.frozenAt r
          obtain ⟨hs1, hs2⟩ := HO6.out.stored r (.int .i64 (s + x))
          rw [HSet.out] at hs1
          have hgv := (HO6.out.lt g5 rfl).1
          have HO9 := Lib.hid hs1
          have HB9 := Lib.hid (Below.setCell (p := ⟨g5, r, none⟩) HB6.out hgv (.int .i64 (s + x)))
          clear hs hs1 hs2
          go_wp2_with fail
          clear m0 m1 n0 n1 m2 m3
          go_roundw
          case rel => exact ⟨t + 1, by omega, by go_num, HO9.out, HB9.out⟩
          case measure => simp [intOf]; omega
        · have HXr : Hid ((selRow 3 (brSel ats cs k ft i) row')[t]? = some 0) := by unfold Hid; rw [HSel.out, if_neg (by unfold brSel; rw [HU.out, HZ.out]; simpa using hzi)]
          have HO9 : Hid (w6.ownsRow (w.heap.size + 1 + 1 + 1) 3 1 (.slice (some ⟨g5, 0, none⟩) 3 3) 3 (runL 3 (t + 1) (selRow 3 (brSel ats cs k ft i) row'))) := by unfold Hid; rw [runL_skip (by omega) HXr.out]; exact HO6.out
          have c0 : (z == i) = false := beq_false_of_ne hzi
          have c1 : decide (z = i) = false := decide_eq_false hzi
          go_wp2_with fail
          clear m0 m1 n0 n1 m2 m3 c0 c1
          go_roundw
          case rel => exact ⟨t + 1, by omega, by go_num, HO9.out, HB6.out⟩
          case measure => simp [intOf]; omega
      · obtain rfl : t = yn := by omega
        go_wp2_with fail
        go_ret
        exact ⟨g5, rfl, by rw [HRL.out]; exact own_base HOwn.out (by omega), HW.out⟩

end Go.Proofs.Ytchkmcikpamdeaa
