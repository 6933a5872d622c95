/-
  StatsOk of impl.
-/
import Derived.Test.YtchkmcikpamdeaaStat
namespace Go.Proofs.Ytchkmcikpamdeaa
open Go.RowKit
set_option linter.unusedSimpArgs false
set_option linter.unusedVariables false

/-- The running sums, as cells. -/
def runL (m q : Nat) (row : List Int) : List Value := (List.range m).map fun k => .int .i64 (runC m q k row)
theorem runL_zero {m : Nat} {row : List Int} (hm : m = 2 ∨ m = 3) : runL m 0 row = List.replicate m (Value.int .i64 0) := by
  unfold runL
  rcases hm with rfl | rfl <;> simp [runC_zero, List.range_succ, List.replicate]
theorem runL_get {m q r : Nat} {row : List Int} {s : Int} (hr : r < m) (hs : runC m q r row = s) : (runL m q row)[r]? = some (.int .i64 s) := by
  unfold runL; rw [List.getElem?_map, List.getElem?_range hr, Option.map_some, hs]
theorem runL_set {m q r : Nat} {row : List Int} {x : Int} (hm : m = 2 ∨ m = 3) (hx : row[q]? = some x) (hr : q % m = r) : (runL m q row).set r (.int .i64 (runC m q r row + x)) = runL m (q + 1) row := by
  apply List.ext_getElem?
  intro j
  have hl : (runL m q row).length = m := by simp [runL]
  by_cases hj : j < m
  · rw [runL_get hj (runC_succ hm hj hx)]
    by_cases h : r = j
    · subst h
      rw [List.getElem?_set_self (by omega), if_pos hr.symm]
    · rw [List.getElem?_set_ne h, runL_get hj rfl, if_neg (by omega)]
  · rw [List.getElem?_eq_none (by simp [runL]; omega), List.getElem?_eq_none (by simp [runL]; omega)]

set_option maxRecDepth 20000 in
set_option maxHeartbeats 16000000 in
theorem iStatsOk_any (A C : Option Addr) (n c m d : Nat) (hs : List AH) (ats : List AD) (cs : List ByteArray) (T X : Option Addr) (q e0 p f0 : Nat) (gs : List Hd) (ts : List Int) (xss : List (List Int)) (w : World) (r : Sch w A C n m d hs ats cs) (s : Sta w T X q p gs ts xss) :
    Calls Try.prog 33 #[.agg #[.slice A n c, .slice C m d], .agg #[.slice T q e0, .slice X p f0]] w fun e w' => e = .returned (.bool (statsB ats cs ts xss)) ∧ Below w.heap.size w w' := by
  have R := Lib.hid r
  have S := Lib.hid s
  have HL := Lib.hid r.lenA; have HC := Lib.hid r.lenC
  have HT := Lib.hid s.lenT; have HX := Lib.hid s.lenX
  have hn := r.hn; have hq := s.hq; have hp := s.hp
  clear r s
  cases h1 : schB ats cs
  · have H1 := Lib.hid h1
    have HV := Lib.hid (statsB_no1 (ts := ts) (xss := xss) h1)
    clear h1
    have B0 := Below.refl w.heap.size w
    have s0 : w.heap.size ≤ w.heap.size := Nat.le_refl _
    go_enter Try.func33, Try.ntmps33
    have p_2 : Bx (w.alloc (.cells #[.slice A n c, .slice C m d] 40)) (w.heap.size) 40 #[.slice A n c, .slice C m d] := Bx.new _ _ _
    have B_2 := B0.alloc s0 (.cells #[.slice A n c, .slice C m d] 40)
    clear B0
    have cp_3 := p_2.cells
    have fp_3 := p_2.free
    clear cp_3 fp_3
    have p_4 := p_2.same (same_alloc (.cells #[.slice T q e0, .slice X p f0] 35) (by simp only [World.size_alloc]; omega))
    clear p_2
    have t_5 : Bx ((w.alloc (.cells #[.slice A n c, .slice C m d] 40)).alloc (.cells #[.slice T q e0, .slice X p f0] 35)) (w.heap.size + 1) 35 #[.slice T q e0, .slice X p f0] := by
      have h := Bx.new (w.alloc (.cells #[.slice A n c, .slice C m d] 40)) 35 #[.slice T q e0, .slice X p f0]
      simpa only [World.size_alloc] using h
    have B_5 := B_2.alloc (by simp only [World.size_alloc]; omega) (.cells #[.slice T q e0, .slice X p f0] 35)
    clear B_2
    have cp_6 := p_4.cells
    have fp_6 := p_4.free
    have ct_7 := t_5.cells
    have ft_7 := t_5.free
    go_wp2_with fail
    refine (iSchemaOk_any _ _ _ _ _ _ _ ats cs _ (R.out.below B_5 (Nat.le_refl _))).mono ?_
    rw [H1.out]
    rintro e w1 ⟨rfl, b⟩
    clear cp_6 fp_6
    clear ct_7 ft_7
    simp only [World.size_alloc] at b
    have t_8 := b.size
    simp only [World.size_alloc] at t_8
    have z_8 : w.heap.size ≤ w1.heap.size := by omega
    have p_9 := p_4.same (same_below b (by omega))
    clear p_4
    have t_9 := t_5.same (same_below b (by omega))
    clear t_5
    have B_8 := B_5.trans (b.mono (by omega))
    clear B_5 b
    have cp_10 := p_9.cells
    have fp_10 := p_9.free
    have ct_11 := t_9.cells
    have ft_11 := t_9.free
    go_wp2_with fail
    go_ret
    exact ⟨by rw [HV.out]; rfl, B_8⟩
  · have H1 := Lib.hid h1
    have hm23 := schB_m h1
    rw [HC.out] at hm23
    clear h1
    cases hwt : (decide ((q : Int) = (m : Int)) && !badW ts)
    · have HWt := Lib.hid hwt
      have HV : Hid (statsB ats cs ts xss = false) := by
        refine statsB_no2 ?_
        unfold totB
        rw [HT.out, HC.out, show decide (q = m) = decide ((q : Int) = (m : Int)) by rw [decide_eq_decide]; omega, hwt]; rfl
      clear hwt
      have B0 := Below.refl w.heap.size w
      have s0 : w.heap.size ≤ w.heap.size := Nat.le_refl _
      go_enter Try.func33, Try.ntmps33
      have p_2 : Bx (w.alloc (.cells #[.slice A n c, .slice C m d] 40)) (w.heap.size) 40 #[.slice A n c, .slice C m d] := Bx.new _ _ _
      have B_2 := B0.alloc s0 (.cells #[.slice A n c, .slice C m d] 40)
      clear B0
      have cp_3 := p_2.cells
      have fp_3 := p_2.free
      clear cp_3 fp_3
      have p_4 := p_2.same (same_alloc (.cells #[.slice T q e0, .slice X p f0] 35) (by simp only [World.size_alloc]; omega))
      clear p_2
      have t_5 : Bx ((w.alloc (.cells #[.slice A n c, .slice C m d] 40)).alloc (.cells #[.slice T q e0, .slice X p f0] 35)) (w.heap.size + 1) 35 #[.slice T q e0, .slice X p f0] := by
        have h := Bx.new (w.alloc (.cells #[.slice A n c, .slice C m d] 40)) 35 #[.slice T q e0, .slice X p f0]
        simpa only [World.size_alloc] using h
      have B_5 := B_2.alloc (by simp only [World.size_alloc]; omega) (.cells #[.slice T q e0, .slice X p f0] 35)
      clear B_2
      have cp_6 := p_4.cells
      have fp_6 := p_4.free
      have ct_7 := t_5.cells
      have ft_7 := t_5.free
      go_wp2_with fail
      refine (iSchemaOk_any _ _ _ _ _ _ _ ats cs _ (R.out.below B_5 (Nat.le_refl _))).mono ?_
      rw [H1.out]
      rintro e w1 ⟨rfl, b⟩
      clear cp_6 fp_6
      clear ct_7 ft_7
      simp only [World.size_alloc] at b
      have t_8 := b.size
      simp only [World.size_alloc] at t_8
      have z_8 : w.heap.size ≤ w1.heap.size := by omega
      have p_9 := p_4.same (same_below b (by omega))
      clear p_4
      have t_9 := t_5.same (same_below b (by omega))
      clear t_5
      have B_8 := B_5.trans (b.mono (by omega))
      clear B_5 b
      have cp_10 := p_9.cells
      have fp_10 := p_9.free
      have ct_11 := t_9.cells
      have ft_11 := t_9.free
      go_wp2_with fail
      refine (iWeights_any _ q _ _ ts _ (S.out.below B_8 (Nat.le_refl _)).tot hq).mono ?_
      rw [HWt.out]
      rintro e w2 ⟨rfl, rfl⟩
      go_wp2_with fail
      go_ret
      exact ⟨by rw [HV.out]; rfl, B_8⟩
    · have HWt0 : Hid (badW ts = false) := by
        rw [Bool.and_eq_true, decide_eq_true_eq] at hwt
        unfold Hid; simpa using hwt.2
      have hqm : q = m := by
        rw [Bool.and_eq_true, decide_eq_true_eq] at hwt
        omega
      subst hqm
      have HWt := Lib.hid hwt
      clear hwt
      rcases hm23 with rfl | rfl
      · skip
        have hW2 : ∀ k : Int, k = 2 → (decide (((2 : Nat) : Int) = k) && !badW ts) = true := fun k hk => by subst hk; rw [HWt0.out]; rfl
        clear HWt
        obtain ⟨sm, hsm⟩ : ∃ sm, ts.sum = sm := ⟨_, rfl⟩
        have HSm := Lib.hid hsm
        clear hsm
        have B0 := Below.refl w.heap.size w
        have s0 : w.heap.size ≤ w.heap.size := Nat.le_refl _
        go_enter Try.func33, Try.ntmps33
        have p_2 : Bx (w.alloc (.cells #[.slice A n c, .slice C 2 d] 40)) (w.heap.size) 40 #[.slice A n c, .slice C 2 d] := Bx.new _ _ _
        have B_2 := B0.alloc s0 (.cells #[.slice A n c, .slice C 2 d] 40)
        clear B0
        have cp_3 := p_2.cells
        have fp_3 := p_2.free
        clear cp_3 fp_3
        have p_4 := p_2.same (same_alloc (.cells #[.slice T 2 e0, .slice X p f0] 35) (by simp only [World.size_alloc]; omega))
        clear p_2
        have t_5 : Bx ((w.alloc (.cells #[.slice A n c, .slice C 2 d] 40)).alloc (.cells #[.slice T 2 e0, .slice X p f0] 35)) (w.heap.size + 1) 35 #[.slice T 2 e0, .slice X p f0] := by
          have h := Bx.new (w.alloc (.cells #[.slice A n c, .slice C 2 d] 40)) 35 #[.slice T 2 e0, .slice X p f0]
          simpa only [World.size_alloc] using h
        have B_5 := B_2.alloc (by simp only [World.size_alloc]; omega) (.cells #[.slice T 2 e0, .slice X p f0] 35)
        clear B_2
        have cp_6 := p_4.cells
        have fp_6 := p_4.free
        have ct_7 := t_5.cells
        have ft_7 := t_5.free
        go_wp2_with fail
        refine (iSchemaOk_any _ _ _ _ _ _ _ ats cs _ (R.out.below B_5 (Nat.le_refl _))).mono ?_
        rw [H1.out]
        rintro e w1 ⟨rfl, b⟩
        clear cp_6 fp_6
        clear ct_7 ft_7
        simp only [World.size_alloc] at b
        have t_8 := b.size
        simp only [World.size_alloc] at t_8
        have z_8 : w.heap.size ≤ w1.heap.size := by omega
        have p_9 := p_4.same (same_below b (by omega))
        clear p_4
        have t_9 := t_5.same (same_below b (by omega))
        clear t_5
        have B_8 := B_5.trans (b.mono (by omega))
        clear B_5 b
        have cp_10 := p_9.cells
        have fp_10 := p_9.free
        have ct_11 := t_9.cells
        have ft_11 := t_9.free
        go_wp2_with fail
        refine (iWeights_any _ _ _ _ ts _ (S.out.below B_8 (Nat.le_refl _)).tot hq).mono ?_
        rw [hW2 _ rfl]
        rintro e w2 ⟨rfl, rfl⟩
        go_wp2_with fail
        refine (iTotal_any _ _ _ ts _ (S.out.below B_8 (Nat.le_refl _)).tot hq (fun x hx => badW_get HWt0.out hx)).mono ?_
        rw [HSm.out]
        rintro e w2 ⟨rfl, rfl⟩
        have HAc := Lib.hid B_8; have HP := Lib.hid p_9; have HTb := Lib.hid t_9; have lp := p_9.lt; have lt_ := t_9.lt
        have R1 := Lib.hid (R.out.below B_8 (Nat.le_refl _)); have S1 := Lib.hid (S.out.below B_8 (Nat.le_refl _))
        obtain ⟨bt, ot, rfl, lbt, hct⟩ := S1.out.tot.ex (by omega)
        have HCT := Lib.hid hct
        clear hct
        by_cases hs9 : sm ≤ 999
        · have HTot : Hid (totB cs.length ts = true) := by unfold Hid totB; rw [HWt0.out, decide_eq_true (by rw [HT.out, HC.out]), HSm.out, decide_eq_true hs9]; rfl
          have HSB : Hid (statsB ats cs ts xss = rowsB ats 2 ts xss) := by unfold Hid; rw [statsB_at H1.out HTot.out, HC.out]
          by_cases hp0 : p = 0
          · subst hp0
            have HV : Hid (statsB ats cs ts xss = true) := by unfold Hid; rw [HSB.out]; exact rowsB_zero HX.out
            go_wp2_with fail
            go_ret
            exact ⟨by rw [HV.out]; rfl, HAc.out⟩
          · have hp0' : ¬ (p : Int) = 0 := by omega
            have hpb : ((p : Int) == 0) = false := beq_false_of_ne hp0'
            by_cases hpn : p = n
            · subst hpn
              go_wp2_with fail
              clear cp_10 fp_10 ct_11 ft_11 hp0' hpb
              go_loopw [44] (fun i wr => ∃ k : Nat, k ≤ p ∧ i = .int .i64 k ∧ Hid (∀ (j : Nat) (row : List Int) (a : AD), j < k → xss[j]? = some row → ats[j]? = some a → rowOkB 2 ts row (binsI a) = true) ∧ Below w1.heap.size w1 wr) (fun i _ => p - (intOf i).toNat)
              case atStart => exact ⟨0, Nat.zero_le _, rfl, (fun j row a hj => absurd hj (by omega)), Below.refl _ _⟩
              case round =>
                obtain ⟨k, hk, rfl, hgood, hbel⟩ := hrel
                have HBel := Lib.hid hbel
                clear hbel
                have p0 : wr.cell? ⟨w.heap.size, 0, none⟩ = some (.slice A p c) := (HBel.out.cell (p := ⟨w.heap.size, 0, none⟩) lp).trans (HP.out.cells 0)
                have p1 : wr.cell? ⟨w.heap.size, 1, none⟩ = some (.slice C 2 d) := (HBel.out.cell (p := ⟨w.heap.size, 1, none⟩) lp).trans (HP.out.cells 1)
                have t0 : wr.cell? ⟨w.heap.size + 1, 0, none⟩ = some (.slice (some ⟨bt, ot, none⟩) 2 e0) := (HBel.out.cell (p := ⟨w.heap.size + 1, 0, none⟩) lt_).trans (HTb.out.cells 0)
                have t1 : wr.cell? ⟨w.heap.size + 1, 1, none⟩ = some (.slice X p f0) := (HBel.out.cell (p := ⟨w.heap.size + 1, 1, none⟩) lt_).trans (HTb.out.cells 1)
                by_cases hlt : k < p
                · obtain ⟨h, a, b, off, ha, hra, rfl, hbl, d0, d1, d2⟩ := R1.out.get hlt
                  have hab := schB_get H1.out ha
                  obtain ⟨nb, hnb, hn2, hn4⟩ := attrB_bins hab
                  have f0 : wr.cell? ⟨b, off + k * 3, none⟩ = some (.string a.nm) := (HBel.out.cell (p := ⟨b, off + k * 3, none⟩) hbl).trans d0
                  have f1 : wr.cell? ⟨b, off + k * 3 + 1, none⟩ = some (.slice h.1.1 h.1.2.1 h.1.2.2) := (HBel.out.cell (p := ⟨b, off + k * 3 + 1, none⟩) hbl).trans d1
                  have f2 : wr.cell? ⟨b, off + k * 3 + 2, none⟩ = some (.slice h.2.1 h.2.2.1 h.2.2.2) := (HBel.out.cell (p := ⟨b, off + k * 3 + 2, none⟩) hbl).trans d2
                  have HAC := Lib.hid (hra.below HBel.out (Nat.le_refl _))
                  have HA := Lib.hid ha; have HNB := Lib.hid hnb
                  obtain ⟨y, vs, hy, hv, hrd, hvl⟩ := S1.out.cel.get hlt
                  obtain ⟨b2, o2, rfl, lb2, e2⟩ := S1.out.cel.head hlt hy
                  obtain ⟨row, hrow, rfl⟩ := iss_get' hv
                  obtain ⟨ya, yn, yc⟩ := y
                  simp only [List.length_map] at hvl hrd e2
                  have hyl : yn ≤ 1048576 := by rw [← hvl]; exact row_le2 S1.out.hb hrow
                  have g2 : wr.cell? ⟨b2, o2 + k, none⟩ = some (.slice ya yn yc) := (HBel.out.cell (p := ⟨b2, o2 + k, none⟩) lb2).trans e2
                  have HRow := Lib.hid hrow; have HRL := Lib.hid hvl; have HRd := Lib.hid hrd
                  have k0 : (0 : Int) ≤ (k : Int) := Int.natCast_nonneg _
                  have k1 : (k : Int) < (p : Int) := by omega
                  clear ha hra d0 d1 d2 hab hnb hy hv hrow hrd hvl e2
                  go_wp2_with fail
                  refine (ibins_any a h _ HAC.out).mono ?_
                  rw [HNB.out]
                  rintro e w3 ⟨rfl, b3⟩
                  have HBel3 := Lib.hid (HBel.out.trans (b3.mono HBel.out.size))
                  clear b3 p0 p1 t0 t1 f0 f1 f2 g2
                  cases hwr : (decide ((yn : Int) = (nb : Int) * 2) && !badW row)
                  · have HWr := Lib.hid hwr
                    have HV : Hid (statsB ats cs ts xss = false) := by
                      unfold Hid; rw [HSB.out]
                      refine rowsB_bad HRow.out HA.out ?_
                      rw [HNB.out]
                      unfold rowOkB
                      rw [HRL.out, show ((2 : Nat) : Int) = 2 from rfl, hwr, Bool.false_and]
                    clear hwr
                    go_wp2_with fail
                    refine (iWeights_any ya yn yc _ row _ (HRd.out.below HBel3.out (Nat.le_refl _)) hyl).mono ?_
                    rw [HWr.out]
                    rintro e w4 ⟨rfl, rfl⟩
                    go_wp2_with fail
                    go_ret
                    exact ⟨by rw [HV.out]; rfl, HAc.out.trans (HBel3.out.mono HAc.out.size)⟩
                  · have HWr := Lib.hid hwr
                    have hyn : (yn : Int) = (nb : Int) * 2 := by rw [Bool.and_eq_true, decide_eq_true_eq] at hwr; exact hwr.1
                    have HBR : Hid (badW row = false) := by rw [Bool.and_eq_true] at hwr; unfold Hid; simpa using hwr.2
                    have HYN : Hid (yn = nb * 2) := by unfold Hid; omega
                    clear hwr hyn
                    go_wp2_with fail
                    refine (iWeights_any ya yn yc _ row _ (HRd.out.below HBel3.out (Nat.le_refl _)) hyl).mono ?_
                    rw [HWr.out]
                    rintro e w4 ⟨rfl, rfl⟩
                    go_wp2_with fail
                    refine (iZeros_any 2 _ (by omega)).mono ?_
                    rintro e w5 ⟨g, rfl, o5, b5⟩
                    have hg5 := (o5.lt g rfl).1
                    have HO5 : Hid (w5.ownsRow w1.heap.size 3 1 (.slice (some ⟨g, 0, none⟩) 2 2) 2 (runL 2 0 row)) := by unfold Hid; rw [runL_zero (by omega)]; exact own_base o5 HBel3.out.size
                    have HBel5 := Lib.hid (HBel3.out.trans (b5.mono HBel3.out.size))
                    clear o5 b5 hg5
                    go_wp2_with fail
                    go_loopw [64] (fun i wr => ∃ t : Nat, t ≤ yn ∧ i = .int .i64 t ∧ wr.ownsRow w1.heap.size 3 1 (.slice (some ⟨g, 0, none⟩) 2 2) 2 (runL 2 t row) ∧ Hid (∀ (j : Nat), j < 2 → runC 2 t j row ≤ ts.getD j 0 ∨ cntC 2 t j = 0) ∧ Below w1.heap.size w1 wr) (fun i _ => yn - (intOf i).toNat)
                    case atStart => exact ⟨0, Nat.zero_le _, rfl, HO5.out, (fun j hj => .inr (by unfold cntC; rw [Nat.zero_div, Nat.zero_mod, if_neg (by omega)])), HBel5.out⟩
                    case round =>
                      obtain ⟨t, ht, rfl, hown, hcol, hbel6⟩ := hrel
                      have HBel6 := Lib.hid hbel6; have HOwn := Lib.hid hown
                      clear hbel6 hown
                      by_cases hltt : t < yn
                      · obtain ⟨b3, o3, rfl, lb3, hc3⟩ := HRd.out.ex (show 0 < yn by omega)
                        obtain ⟨x, hx⟩ : ∃ x, row[t]? = some x := ⟨_, List.getElem?_eq_getElem (by rw [HRL.out]; exact hltt)⟩
                        have hcell : wr.cell? ⟨b3, o3 + t, none⟩ = some (.int .i64 x) := (HBel6.out.cell (p := ⟨b3, o3 + t, none⟩) lb3).trans (hc3 _ _ (by simp [hx]))
                        have hxb := badW_get HBR.out (List.mem_of_getElem? hx)
                        obtain ⟨r, hr⟩ : ∃ r, t % 2 = r := ⟨_, rfl⟩
                        have hrM : r < 2 := by omega
                        have hrun : 0 ≤ runC 2 t r row ∧ runC 2 t r row ≤ 3996 := by
                          have h := colB_bd (m := 2) (k := r) (row := row) (fun x hx => badW_get HBR.out hx) (cntC 2 t r)
                          have h2 := cntC_le (m := 2) (b := nb) (q := t) (k := r) (by omega) hrM (by have := HYN.out; omega)
                          unfold runC; omega
                        have HNext : Hid (runC 2 (t + 1) r row = runC 2 t r row + x) := by unfold Hid; rw [runC_succ (by omega) hrM hx, if_pos hr.symm]
                        have HSet : Hid ((runL 2 t row).set r (.int .i64 (runC 2 t r row + x)) = runL 2 (t + 1) row) := runL_set (by omega) hx hr
                        have HOth : Hid (∀ j, j < 2 → j ≠ r → runC 2 (t + 1) j row = runC 2 t j row ∧ cntC 2 (t + 1) j = cntC 2 t j) := fun j hj hne => ⟨by rw [runC_succ (by omega) hj hx, if_neg (by omega)], by rw [cntC_succ (by omega) hj, if_neg (by omega)]⟩
                        obtain ⟨s, hs⟩ : ∃ s, runC 2 t r row = s := ⟨_, rfl⟩
                        have HS := Lib.hid hs
                        rw [hs] at hrun HNext HSet
                        have hsc : wr.cell? ⟨g, r, none⟩ = some (.int .i64 s) := by rw [HOwn.out.cellAt r (by omega)]; exact runL_get hrM hs
                        have hfr : wr.frozen? ⟨g, r, none⟩ = false := HOwn.out.frozenAt r
                        obtain ⟨hs1, hs2⟩ := HOwn.out.stored r (.int .i64 (s + x))
                        rw [HSet.out] at hs1
                        have hgv := (HOwn.out.lt g rfl).1
                        obtain ⟨W9, hW9⟩ : ∃ W9, W9 = wr.setCell ⟨g, r, none⟩ (.int .i64 (s + x)) := ⟨_, rfl⟩
                        have HO9 : Hid (W9.ownsRow w1.heap.size 3 1 (.slice (some ⟨g, 0, none⟩) 2 2) 2 (runL 2 (t + 1) row)) := by unfold Hid; rw [hW9]; exact hs1
                        have HB9 : Hid (Below w1.heap.size w1 W9) := by unfold Hid; rw [hW9]; exact Below.setCell (p := ⟨g, r, none⟩) HBel6.out hgv _
                        obtain ⟨y, hy⟩ : ∃ y, ts[r]? = some y := ⟨_, List.getElem?_eq_getElem (by rw [HT.out]; exact hrM)⟩
                        have HGy : Hid (ts.getD r 0 = y) := by unfold Hid; simp [List.getD, hy]
                        have n0 : (0 : Int) ≤ (t : Int) := Int.natCast_nonneg _
                        have n1 : (t : Int) < (yn : Int) := by omega
                        have m0 : Int.tmod (t : Int) 2 = (r : Int) := by rw [Int.tmod_eq_emod_of_nonneg n0]; omega
                        have m1 : IntKind.i64.wrap (r : Int) = (r : Int) := IntWalk.i64_in _ (by omega)
                        have m2 : (0 : Int) ≤ (r : Int) := Int.natCast_nonneg _
                        have m3 : (r : Int) < 2 := by omega
                        have HCY := Lib.hid (HCT.out r (.int .i64 y) (by simp [hy]))
                        have HXt := Lib.hid hx
                        clear hc3 hx hs hs1 hs2 hy
                        go_wp2_with fail
                        rw [← hW9]
                        have e1 : W9.cell? ⟨g, r, none⟩ = some (.int .i64 (s + x)) := by rw [HO9.out.cellAt r (by omega)]; exact runL_get hrM (by rw [HNext.out])
                        have e2 : W9.cell? ⟨bt, ot + r, none⟩ = some (.int .i64 y) := (HB9.out.cell (p := ⟨bt, ot + r, none⟩) lbt).trans HCY.out
                        have e3 : W9.cell? ⟨w.heap.size + 1, 0, none⟩ = some (.slice (some ⟨bt, ot, none⟩) 2 e0) := (HB9.out.cell (p := ⟨w.heap.size + 1, 0, none⟩) lt_).trans (HTb.out.cells 0)
                        clear hW9 hsc hfr
                        by_cases hle : s + x ≤ y
                        · go_wp2_with fail
                          go_quiet (fail)
                          clear m0 m1 n0 n1 m2 m3
                          go_wp2_with fail
                          go_roundw
                          case rel =>
                            refine ⟨t + 1, by omega, by go_num, HO9.out, (fun j hj => ?_), Below.trans HB9.out (by repeat (first | exact Below.refl _ _ | apply below_drewN | apply Below.drew))⟩
                            by_cases hjr : j = r
                            · subst hjr; left; rw [HNext.out, HGy.out]; exact hle
                            · obtain ⟨q1, q2⟩ := HOth.out j hj hjr
                              rw [q1, q2]; exact hcol.out j hj
                          case measure => simp [intOf]; omega
                        · have HV : Hid (statsB ats cs ts xss = false) := by
                            unfold Hid; rw [HSB.out]
                            refine rowsB_bad HRow.out HA.out ?_
                            rw [HNB.out]
                            refine rowOkB_col hrM ?_
                            have h2 := cntC_le (m := 2) (b := nb) (q := t + 1) (k := r) (by omega) hrM (by have := HYN.out; omega)
                            have h3 := colB_mono (m := 2) (k := r) (row := row) (fun x hx => badW_get HBR.out hx) (cntC 2 (t + 1) r) (nb - cntC 2 (t + 1) r)
                            rw [show cntC 2 (t + 1) r + (nb - cntC 2 (t + 1) r) = nb by omega] at h3
                            have h4 := HNext.out
                            unfold runC at h4
                            have h5 := HGy.out
                            omega
                          have hle' : y < s + x := by omega
                          go_wp2_with fail
                          go_quiet (fail)
                          clear m0 m1 n0 n1 m2 m3
                          go_wp2_with fail
                          go_ret
                          exact ⟨by rw [HV.out]; rfl, HAc.out.trans ((Below.trans HB9.out (by repeat (first | exact Below.refl _ _ | apply below_drewN | apply Below.drew))).mono HAc.out.size)⟩
                      · obtain rfl : t = yn := by omega
                        have HROk : Hid (rowOkB 2 ts row (nb : Nat) = true) := by
                          refine rowOkB_good (HRL.out.trans HYN.out) HBR.out fun j hj => ?_
                          have h6 := cntC_all (m := 2) (b := nb) (k := j) (by omega) hj
                          have h7 := hcol.out j hj
                          rw [HYN.out] at h7
                          unfold runC at h7
                          rw [h6] at h7
                          rcases h7 with h7 | h7
                          · exact h7
                          · omega
                        go_wp2_with fail
                        go_roundw
                        case rel =>
                          refine ⟨k + 1, by omega, by go_num, (fun j row' a' hj hr' ha' => ?_), HBel6.out⟩
                          rcases Nat.lt_or_ge j k with h1 | h1
                          · exact hgood.out j row' a' h1 hr' ha'
                          · obtain rfl : j = k := by omega
                            rw [HRow.out] at hr'; rw [HA.out] at ha'
                            obtain rfl := Option.some.inj hr'
                            obtain rfl := Option.some.inj ha'
                            rw [HNB.out]; exact HROk.out
                        case measure => simp [intOf]; omega
                · obtain rfl : k = p := by omega
                  have HV : Hid (statsB ats cs ts xss = true) := by
                    unfold Hid; rw [HSB.out]
                    refine rowsB_good (by rw [HX.out, HL.out]) fun i row a hr ha => hgood.out i row a (by have := (List.getElem?_eq_some_iff.1 hr).1; rw [HX.out] at this; exact this) hr ha
                  go_wp2_with fail
                  go_ret
                  exact ⟨by rw [HV.out]; rfl, HAc.out.trans (HBel.out.mono HAc.out.size)⟩
            · have HV : Hid (statsB ats cs ts xss = false) := by unfold Hid; rw [HSB.out]; exact rowsB_len (by rw [HX.out]; exact hp0) (by rw [HX.out, HL.out]; exact hpn)
              have hpn' : ¬ (p : Int) = (n : Int) := by omega
              go_wp2_with fail
              go_ret
              exact ⟨by rw [HV.out]; rfl, HAc.out⟩
        · have HV : Hid (statsB ats cs ts xss = false) := statsB_no2 (by unfold totB; rw [HSm.out, decide_eq_false hs9, Bool.and_false])
          have hs9' : 999 < sm := by omega
          go_wp2_with fail
          go_ret
          exact ⟨by rw [HV.out]; rfl, HAc.out⟩
      · skip
        have hW2 : ∀ k : Int, k = 3 → (decide (((3 : Nat) : Int) = k) && !badW ts) = true := fun k hk => by subst hk; rw [HWt0.out]; rfl
        clear HWt
        obtain ⟨sm, hsm⟩ : ∃ sm, ts.sum = sm := ⟨_, rfl⟩
        have HSm := Lib.hid hsm
        clear hsm
        have B0 := Below.refl w.heap.size w
        have s0 : w.heap.size ≤ w.heap.size := Nat.le_refl _
        go_enter Try.func33, Try.ntmps33
        have p_2 : Bx (w.alloc (.cells #[.slice A n c, .slice C 3 d] 40)) (w.heap.size) 40 #[.slice A n c, .slice C 3 d] := Bx.new _ _ _
        have B_2 := B0.alloc s0 (.cells #[.slice A n c, .slice C 3 d] 40)
        clear B0
        have cp_3 := p_2.cells
        have fp_3 := p_2.free
        clear cp_3 fp_3
        have p_4 := p_2.same (same_alloc (.cells #[.slice T 3 e0, .slice X p f0] 35) (by simp only [World.size_alloc]; omega))
        clear p_2
        have t_5 : Bx ((w.alloc (.cells #[.slice A n c, .slice C 3 d] 40)).alloc (.cells #[.slice T 3 e0, .slice X p f0] 35)) (w.heap.size + 1) 35 #[.slice T 3 e0, .slice X p f0] := by
          have h := Bx.new (w.alloc (.cells #[.slice A n c, .slice C 3 d] 40)) 35 #[.slice T 3 e0, .slice X p f0]
          simpa only [World.size_alloc] using h
        have B_5 := B_2.alloc (by simp only [World.size_alloc]; omega) (.cells #[.slice T 3 e0, .slice X p f0] 35)
        clear B_2
        have cp_6 := p_4.cells
        have fp_6 := p_4.free
        have ct_7 := t_5.cells
        have ft_7 := t_5.free
        go_wp2_with fail
        refine (iSchemaOk_any _ _ _ _ _ _ _ ats cs _ (R.out.below B_5 (Nat.le_refl _))).mono ?_
        rw [H1.out]
        rintro e w1 ⟨rfl, b⟩
        clear cp_6 fp_6
        clear ct_7 ft_7
        simp only [World.size_alloc] at b
        have t_8 := b.size
        simp only [World.size_alloc] at t_8
        have z_8 : w.heap.size ≤ w1.heap.size := by omega
        have p_9 := p_4.same (same_below b (by omega))
        clear p_4
        have t_9 := t_5.same (same_below b (by omega))
        clear t_5
        have B_8 := B_5.trans (b.mono (by omega))
        clear B_5 b
        have cp_10 := p_9.cells
        have fp_10 := p_9.free
        have ct_11 := t_9.cells
        have ft_11 := t_9.free
        go_wp2_with fail
        refine (iWeights_any _ _ _ _ ts _ (S.out.below B_8 (Nat.le_refl _)).tot hq).mono ?_
        rw [hW2 _ rfl]
        rintro e w2 ⟨rfl, rfl⟩
        go_wp2_with fail
        refine (iTotal_any _ _ _ ts _ (S.out.below B_8 (Nat.le_refl _)).tot hq (fun x hx => badW_get HWt0.out hx)).mono ?_
        rw [HSm.out]
        rintro e w2 ⟨rfl, rfl⟩
        have HAc := Lib.hid B_8; have HP := Lib.hid p_9; have HTb := Lib.hid t_9; have lp := p_9.lt; have lt_ := t_9.lt
        have R1 := Lib.hid (R.out.below B_8 (Nat.le_refl _)); have S1 := Lib.hid (S.out.below B_8 (Nat.le_refl _))
        obtain ⟨bt, ot, rfl, lbt, hct⟩ := S1.out.tot.ex (by omega)
        have HCT := Lib.hid hct
        clear hct
        by_cases hs9 : sm ≤ 999
        · have HTot : Hid (totB cs.length ts = true) := by unfold Hid totB; rw [HWt0.out, decide_eq_true (by rw [HT.out, HC.out]), HSm.out, decide_eq_true hs9]; rfl
          have HSB : Hid (statsB ats cs ts xss = rowsB ats 3 ts xss) := by unfold Hid; rw [statsB_at H1.out HTot.out, HC.out]
          by_cases hp0 : p = 0
          · subst hp0
            have HV : Hid (statsB ats cs ts xss = true) := by unfold Hid; rw [HSB.out]; exact rowsB_zero HX.out
            go_wp2_with fail
            go_ret
            exact ⟨by rw [HV.out]; rfl, HAc.out⟩
          · have hp0' : ¬ (p : Int) = 0 := by omega
            have hpb : ((p : Int) == 0) = false := beq_false_of_ne hp0'
            by_cases hpn : p = n
            · subst hpn
              go_wp2_with fail
              clear cp_10 fp_10 ct_11 ft_11 hp0' hpb
              go_loopw [44] (fun i wr => ∃ k : Nat, k ≤ p ∧ i = .int .i64 k ∧ Hid (∀ (j : Nat) (row : List Int) (a : AD), j < k → xss[j]? = some row → ats[j]? = some a → rowOkB 3 ts row (binsI a) = true) ∧ Below w1.heap.size w1 wr) (fun i _ => p - (intOf i).toNat)
              case atStart => exact ⟨0, Nat.zero_le _, rfl, (fun j row a hj => absurd hj (by omega)), Below.refl _ _⟩
              case round =>
                obtain ⟨k, hk, rfl, hgood, hbel⟩ := hrel
                have HBel := Lib.hid hbel
                clear hbel
                have p0 : wr.cell? ⟨w.heap.size, 0, none⟩ = some (.slice A p c) := (HBel.out.cell (p := ⟨w.heap.size, 0, none⟩) lp).trans (HP.out.cells 0)
                have p1 : wr.cell? ⟨w.heap.size, 1, none⟩ = some (.slice C 3 d) := (HBel.out.cell (p := ⟨w.heap.size, 1, none⟩) lp).trans (HP.out.cells 1)
                have t0 : wr.cell? ⟨w.heap.size + 1, 0, none⟩ = some (.slice (some ⟨bt, ot, none⟩) 3 e0) := (HBel.out.cell (p := ⟨w.heap.size + 1, 0, none⟩) lt_).trans (HTb.out.cells 0)
                have t1 : wr.cell? ⟨w.heap.size + 1, 1, none⟩ = some (.slice X p f0) := (HBel.out.cell (p := ⟨w.heap.size + 1, 1, none⟩) lt_).trans (HTb.out.cells 1)
                by_cases hlt : k < p
                · obtain ⟨h, a, b, off, ha, hra, rfl, hbl, d0, d1, d2⟩ := R1.out.get hlt
                  have hab := schB_get H1.out ha
                  obtain ⟨nb, hnb, hn2, hn4⟩ := attrB_bins hab
                  have f0 : wr.cell? ⟨b, off + k * 3, none⟩ = some (.string a.nm) := (HBel.out.cell (p := ⟨b, off + k * 3, none⟩) hbl).trans d0
                  have f1 : wr.cell? ⟨b, off + k * 3 + 1, none⟩ = some (.slice h.1.1 h.1.2.1 h.1.2.2) := (HBel.out.cell (p := ⟨b, off + k * 3 + 1, none⟩) hbl).trans d1
                  have f2 : wr.cell? ⟨b, off + k * 3 + 2, none⟩ = some (.slice h.2.1 h.2.2.1 h.2.2.2) := (HBel.out.cell (p := ⟨b, off + k * 3 + 2, none⟩) hbl).trans d2
                  have HAC := Lib.hid (hra.below HBel.out (Nat.le_refl _))
                  have HA := Lib.hid ha; have HNB := Lib.hid hnb
                  obtain ⟨y, vs, hy, hv, hrd, hvl⟩ := S1.out.cel.get hlt
                  obtain ⟨b2, o2, rfl, lb2, e2⟩ := S1.out.cel.head hlt hy
                  obtain ⟨row, hrow, rfl⟩ := iss_get' hv
                  obtain ⟨ya, yn, yc⟩ := y
                  simp only [List.length_map] at hvl hrd e2
                  have hyl : yn ≤ 1048576 := by rw [← hvl]; exact row_le2 S1.out.hb hrow
                  have g2 : wr.cell? ⟨b2, o2 + k, none⟩ = some (.slice ya yn yc) := (HBel.out.cell (p := ⟨b2, o2 + k, none⟩) lb2).trans e2
                  have HRow := Lib.hid hrow; have HRL := Lib.hid hvl; have HRd := Lib.hid hrd
                  have k0 : (0 : Int) ≤ (k : Int) := Int.natCast_nonneg _
                  have k1 : (k : Int) < (p : Int) := by omega
                  clear ha hra d0 d1 d2 hab hnb hy hv hrow hrd hvl e2
                  go_wp2_with fail
                  refine (ibins_any a h _ HAC.out).mono ?_
                  rw [HNB.out]
                  rintro e w3 ⟨rfl, b3⟩
                  have HBel3 := Lib.hid (HBel.out.trans (b3.mono HBel.out.size))
                  clear b3 p0 p1 t0 t1 f0 f1 f2 g2
                  cases hwr : (decide ((yn : Int) = (nb : Int) * 3) && !badW row)
                  · have HWr := Lib.hid hwr
                    have HV : Hid (statsB ats cs ts xss = false) := by
                      unfold Hid; rw [HSB.out]
                      refine rowsB_bad HRow.out HA.out ?_
                      rw [HNB.out]
                      unfold rowOkB
                      rw [HRL.out, show ((3 : Nat) : Int) = 3 from rfl, hwr, Bool.false_and]
                    clear hwr
                    go_wp2_with fail
                    refine (iWeights_any ya yn yc _ row _ (HRd.out.below HBel3.out (Nat.le_refl _)) hyl).mono ?_
                    rw [HWr.out]
                    rintro e w4 ⟨rfl, rfl⟩
                    go_wp2_with fail
                    go_ret
                    exact ⟨by rw [HV.out]; rfl, HAc.out.trans (HBel3.out.mono HAc.out.size)⟩
                  · have HWr := Lib.hid hwr
                    have hyn : (yn : Int) = (nb : Int) * 3 := by rw [Bool.and_eq_true, decide_eq_true_eq] at hwr; exact hwr.1
                    have HBR : Hid (badW row = false) := by rw [Bool.and_eq_true] at hwr; unfold Hid; simpa using hwr.2
                    have HYN : Hid (yn = nb * 3) := by unfold Hid; omega
                    clear hwr hyn
                    go_wp2_with fail
                    refine (iWeights_any ya yn yc _ row _ (HRd.out.below HBel3.out (Nat.le_refl _)) hyl).mono ?_
                    rw [HWr.out]
                    rintro e w4 ⟨rfl, rfl⟩
                    go_wp2_with fail
                    refine (iZeros_any 3 _ (by omega)).mono ?_
                    rintro e w5 ⟨g, rfl, o5, b5⟩
                    have hg5 := (o5.lt g rfl).1
                    have HO5 : Hid (w5.ownsRow w1.heap.size 3 1 (.slice (some ⟨g, 0, none⟩) 3 3) 3 (runL 3 0 row)) := by unfold Hid; rw [runL_zero (by omega)]; exact own_base o5 HBel3.out.size
                    have HBel5 := Lib.hid (HBel3.out.trans (b5.mono HBel3.out.size))
                    clear o5 b5 hg5
                    go_wp2_with fail
                    go_loopw [64] (fun i wr => ∃ t : Nat, t ≤ yn ∧ i = .int .i64 t ∧ wr.ownsRow w1.heap.size 3 1 (.slice (some ⟨g, 0, none⟩) 3 3) 3 (runL 3 t row) ∧ Hid (∀ (j : Nat), j < 3 → runC 3 t j row ≤ ts.getD j 0 ∨ cntC 3 t j = 0) ∧ Below w1.heap.size w1 wr) (fun i _ => yn - (intOf i).toNat)
                    case atStart => exact ⟨0, Nat.zero_le _, rfl, HO5.out, (fun j hj => .inr (by unfold cntC; rw [Nat.zero_div, Nat.zero_mod, if_neg (by omega)])), HBel5.out⟩
                    case round =>
                      obtain ⟨t, ht, rfl, hown, hcol, hbel6⟩ := hrel
                      have HBel6 := Lib.hid hbel6; have HOwn := Lib.hid hown
                      clear hbel6 hown
                      by_cases hltt : t < yn
                      · obtain ⟨b3, o3, rfl, lb3, hc3⟩ := HRd.out.ex (show 0 < yn by omega)
                        obtain ⟨x, hx⟩ : ∃ x, row[t]? = some x := ⟨_, List.getElem?_eq_getElem (by rw [HRL.out]; exact hltt)⟩
                        have hcell : wr.cell? ⟨b3, o3 + t, none⟩ = some (.int .i64 x) := (HBel6.out.cell (p := ⟨b3, o3 + t, none⟩) lb3).trans (hc3 _ _ (by simp [hx]))
                        have hxb := badW_get HBR.out (List.mem_of_getElem? hx)
                        obtain ⟨r, hr⟩ : ∃ r, t % 3 = r := ⟨_, rfl⟩
                        have hrM : r < 3 := by omega
                        have hrun : 0 ≤ runC 3 t r row ∧ runC 3 t r row ≤ 3996 := by
                          have h := colB_bd (m := 3) (k := r) (row := row) (fun x hx => badW_get HBR.out hx) (cntC 3 t r)
                          have h2 := cntC_le (m := 3) (b := nb) (q := t) (k := r) (by omega) hrM (by have := HYN.out; omega)
                          unfold runC; omega
                        have HNext : Hid (runC 3 (t + 1) r row = runC 3 t r row + x) := by unfold Hid; rw [runC_succ (by omega) hrM hx, if_pos hr.symm]
                        have HSet : Hid ((runL 3 t row).set r (.int .i64 (runC 3 t r row + x)) = runL 3 (t + 1) row) := runL_set (by omega) hx hr
                        have HOth : Hid (∀ j, j < 3 → j ≠ r → runC 3 (t + 1) j row = runC 3 t j row ∧ cntC 3 (t + 1) j = cntC 3 t j) := fun j hj hne => ⟨by rw [runC_succ (by omega) hj hx, if_neg (by omega)], by rw [cntC_succ (by omega) hj, if_neg (by omega)]⟩
                        obtain ⟨s, hs⟩ : ∃ s, runC 3 t r row = s := ⟨_, rfl⟩
                        have HS := Lib.hid hs
                        rw [hs] at hrun HNext HSet
                        have hsc : wr.cell? ⟨g, r, none⟩ = some (.int .i64 s) := by rw [HOwn.out.cellAt r (by omega)]; exact runL_get hrM hs
                        have hfr : wr.frozen? ⟨g, r, none⟩ = false := HOwn.out.frozenAt r
                        obtain ⟨hs1, hs2⟩ := HOwn.out.stored r (.int .i64 (s + x))
                        rw [HSet.out] at hs1
                        have hgv := (HOwn.out.lt g rfl).1
                        obtain ⟨W9, hW9⟩ : ∃ W9, W9 = wr.setCell ⟨g, r, none⟩ (.int .i64 (s + x)) := ⟨_, rfl⟩
                        have HO9 : Hid (W9.ownsRow w1.heap.size 3 1 (.slice (some ⟨g, 0, none⟩) 3 3) 3 (runL 3 (t + 1) row)) := by unfold Hid; rw [hW9]; exact hs1
                        have HB9 : Hid (Below w1.heap.size w1 W9) := by unfold Hid; rw [hW9]; exact Below.setCell (p := ⟨g, r, none⟩) HBel6.out hgv _
                        obtain ⟨y, hy⟩ : ∃ y, ts[r]? = some y := ⟨_, List.getElem?_eq_getElem (by rw [HT.out]; exact hrM)⟩
                        have HGy : Hid (ts.getD r 0 = y) := by unfold Hid; simp [List.getD, hy]
                        have n0 : (0 : Int) ≤ (t : Int) := Int.natCast_nonneg _
                        have n1 : (t : Int) < (yn : Int) := by omega
                        have m0 : Int.tmod (t : Int) 3 = (r : Int) := by rw [Int.tmod_eq_emod_of_nonneg n0]; omega
                        have m1 : IntKind.i64.wrap (r : Int) = (r : Int) := IntWalk.i64_in _ (by omega)
                        have m2 : (0 : Int) ≤ (r : Int) := Int.natCast_nonneg _
                        have m3 : (r : Int) < 3 := by omega
                        have HCY := Lib.hid (HCT.out r (.int .i64 y) (by simp [hy]))
                        have HXt := Lib.hid hx
                        clear hc3 hx hs hs1 hs2 hy
                        go_wp2_with fail
                        rw [← hW9]
                        have e1 : W9.cell? ⟨g, r, none⟩ = some (.int .i64 (s + x)) := by rw [HO9.out.cellAt r (by omega)]; exact runL_get hrM (by rw [HNext.out])
                        have e2 : W9.cell? ⟨bt, ot + r, none⟩ = some (.int .i64 y) := (HB9.out.cell (p := ⟨bt, ot + r, none⟩) lbt).trans HCY.out
                        have e3 : W9.cell? ⟨w.heap.size + 1, 0, none⟩ = some (.slice (some ⟨bt, ot, none⟩) 3 e0) := (HB9.out.cell (p := ⟨w.heap.size + 1, 0, none⟩) lt_).trans (HTb.out.cells 0)
                        clear hW9 hsc hfr
                        by_cases hle : s + x ≤ y
                        · go_wp2_with fail
                          go_quiet (fail)
                          clear m0 m1 n0 n1 m2 m3
                          go_wp2_with fail
                          go_roundw
                          case rel =>
                            refine ⟨t + 1, by omega, by go_num, HO9.out, (fun j hj => ?_), Below.trans HB9.out (by repeat (first | exact Below.refl _ _ | apply below_drewN | apply Below.drew))⟩
                            by_cases hjr : j = r
                            · subst hjr; left; rw [HNext.out, HGy.out]; exact hle
                            · obtain ⟨q1, q2⟩ := HOth.out j hj hjr
                              rw [q1, q2]; exact hcol.out j hj
                          case measure => simp [intOf]; omega
                        · have HV : Hid (statsB ats cs ts xss = false) := by
                            unfold Hid; rw [HSB.out]
                            refine rowsB_bad HRow.out HA.out ?_
                            rw [HNB.out]
                            refine rowOkB_col hrM ?_
                            have h2 := cntC_le (m := 3) (b := nb) (q := t + 1) (k := r) (by omega) hrM (by have := HYN.out; omega)
                            have h3 := colB_mono (m := 3) (k := r) (row := row) (fun x hx => badW_get HBR.out hx) (cntC 3 (t + 1) r) (nb - cntC 3 (t + 1) r)
                            rw [show cntC 3 (t + 1) r + (nb - cntC 3 (t + 1) r) = nb by omega] at h3
                            have h4 := HNext.out
                            unfold runC at h4
                            have h5 := HGy.out
                            omega
                          have hle' : y < s + x := by omega
                          go_wp2_with fail
                          go_quiet (fail)
                          clear m0 m1 n0 n1 m2 m3
                          go_wp2_with fail
                          go_ret
                          exact ⟨by rw [HV.out]; rfl, HAc.out.trans ((Below.trans HB9.out (by repeat (first | exact Below.refl _ _ | apply below_drewN | apply Below.drew))).mono HAc.out.size)⟩
                      · obtain rfl : t = yn := by omega
                        have HROk : Hid (rowOkB 3 ts row (nb : Nat) = true) := by
                          refine rowOkB_good (HRL.out.trans HYN.out) HBR.out fun j hj => ?_
                          have h6 := cntC_all (m := 3) (b := nb) (k := j) (by omega) hj
                          have h7 := hcol.out j hj
                          rw [HYN.out] at h7
                          unfold runC at h7
                          rw [h6] at h7
                          rcases h7 with h7 | h7
                          · exact h7
                          · omega
                        go_wp2_with fail
                        go_roundw
                        case rel =>
                          refine ⟨k + 1, by omega, by go_num, (fun j row' a' hj hr' ha' => ?_), HBel6.out⟩
                          rcases Nat.lt_or_ge j k with h1 | h1
                          · exact hgood.out j row' a' h1 hr' ha'
                          · obtain rfl : j = k := by omega
                            rw [HRow.out] at hr'; rw [HA.out] at ha'
                            obtain rfl := Option.some.inj hr'
                            obtain rfl := Option.some.inj ha'
                            rw [HNB.out]; exact HROk.out
                        case measure => simp [intOf]; omega
                · obtain rfl : k = p := by omega
                  have HV : Hid (statsB ats cs ts xss = true) := by
                    unfold Hid; rw [HSB.out]
                    refine rowsB_good (by rw [HX.out, HL.out]) fun i row a hr ha => hgood.out i row a (by have := (List.getElem?_eq_some_iff.1 hr).1; rw [HX.out] at this; exact this) hr ha
                  go_wp2_with fail
                  go_ret
                  exact ⟨by rw [HV.out]; rfl, HAc.out.trans (HBel.out.mono HAc.out.size)⟩
            · have HV : Hid (statsB ats cs ts xss = false) := by unfold Hid; rw [HSB.out]; exact rowsB_len (by rw [HX.out]; exact hp0) (by rw [HX.out, HL.out]; exact hpn)
              have hpn' : ¬ (p : Int) = (n : Int) := by omega
              go_wp2_with fail
              go_ret
              exact ⟨by rw [HV.out]; rfl, HAc.out⟩
        · have HV : Hid (statsB ats cs ts xss = false) := statsB_no2 (by unfold totB; rw [HSm.out, decide_eq_false hs9, Bool.and_false])
          have hs9' : 999 < sm := by omega
          go_wp2_with fail
          go_ret
          exact ⟨by rw [HV.out]; rfl, HAc.out⟩

end Go.Proofs.Ytchkmcikpamdeaa
