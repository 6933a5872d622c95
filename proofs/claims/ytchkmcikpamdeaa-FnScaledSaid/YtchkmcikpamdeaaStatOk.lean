/-
  StatsOk of spec.
-/
import Derived.Test.YtchkmcikpamdeaaStat
namespace Go.Proofs.Ytchkmcikpamdeaa
open Go.RowKit
set_option linter.unusedSimpArgs false
set_option linter.unusedVariables false

set_option maxRecDepth 20000 in
set_option maxHeartbeats 16000000 in
theorem sStatsOk_any (A C : Option Addr) (n c m d : Nat) (hs : List AH) (ats : List AD) (cs : List ByteArray) (T X : Option Addr) (q e0 p f0 : Nat) (gs : List Hd) (ts : List Int) (xss : List (List Int)) (w : World) (r : Sch w A C n m d hs ats cs) (s : Sta w T X q p gs ts xss) :
    Calls Try.prog 26 #[.agg #[.slice A n c, .slice C m d], .agg #[.slice T q e0, .slice X p f0]] w fun e w' => e = .returned (.bool (statsB ats cs ts xss)) ∧ Below w.heap.size w w' := by
  have R := Lib.hid r
  have S := Lib.hid s
  have HL := Lib.hid r.lenA; have HC := Lib.hid r.lenC
  have HT := Lib.hid s.lenT; have HX := Lib.hid s.lenX
  have hn := r.hn; have hq := s.hq; have hp := s.hp
  clear r s
  cases h1 : schB ats cs
  · have H1 := Lib.hid h1
    have HV := Lib.hid (statsB_no1 (ts := ts) (xss := xss) h1)
    clear h1
    have B0 := Below.refl w.heap.size w
    have s0 : w.heap.size ≤ w.heap.size := Nat.le_refl _
    go_enter Try.func26, Try.ntmps26
    have p_2 : Bx (w.alloc (.cells #[.slice A n c, .slice C m d] 40)) (w.heap.size) 40 #[.slice A n c, .slice C m d] := Bx.new _ _ _
    have B_2 := B0.alloc s0 (.cells #[.slice A n c, .slice C m d] 40)
    clear B0
    have cp_3 := p_2.cells
    have fp_3 := p_2.free
    clear cp_3 fp_3
    have p_4 := p_2.same (same_alloc (.cells #[.slice T q e0, .slice X p f0] 35) (by simp only [World.size_alloc]; omega))
    clear p_2
    have t_5 : Bx ((w.alloc (.cells #[.slice A n c, .slice C m d] 40)).alloc (.cells #[.slice T q e0, .slice X p f0] 35)) (w.heap.size + 1) 35 #[.slice T q e0, .slice X p f0] := by
      have h := Bx.new (w.alloc (.cells #[.slice A n c, .slice C m d] 40)) 35 #[.slice T q e0, .slice X p f0]
      simpa only [World.size_alloc] using h
    have B_5 := B_2.alloc (by simp only [World.size_alloc]; omega) (.cells #[.slice T q e0, .slice X p f0] 35)
    clear B_2
    have cp_6 := p_4.cells
    have fp_6 := p_4.free
    have ct_7 := t_5.cells
    have ft_7 := t_5.free
    go_wp2_with fail
    refine (sSchemaOk_any _ _ _ _ _ _ _ ats cs _ (R.out.below B_5 (Nat.le_refl _))).mono ?_
    rw [H1.out]
    rintro e w1 ⟨rfl, b⟩
    clear cp_6 fp_6
    clear ct_7 ft_7
    simp only [World.size_alloc] at b
    have t_8 := b.size
    simp only [World.size_alloc] at t_8
    have z_8 : w.heap.size ≤ w1.heap.size := by omega
    have p_9 := p_4.same (same_below b (by omega))
    clear p_4
    have t_9 := t_5.same (same_below b (by omega))
    clear t_5
    have B_8 := B_5.trans (b.mono (by omega))
    clear B_5 b
    have cp_10 := p_9.cells
    have fp_10 := p_9.free
    have ct_11 := t_9.cells
    have ft_11 := t_9.free
    go_wp2_with fail
    go_ret
    exact ⟨by rw [HV.out]; rfl, B_8⟩
  · have H1 := Lib.hid h1
    have hm23 := schB_m h1
    rw [HC.out] at hm23
    clear h1
    by_cases hqm : q = m
    · subst hqm
      rcases hm23 with rfl | rfl
      · skip
        have B0 := Below.refl w.heap.size w
        have s0 : w.heap.size ≤ w.heap.size := Nat.le_refl _
        go_enter Try.func26, Try.ntmps26
        have p_2 : Bx (w.alloc (.cells #[.slice A n c, .slice C 2 d] 40)) (w.heap.size) 40 #[.slice A n c, .slice C 2 d] := Bx.new _ _ _
        have B_2 := B0.alloc s0 (.cells #[.slice A n c, .slice C 2 d] 40)
        clear B0
        have cp_3 := p_2.cells
        have fp_3 := p_2.free
        clear cp_3 fp_3
        have p_4 := p_2.same (same_alloc (.cells #[.slice T 2 e0, .slice X p f0] 35) (by simp only [World.size_alloc]; omega))
        clear p_2
        have t_5 : Bx ((w.alloc (.cells #[.slice A n c, .slice C 2 d] 40)).alloc (.cells #[.slice T 2 e0, .slice X p f0] 35)) (w.heap.size + 1) 35 #[.slice T 2 e0, .slice X p f0] := by
          have h := Bx.new (w.alloc (.cells #[.slice A n c, .slice C 2 d] 40)) 35 #[.slice T 2 e0, .slice X p f0]
          simpa only [World.size_alloc] using h
        have B_5 := B_2.alloc (by simp only [World.size_alloc]; omega) (.cells #[.slice T 2 e0, .slice X p f0] 35)
        clear B_2
        have cp_6 := p_4.cells
        have fp_6 := p_4.free
        have ct_7 := t_5.cells
        have ft_7 := t_5.free
        go_wp2_with fail
        refine (sSchemaOk_any _ _ _ _ _ _ _ ats cs _ (R.out.below B_5 (Nat.le_refl _))).mono ?_
        rw [H1.out]
        rintro e w1 ⟨rfl, b⟩
        clear cp_6 fp_6
        clear ct_7 ft_7
        simp only [World.size_alloc] at b
        have t_8 := b.size
        simp only [World.size_alloc] at t_8
        have z_8 : w.heap.size ≤ w1.heap.size := by omega
        have p_9 := p_4.same (same_below b (by omega))
        clear p_4
        have t_9 := t_5.same (same_below b (by omega))
        clear t_5
        have B_8 := B_5.trans (b.mono (by omega))
        clear B_5 b
        have cp_10 := p_9.cells
        have fp_10 := p_9.free
        have ct_11 := t_9.cells
        have ft_11 := t_9.free
        have HAc := Lib.hid B_8; have HP := Lib.hid p_9; have HTb := Lib.hid t_9; have lp := p_9.lt; have lt_ := t_9.lt
        have R1 := Lib.hid (R.out.below B_8 (Nat.le_refl _)); have S1 := Lib.hid (S.out.below B_8 (Nat.le_refl _))
        obtain ⟨bt, ot, rfl, lbt, hct⟩ := S1.out.tot.ex (by omega)
        have HCT := Lib.hid hct
        clear hct
        go_wp2_with fail
        clear cp_10 fp_10 ct_11 ft_11
        have t0 : w1.cell? ⟨w.heap.size + 1, 0, none⟩ = some (.slice (some ⟨bt, ot, none⟩) 2 e0) := HTb.out.cells 0
        go_loop [5, 6] (fun sm i => ∃ k : Nat, k ≤ 2 ∧ i = .int .i64 k ∧ sm = .int .i64 ((ts.take k).sum) ∧ Hid (∀ (j : Nat) (x : Int), j < k → ts[j]? = some x → inB x 0 999 = true)) (fun _ i => 2 - (intOf i).toNat)
        case atStart => exact ⟨0, Nat.zero_le _, rfl, by simp, fun j x hj => absurd hj (by omega)⟩
        case round =>
          obtain ⟨k, hk, rfl, rfl, hgood⟩ := hrel
          by_cases hlt : k < 2
          · obtain ⟨x, hx⟩ : ∃ x, ts[k]? = some x := ⟨_, List.getElem?_eq_getElem (by rw [HT.out]; exact hlt)⟩
            have hcell := HCT.out k (.int .i64 x) (by simp [hx])
            have hb : 0 ≤ (ts.take k).sum ∧ (ts.take k).sum ≤ 2997 := by
              have := sum_bd (ts.take k) (fun z hz => by
                obtain ⟨j, hj⟩ := List.getElem?_of_mem hz
                rw [List.getElem?_take] at hj
                split at hj
                · rename_i hjk; exact inB_iff.1 (hgood.out j z hjk hj)
                · cases hj)
              have hl : (ts.take k).length ≤ k := by simp; omega
              omega
            have HSum := Lib.hid (take_sum hx)
            have HXk := Lib.hid hx
            obtain ⟨sm, hsm⟩ : ∃ sm, (ts.take k).sum = sm := ⟨_, rfl⟩
            rw [hsm] at hb HSum ⊢
            have n0 : (0 : Int) ≤ (k : Int) := Int.natCast_nonneg _
            have n1 : (k : Int) < 2 := by omega
            clear hx hsm
            cases hin : inB x 0 999
            · have HV : Hid (statsB ats cs ts xss = false) := statsB_no2 (by unfold totB; rw [badW_yes HXk.out hin, Bool.not_true, Bool.and_false, Bool.false_and])
              go_wp2_with fail
              refine (l1In_any _ _ _ _).mono ?_
              rw [hin]
              rintro e w3 ⟨rfl, rfl⟩
              go_wp2_with fail
              go_ret
              exact ⟨by rw [HV.out]; rfl, HAc.out⟩
            · have HIN := Lib.hid hin
              have hxb := inB_iff.1 hin
              go_wp2_with fail
              refine (l1In_any _ _ _ _).mono ?_
              rw [hin]
              rintro e w3 ⟨rfl, rfl⟩
              go_wp2_with fail
              go_round
              case rel =>
                refine ⟨k + 1, by omega, by go_num, by rw [HSum.out], fun j y hj hy => ?_⟩
                rcases Nat.lt_or_ge j k with h1 | h1
                · exact hgood.out j y h1 hy
                · obtain rfl : j = k := by omega
                  rw [HXk.out] at hy
                  obtain rfl := Option.some.inj hy
                  exact HIN.out
              case measure => simp [intOf]; omega
          · obtain rfl : k = 2 := by omega
            have HWt : Hid (badW ts = false) := badW_no fun j x hj => hgood.out j x (by have := (List.getElem?_eq_some_iff.1 hj).1; rw [HT.out] at this; exact this) hj
            have hts : ts.take 2 = ts := List.take_of_length_le (Nat.le_of_eq HT.out)
            rw [hts]
            clear hgood hts hlt hk
            obtain ⟨sm, hsm⟩ : ∃ sm, ts.sum = sm := ⟨_, rfl⟩
            have HSm := Lib.hid hsm
            rw [hsm]
            clear hsm
            by_cases hs9 : sm ≤ 999
            · have HTot : Hid (totB cs.length ts = true) := by unfold Hid totB; rw [HWt.out, decide_eq_true (by rw [HT.out, HC.out]), HSm.out, decide_eq_true hs9]; rfl
              have HSB : Hid (statsB ats cs ts xss = rowsB ats 2 ts xss) := by unfold Hid; rw [statsB_at H1.out HTot.out, HC.out]
              have p0 : w1.cell? ⟨w.heap.size, 0, none⟩ = some (.slice A n c) := ((Below.refl _ _).cell (p := ⟨w.heap.size, 0, none⟩) lp).trans (HP.out.cells 0)
              have p1 : w1.cell? ⟨w.heap.size, 1, none⟩ = some (.slice C 2 d) := ((Below.refl _ _).cell (p := ⟨w.heap.size, 1, none⟩) lp).trans (HP.out.cells 1)
              have t0 : w1.cell? ⟨w.heap.size + 1, 0, none⟩ = some (.slice (some ⟨bt, ot, none⟩) 2 e0) := ((Below.refl _ _).cell (p := ⟨w.heap.size + 1, 0, none⟩) lt_).trans (HTb.out.cells 0)
              have t1 : w1.cell? ⟨w.heap.size + 1, 1, none⟩ = some (.slice X p f0) := ((Below.refl _ _).cell (p := ⟨w.heap.size + 1, 1, none⟩) lt_).trans (HTb.out.cells 1)
              by_cases hp0 : p = 0
              · subst hp0
                have HV : Hid (statsB ats cs ts xss = true) := by unfold Hid; rw [HSB.out]; exact rowsB_zero HX.out
                go_wp2_with fail
                go_ret
                exact ⟨by rw [HV.out]; rfl, HAc.out⟩
              · have hp0' : ¬ (p : Int) = 0 := by omega
                by_cases hpn : p = n
                · subst hpn
                  go_wp2_with fail
                  clear p0 p1 t0 t1 hp0'
                  go_loopw [7] (fun i wr => ∃ k : Nat, k ≤ p ∧ i = .int .i64 k ∧ Hid (∀ (j : Nat) (row : List Int) (a : AD), j < k → xss[j]? = some row → ats[j]? = some a → rowOkB 2 ts row (binsI a) = true) ∧ Below w1.heap.size w1 wr) (fun i _ => p - (intOf i).toNat)
                  case atStart => exact ⟨0, Nat.zero_le _, rfl, (fun j row a hj => absurd hj (by omega)), Below.refl _ _⟩
                  case round =>
                    obtain ⟨k, hk, rfl, hgood, hbel⟩ := hrel
                    have HBel := Lib.hid hbel
                    clear hbel
                    have p0 : wr.cell? ⟨w.heap.size, 0, none⟩ = some (.slice A p c) := (HBel.out.cell (p := ⟨w.heap.size, 0, none⟩) lp).trans (HP.out.cells 0)
                    have p1 : wr.cell? ⟨w.heap.size, 1, none⟩ = some (.slice C 2 d) := (HBel.out.cell (p := ⟨w.heap.size, 1, none⟩) lp).trans (HP.out.cells 1)
                    have t0 : wr.cell? ⟨w.heap.size + 1, 0, none⟩ = some (.slice (some ⟨bt, ot, none⟩) 2 e0) := (HBel.out.cell (p := ⟨w.heap.size + 1, 0, none⟩) lt_).trans (HTb.out.cells 0)
                    have t1 : wr.cell? ⟨w.heap.size + 1, 1, none⟩ = some (.slice X p f0) := (HBel.out.cell (p := ⟨w.heap.size + 1, 1, none⟩) lt_).trans (HTb.out.cells 1)
                    by_cases hlt : k < p
                    · obtain ⟨h, a, b, off, ha, hra, rfl, hbl, d0, d1, d2⟩ := R1.out.get hlt
                      have hab := schB_get H1.out ha
                      obtain ⟨nb, hnb, hn2, hn4⟩ := attrB_bins hab
                      have f0 : wr.cell? ⟨b, off + k * 3, none⟩ = some (.string a.nm) := (HBel.out.cell (p := ⟨b, off + k * 3, none⟩) hbl).trans d0
                      have f1 : wr.cell? ⟨b, off + k * 3 + 1, none⟩ = some (.slice h.1.1 h.1.2.1 h.1.2.2) := (HBel.out.cell (p := ⟨b, off + k * 3 + 1, none⟩) hbl).trans d1
                      have f2 : wr.cell? ⟨b, off + k * 3 + 2, none⟩ = some (.slice h.2.1 h.2.2.1 h.2.2.2) := (HBel.out.cell (p := ⟨b, off + k * 3 + 2, none⟩) hbl).trans d2
                      have HAC := Lib.hid (hra.below HBel.out (Nat.le_refl _))
                      have HA := Lib.hid ha; have HNB := Lib.hid hnb; have HAB := Lib.hid hab
                      obtain ⟨y, vs, hy, hv, hrd, hvl⟩ := S1.out.cel.get hlt
                      obtain ⟨b2, o2, rfl, lb2, e2⟩ := S1.out.cel.head hlt hy
                      obtain ⟨row, hrow, rfl⟩ := iss_get' hv
                      obtain ⟨ya, yn, yc⟩ := y
                      simp only [List.length_map] at hvl hrd e2
                      have hyl : yn ≤ 1048576 := by rw [← hvl]; exact row_le2 S1.out.hb hrow
                      have HRow := Lib.hid hrow; have HRL := Lib.hid hvl; have HRd := Lib.hid hrd; have E2 := Lib.hid e2
                      have k0 : (0 : Int) ≤ (k : Int) := Int.natCast_nonneg _
                      have k1 : (k : Int) < (p : Int) := by omega
                      clear ha hra d0 d1 d2 hab hnb hy hv hrow hrd hvl e2
                      go_wp2_with fail
                      refine (sBins_any a h _ HAC.out HAB.out).mono ?_
                      rw [HNB.out]
                      rintro e w3 ⟨rfl, b3⟩
                      have HBel3 := Lib.hid (HBel.out.trans (b3.mono HBel.out.size))
                      clear b3 p0 p1 t0 t1 f0 f1 f2
                      have p0 : w3.cell? ⟨w.heap.size, 0, none⟩ = some (.slice (some ⟨b, off, none⟩) p c) := (HBel3.out.cell (p := ⟨w.heap.size, 0, none⟩) lp).trans (HP.out.cells 0)
                      have p1 : w3.cell? ⟨w.heap.size, 1, none⟩ = some (.slice C 2 d) := (HBel3.out.cell (p := ⟨w.heap.size, 1, none⟩) lp).trans (HP.out.cells 1)
                      have t0 : w3.cell? ⟨w.heap.size + 1, 0, none⟩ = some (.slice (some ⟨bt, ot, none⟩) 2 e0) := (HBel3.out.cell (p := ⟨w.heap.size + 1, 0, none⟩) lt_).trans (HTb.out.cells 0)
                      have t1 : w3.cell? ⟨w.heap.size + 1, 1, none⟩ = some (.slice (some ⟨b2, o2, none⟩) p f0) := (HBel3.out.cell (p := ⟨w.heap.size + 1, 1, none⟩) lt_).trans (HTb.out.cells 1)
                      have g2 : w3.cell? ⟨b2, o2 + k, none⟩ = some (.slice ya yn yc) := (HBel3.out.cell (p := ⟨b2, o2 + k, none⟩) lb2).trans E2.out
                      have m0 : IntKind.i64.wrap ((nb : Int) * 2) = (nb : Int) * 2 := IntWalk.i64_in _ (by omega)
                      by_cases hlen : yn = nb * 2
                      · have HYN := Lib.hid hlen
                        have hbe : ((yn : Int) == (nb : Int) * 2) = true := by rw [hlen]; simp
                        have hbn : ((yn : Int) != (nb : Int) * 2) = false := by rw [hlen]; simp
                        clear hlen
                        go_wp2_with fail
                        go_quiet (fail)
                        clear hbe hbn
                        clear p0 p1 t0 t1 g2
                        go_wp2_with fail
                        go_loopw [9] (fun i wr => ∃ r : Nat, r ≤ 2 ∧ i = .int .i64 r ∧ Hid (∀ (j : Nat), j < r → colB 2 j row nb ≤ ts.getD j 0 ∧ ∀ b, b < nb → inB (row.getD (b * 2 + j) 0) 0 999 = true) ∧ Below w1.heap.size w1 wr) (fun i _ => 2 - (intOf i).toNat)
                        case atStart => exact ⟨0, Nat.zero_le _, rfl, (fun j hj => absurd hj (by omega)), Below.trans HBel3.out (by repeat (first | exact Below.refl _ _ | apply below_drewN | apply Below.drew))⟩
                        case round =>
                          obtain ⟨r, hr, rfl, hcol, hbel4⟩ := hrel
                          have HBel4 := Lib.hid hbel4
                          clear hbel4
                          have p0 : wr.cell? ⟨w.heap.size, 0, none⟩ = some (.slice (some ⟨b, off, none⟩) p c) := (HBel4.out.cell (p := ⟨w.heap.size, 0, none⟩) lp).trans (HP.out.cells 0)
                          have p1 : wr.cell? ⟨w.heap.size, 1, none⟩ = some (.slice C 2 d) := (HBel4.out.cell (p := ⟨w.heap.size, 1, none⟩) lp).trans (HP.out.cells 1)
                          have t0 : wr.cell? ⟨w.heap.size + 1, 0, none⟩ = some (.slice (some ⟨bt, ot, none⟩) 2 e0) := (HBel4.out.cell (p := ⟨w.heap.size + 1, 0, none⟩) lt_).trans (HTb.out.cells 0)
                          have t1 : wr.cell? ⟨w.heap.size + 1, 1, none⟩ = some (.slice (some ⟨b2, o2, none⟩) p f0) := (HBel4.out.cell (p := ⟨w.heap.size + 1, 1, none⟩) lt_).trans (HTb.out.cells 1)
                          by_cases hltr : r < 2
                          · have hltr' : (r : Int) < 2 := by omega
                            go_wp2_with fail
                            clear p0 p1 t0 t1
                            go_loopw [10, 11] (fun sm i wr => ∃ t : Nat, t ≤ nb ∧ i = .int .i64 t ∧ sm = .int .i64 (colB 2 r row t) ∧ (0 ≤ colB 2 r row t ∧ colB 2 r row t ≤ 999 * t) ∧ Hid (∀ b, b < t → inB (row.getD (b * 2 + r) 0) 0 999 = true) ∧ Below w1.heap.size w1 wr) (fun _ i _ => nb - (intOf i).toNat)
                            case atStart => exact ⟨0, Nat.zero_le _, rfl, rfl, by simp [colB], (fun b hb => absurd hb (by omega)), HBel4.out⟩
                            case round =>
                              obtain ⟨t, ht, rfl, rfl, hcb, hrange, hbel5⟩ := hrel
                              have HBel5 := Lib.hid hbel5
                              clear hbel5
                              have p0 : wr.cell? ⟨w.heap.size, 0, none⟩ = some (.slice (some ⟨b, off, none⟩) p c) := (HBel5.out.cell (p := ⟨w.heap.size, 0, none⟩) lp).trans (HP.out.cells 0)
                              have p1 : wr.cell? ⟨w.heap.size, 1, none⟩ = some (.slice C 2 d) := (HBel5.out.cell (p := ⟨w.heap.size, 1, none⟩) lp).trans (HP.out.cells 1)
                              have t0 : wr.cell? ⟨w.heap.size + 1, 0, none⟩ = some (.slice (some ⟨bt, ot, none⟩) 2 e0) := (HBel5.out.cell (p := ⟨w.heap.size + 1, 0, none⟩) lt_).trans (HTb.out.cells 0)
                              have t1 : wr.cell? ⟨w.heap.size + 1, 1, none⟩ = some (.slice (some ⟨b2, o2, none⟩) p f0) := (HBel5.out.cell (p := ⟨w.heap.size + 1, 1, none⟩) lt_).trans (HTb.out.cells 1)
                              have g2 : wr.cell? ⟨b2, o2 + k, none⟩ = some (.slice ya yn yc) := (HBel5.out.cell (p := ⟨b2, o2 + k, none⟩) lb2).trans E2.out
                              by_cases hltt : t < nb
                              · have hidx : t * 2 + r < nb * 2 := by omega
                                obtain ⟨b3, o3, rfl, lb3, hc3⟩ := HRd.out.ex (show 0 < yn by have := HYN.out; omega)
                                have hil : t * 2 + r < row.length := by rw [HRL.out, HYN.out]; exact hidx
                                obtain ⟨x, hx⟩ : ∃ x, row[t * 2 + r]? = some x := ⟨_, List.getElem?_eq_getElem hil⟩
                                have hgx : row.getD (t * 2 + r) 0 = x := by simp [List.getD, hx]
                                have hcell : wr.cell? ⟨b3, o3 + (t * 2 + r), none⟩ = some (.int .i64 x) := (HBel5.out.cell (p := ⟨b3, o3 + (t * 2 + r), none⟩) lb3).trans (hc3 _ _ (by simp [hx]))
                                have HGx := Lib.hid hgx
                                have HC1 : Hid (colB 2 r row (t + 1) = colB 2 r row t + x) := by unfold Hid; rw [← hgx]; rfl
                                obtain ⟨sm, hsm⟩ : ∃ sm, colB 2 r row t = sm := ⟨_, rfl⟩
                                rw [hsm] at hcb HC1 ⊢
                                have q0 : (0 : Int) ≤ (t : Int) * 2 + r := by omega
                                have q1 : (t : Int) * 2 + r < (yn : Int) := by have := HYN.out; omega
                                have q2 : ((t : Int) * 2 + r).toNat = t * 2 + r := by omega
                                have q3 : IntKind.i64.wrap ((t : Int) * 2) = (t : Int) * 2 := IntWalk.i64_in _ (by omega)
                                have q4 : IntKind.i64.wrap ((t : Int) * 2 + r) = (t : Int) * 2 + r := IntWalk.i64_in _ (by omega)
                                have k0' : (0 : Int) ≤ (k : Int) := Int.natCast_nonneg _
                                clear hc3 hx hgx hsm
                                cases hin : inB x 0 999
                                · have HV : Hid (statsB ats cs ts xss = false) := by
                                    unfold Hid; rw [HSB.out]
                                    refine rowsB_bad HRow.out HA.out (rowOkB_bad (badW_yes (q := t * 2 + r) (x := x) ?_ hin))
                                    rw [List.getElem?_eq_getElem hil]; have := HGx.out; simp [List.getD, hil] at this; rw [this]
                                  go_wp2_with fail
                                  go_quiet (fail)
                                  clear q0 q1 q2 q3 q4
                                  go_wp2_with fail
                                  refine (l1In_any _ _ _ _).mono ?_
                                  rw [hin]
                                  rintro e w5 ⟨rfl, rfl⟩
                                  go_wp2_with fail
                                  go_ret
                                  exact ⟨by rw [HV.out]; rfl, HAc.out.trans ((Below.trans HBel5.out (by repeat (first | exact Below.refl _ _ | apply below_drewN | apply Below.drew))).mono HAc.out.size)⟩
                                · have HIN := Lib.hid hin
                                  have hxb := inB_iff.1 hin
                                  go_wp2_with fail
                                  go_quiet (fail)
                                  clear q0 q1 q2 q3 q4
                                  go_wp2_with fail
                                  refine (l1In_any _ _ _ _).mono ?_
                                  rw [hin]
                                  rintro e w5 ⟨rfl, rfl⟩
                                  go_wp2_with fail
                                  go_roundw
                                  case rel =>
                                    refine ⟨t + 1, by omega, by go_num, by rw [HC1.out], by rw [HC1.out]; omega, (fun b hb => ?_), Below.trans HBel5.out (by repeat (first | exact Below.refl _ _ | apply below_drewN | apply Below.drew))⟩
                                    rcases Nat.lt_or_ge b t with h1 | h1
                                    · exact hrange.out b h1
                                    · obtain rfl : b = t := by omega
                                      rw [HGx.out]; exact HIN.out
                                  case measure => simp [intOf]; omega
                              · obtain rfl : t = nb := by omega
                                obtain ⟨y, hy⟩ : ∃ y, ts[r]? = some y := ⟨_, List.getElem?_eq_getElem (by rw [HT.out]; exact hltr)⟩
                                have hgy : ts.getD r 0 = y := by simp [List.getD, hy]
                                have hcell : wr.cell? ⟨bt, ot + r, none⟩ = some (.int .i64 y) := (HBel5.out.cell (p := ⟨bt, ot + r, none⟩) lbt).trans (HCT.out r _ (by simp [hy]))
                                have HGy := Lib.hid hgy
                                obtain ⟨sm, hsm⟩ : ∃ sm, colB 2 r row t = sm := ⟨_, rfl⟩
                                have HSm2 := Lib.hid hsm
                                rw [hsm] at hcb ⊢
                                have r0 : (0 : Int) ≤ (r : Int) := Int.natCast_nonneg _
                                have r1 : (r : Int) < 2 := by omega
                                clear hy hgy hsm
                                by_cases hle : sm ≤ y
                                · go_wp2_with fail
                                  go_roundw
                                  case rel =>
                                    refine ⟨r + 1, by omega, by go_num, (fun j hj => ?_), HBel5.out⟩
                                    rcases Nat.lt_or_ge j r with h1 | h1
                                    · exact hcol.out j h1
                                    · obtain rfl : j = r := by omega
                                      exact ⟨by rw [HSm2.out, HGy.out]; exact hle, hrange.out⟩
                                  case measure => simp [intOf]; omega
                                · have HV : Hid (statsB ats cs ts xss = false) := by
                                    unfold Hid; rw [HSB.out]
                                    refine rowsB_bad HRow.out HA.out ?_
                                    rw [HNB.out]
                                    exact rowOkB_col hltr (by rw [HSm2.out, HGy.out]; exact hle)
                                  have hle' : y < sm := by omega
                                  go_wp2_with fail
                                  go_ret
                                  exact ⟨by rw [HV.out]; rfl, HAc.out.trans (HBel5.out.mono HAc.out.size)⟩
                          · obtain rfl : r = 2 := by omega
                            have HROk : Hid (rowOkB 2 ts row (nb : Nat) = true) := by
                              refine rowOkB_good (HRL.out.trans HYN.out) (badW_no fun j x hj => ?_) (fun j hj => (hcol.out j hj).1)
                              have hjl := (List.getElem?_eq_some_iff.1 hj).1
                              rw [HRL.out, HYN.out] at hjl
                              have e : j / 2 * 2 + j % 2 = j := by omega
                              have := (hcol.out (j % 2) (by omega)).2 (j / 2) (by omega)
                              rw [e] at this
                              simpa [List.getD, hj] using this
                            go_wp2_with fail
                            go_roundw
                            case rel =>
                              refine ⟨k + 1, by omega, by go_num, (fun j row' a' hj hr' ha' => ?_), HBel4.out⟩
                              rcases Nat.lt_or_ge j k with h1 | h1
                              · exact hgood.out j row' a' h1 hr' ha'
                              · obtain rfl : j = k := by omega
                                rw [HRow.out] at hr'; rw [HA.out] at ha'
                                obtain rfl := Option.some.inj hr'
                                obtain rfl := Option.some.inj ha'
                                rw [HNB.out]; exact HROk.out
                            case measure => simp [intOf]; omega
                      · have HV : Hid (statsB ats cs ts xss = false) := by
                          unfold Hid; rw [HSB.out]
                          exact rowsB_bad HRow.out HA.out (by rw [HNB.out]; exact rowOkB_len2 HRL.out hlen)
                        have hlen' : ¬ (yn : Int) = (nb : Int) * 2 := by omega
                        go_wp2_with fail
                        go_quiet (fail)
                        go_wp2_with fail
                        go_ret
                        exact ⟨by rw [HV.out]; rfl, HAc.out.trans ((Below.trans HBel3.out (by repeat (first | exact Below.refl _ _ | apply below_drewN | apply Below.drew))).mono HAc.out.size)⟩
                    · obtain rfl : k = p := by omega
                      have HV : Hid (statsB ats cs ts xss = true) := by
                        unfold Hid; rw [HSB.out]
                        refine rowsB_good (by rw [HX.out, HL.out]) fun i row a hr ha => hgood.out i row a (by have := (List.getElem?_eq_some_iff.1 hr).1; rw [HX.out] at this; exact this) hr ha
                      go_wp2_with fail
                      go_ret
                      exact ⟨by rw [HV.out]; rfl, HAc.out.trans (HBel.out.mono HAc.out.size)⟩
                · have HV : Hid (statsB ats cs ts xss = false) := by unfold Hid; rw [HSB.out]; exact rowsB_len (by rw [HX.out]; exact hp0) (by rw [HX.out, HL.out]; exact hpn)
                  have hpn' : ¬ (p : Int) = (n : Int) := by omega
                  go_wp2_with fail
                  go_ret
                  exact ⟨by rw [HV.out]; rfl, HAc.out⟩
            · have HV : Hid (statsB ats cs ts xss = false) := statsB_no2 (by unfold totB; rw [HSm.out, decide_eq_false hs9, Bool.and_false])
              have hs9' : 999 < sm := by omega
              go_wp2_with fail
              go_ret
              exact ⟨by rw [HV.out]; rfl, HAc.out⟩
      · skip
        have B0 := Below.refl w.heap.size w
        have s0 : w.heap.size ≤ w.heap.size := Nat.le_refl _
        go_enter Try.func26, Try.ntmps26
        have p_2 : Bx (w.alloc (.cells #[.slice A n c, .slice C 3 d] 40)) (w.heap.size) 40 #[.slice A n c, .slice C 3 d] := Bx.new _ _ _
        have B_2 := B0.alloc s0 (.cells #[.slice A n c, .slice C 3 d] 40)
        clear B0
        have cp_3 := p_2.cells
        have fp_3 := p_2.free
        clear cp_3 fp_3
        have p_4 := p_2.same (same_alloc (.cells #[.slice T 3 e0, .slice X p f0] 35) (by simp only [World.size_alloc]; omega))
        clear p_2
        have t_5 : Bx ((w.alloc (.cells #[.slice A n c, .slice C 3 d] 40)).alloc (.cells #[.slice T 3 e0, .slice X p f0] 35)) (w.heap.size + 1) 35 #[.slice T 3 e0, .slice X p f0] := by
          have h := Bx.new (w.alloc (.cells #[.slice A n c, .slice C 3 d] 40)) 35 #[.slice T 3 e0, .slice X p f0]
          simpa only [World.size_alloc] using h
        have B_5 := B_2.alloc (by simp only [World.size_alloc]; omega) (.cells #[.slice T 3 e0, .slice X p f0] 35)
        clear B_2
        have cp_6 := p_4.cells
        have fp_6 := p_4.free
        have ct_7 := t_5.cells
        have ft_7 := t_5.free
        go_wp2_with fail
        refine (sSchemaOk_any _ _ _ _ _ _ _ ats cs _ (R.out.below B_5 (Nat.le_refl _))).mono ?_
        rw [H1.out]
        rintro e w1 ⟨rfl, b⟩
        clear cp_6 fp_6
        clear ct_7 ft_7
        simp only [World.size_alloc] at b
        have t_8 := b.size
        simp only [World.size_alloc] at t_8
        have z_8 : w.heap.size ≤ w1.heap.size := by omega
        have p_9 := p_4.same (same_below b (by omega))
        clear p_4
        have t_9 := t_5.same (same_below b (by omega))
        clear t_5
        have B_8 := B_5.trans (b.mono (by omega))
        clear B_5 b
        have cp_10 := p_9.cells
        have fp_10 := p_9.free
        have ct_11 := t_9.cells
        have ft_11 := t_9.free
        have HAc := Lib.hid B_8; have HP := Lib.hid p_9; have HTb := Lib.hid t_9; have lp := p_9.lt; have lt_ := t_9.lt
        have R1 := Lib.hid (R.out.below B_8 (Nat.le_refl _)); have S1 := Lib.hid (S.out.below B_8 (Nat.le_refl _))
        obtain ⟨bt, ot, rfl, lbt, hct⟩ := S1.out.tot.ex (by omega)
        have HCT := Lib.hid hct
        clear hct
        go_wp2_with fail
        clear cp_10 fp_10 ct_11 ft_11
        have t0 : w1.cell? ⟨w.heap.size + 1, 0, none⟩ = some (.slice (some ⟨bt, ot, none⟩) 3 e0) := HTb.out.cells 0
        go_loop [5, 6] (fun sm i => ∃ k : Nat, k ≤ 3 ∧ i = .int .i64 k ∧ sm = .int .i64 ((ts.take k).sum) ∧ Hid (∀ (j : Nat) (x : Int), j < k → ts[j]? = some x → inB x 0 999 = true)) (fun _ i => 3 - (intOf i).toNat)
        case atStart => exact ⟨0, Nat.zero_le _, rfl, by simp, fun j x hj => absurd hj (by omega)⟩
        case round =>
          obtain ⟨k, hk, rfl, rfl, hgood⟩ := hrel
          by_cases hlt : k < 3
          · obtain ⟨x, hx⟩ : ∃ x, ts[k]? = some x := ⟨_, List.getElem?_eq_getElem (by rw [HT.out]; exact hlt)⟩
            have hcell := HCT.out k (.int .i64 x) (by simp [hx])
            have hb : 0 ≤ (ts.take k).sum ∧ (ts.take k).sum ≤ 2997 := by
              have := sum_bd (ts.take k) (fun z hz => by
                obtain ⟨j, hj⟩ := List.getElem?_of_mem hz
                rw [List.getElem?_take] at hj
                split at hj
                · rename_i hjk; exact inB_iff.1 (hgood.out j z hjk hj)
                · cases hj)
              have hl : (ts.take k).length ≤ k := by simp; omega
              omega
            have HSum := Lib.hid (take_sum hx)
            have HXk := Lib.hid hx
            obtain ⟨sm, hsm⟩ : ∃ sm, (ts.take k).sum = sm := ⟨_, rfl⟩
            rw [hsm] at hb HSum ⊢
            have n0 : (0 : Int) ≤ (k : Int) := Int.natCast_nonneg _
            have n1 : (k : Int) < 3 := by omega
            clear hx hsm
            cases hin : inB x 0 999
            · have HV : Hid (statsB ats cs ts xss = false) := statsB_no2 (by unfold totB; rw [badW_yes HXk.out hin, Bool.not_true, Bool.and_false, Bool.false_and])
              go_wp2_with fail
              refine (l1In_any _ _ _ _).mono ?_
              rw [hin]
              rintro e w3 ⟨rfl, rfl⟩
              go_wp2_with fail
              go_ret
              exact ⟨by rw [HV.out]; rfl, HAc.out⟩
            · have HIN := Lib.hid hin
              have hxb := inB_iff.1 hin
              go_wp2_with fail
              refine (l1In_any _ _ _ _).mono ?_
              rw [hin]
              rintro e w3 ⟨rfl, rfl⟩
              go_wp2_with fail
              go_round
              case rel =>
                refine ⟨k + 1, by omega, by go_num, by rw [HSum.out], fun j y hj hy => ?_⟩
                rcases Nat.lt_or_ge j k with h1 | h1
                · exact hgood.out j y h1 hy
                · obtain rfl : j = k := by omega
                  rw [HXk.out] at hy
                  obtain rfl := Option.some.inj hy
                  exact HIN.out
              case measure => simp [intOf]; omega
          · obtain rfl : k = 3 := by omega
            have HWt : Hid (badW ts = false) := badW_no fun j x hj => hgood.out j x (by have := (List.getElem?_eq_some_iff.1 hj).1; rw [HT.out] at this; exact this) hj
            have hts : ts.take 3 = ts := List.take_of_length_le (Nat.le_of_eq HT.out)
            rw [hts]
            clear hgood hts hlt hk
            obtain ⟨sm, hsm⟩ : ∃ sm, ts.sum = sm := ⟨_, rfl⟩
            have HSm := Lib.hid hsm
            rw [hsm]
            clear hsm
            by_cases hs9 : sm ≤ 999
            · have HTot : Hid (totB cs.length ts = true) := by unfold Hid totB; rw [HWt.out, decide_eq_true (by rw [HT.out, HC.out]), HSm.out, decide_eq_true hs9]; rfl
              have HSB : Hid (statsB ats cs ts xss = rowsB ats 3 ts xss) := by unfold Hid; rw [statsB_at H1.out HTot.out, HC.out]
              have p0 : w1.cell? ⟨w.heap.size, 0, none⟩ = some (.slice A n c) := ((Below.refl _ _).cell (p := ⟨w.heap.size, 0, none⟩) lp).trans (HP.out.cells 0)
              have p1 : w1.cell? ⟨w.heap.size, 1, none⟩ = some (.slice C 3 d) := ((Below.refl _ _).cell (p := ⟨w.heap.size, 1, none⟩) lp).trans (HP.out.cells 1)
              have t0 : w1.cell? ⟨w.heap.size + 1, 0, none⟩ = some (.slice (some ⟨bt, ot, none⟩) 3 e0) := ((Below.refl _ _).cell (p := ⟨w.heap.size + 1, 0, none⟩) lt_).trans (HTb.out.cells 0)
              have t1 : w1.cell? ⟨w.heap.size + 1, 1, none⟩ = some (.slice X p f0) := ((Below.refl _ _).cell (p := ⟨w.heap.size + 1, 1, none⟩) lt_).trans (HTb.out.cells 1)
              by_cases hp0 : p = 0
              · subst hp0
                have HV : Hid (statsB ats cs ts xss = true) := by unfold Hid; rw [HSB.out]; exact rowsB_zero HX.out
                go_wp2_with fail
                go_ret
                exact ⟨by rw [HV.out]; rfl, HAc.out⟩
              · have hp0' : ¬ (p : Int) = 0 := by omega
                by_cases hpn : p = n
                · subst hpn
                  go_wp2_with fail
                  clear p0 p1 t0 t1 hp0'
                  go_loopw [7] (fun i wr => ∃ k : Nat, k ≤ p ∧ i = .int .i64 k ∧ Hid (∀ (j : Nat) (row : List Int) (a : AD), j < k → xss[j]? = some row → ats[j]? = some a → rowOkB 3 ts row (binsI a) = true) ∧ Below w1.heap.size w1 wr) (fun i _ => p - (intOf i).toNat)
                  case atStart => exact ⟨0, Nat.zero_le _, rfl, (fun j row a hj => absurd hj (by omega)), Below.refl _ _⟩
                  case round =>
                    obtain ⟨k, hk, rfl, hgood, hbel⟩ := hrel
                    have HBel := Lib.hid hbel
                    clear hbel
                    have p0 : wr.cell? ⟨w.heap.size, 0, none⟩ = some (.slice A p c) := (HBel.out.cell (p := ⟨w.heap.size, 0, none⟩) lp).trans (HP.out.cells 0)
                    have p1 : wr.cell? ⟨w.heap.size, 1, none⟩ = some (.slice C 3 d) := (HBel.out.cell (p := ⟨w.heap.size, 1, none⟩) lp).trans (HP.out.cells 1)
                    have t0 : wr.cell? ⟨w.heap.size + 1, 0, none⟩ = some (.slice (some ⟨bt, ot, none⟩) 3 e0) := (HBel.out.cell (p := ⟨w.heap.size + 1, 0, none⟩) lt_).trans (HTb.out.cells 0)
                    have t1 : wr.cell? ⟨w.heap.size + 1, 1, none⟩ = some (.slice X p f0) := (HBel.out.cell (p := ⟨w.heap.size + 1, 1, none⟩) lt_).trans (HTb.out.cells 1)
                    by_cases hlt : k < p
                    · obtain ⟨h, a, b, off, ha, hra, rfl, hbl, d0, d1, d2⟩ := R1.out.get hlt
                      have hab := schB_get H1.out ha
                      obtain ⟨nb, hnb, hn2, hn4⟩ := attrB_bins hab
                      have f0 : wr.cell? ⟨b, off + k * 3, none⟩ = some (.string a.nm) := (HBel.out.cell (p := ⟨b, off + k * 3, none⟩) hbl).trans d0
                      have f1 : wr.cell? ⟨b, off + k * 3 + 1, none⟩ = some (.slice h.1.1 h.1.2.1 h.1.2.2) := (HBel.out.cell (p := ⟨b, off + k * 3 + 1, none⟩) hbl).trans d1
                      have f2 : wr.cell? ⟨b, off + k * 3 + 2, none⟩ = some (.slice h.2.1 h.2.2.1 h.2.2.2) := (HBel.out.cell (p := ⟨b, off + k * 3 + 2, none⟩) hbl).trans d2
                      have HAC := Lib.hid (hra.below HBel.out (Nat.le_refl _))
                      have HA := Lib.hid ha; have HNB := Lib.hid hnb; have HAB := Lib.hid hab
                      obtain ⟨y, vs, hy, hv, hrd, hvl⟩ := S1.out.cel.get hlt
                      obtain ⟨b2, o2, rfl, lb2, e2⟩ := S1.out.cel.head hlt hy
                      obtain ⟨row, hrow, rfl⟩ := iss_get' hv
                      obtain ⟨ya, yn, yc⟩ := y
                      simp only [List.length_map] at hvl hrd e2
                      have hyl : yn ≤ 1048576 := by rw [← hvl]; exact row_le2 S1.out.hb hrow
                      have HRow := Lib.hid hrow; have HRL := Lib.hid hvl; have HRd := Lib.hid hrd; have E2 := Lib.hid e2
                      have k0 : (0 : Int) ≤ (k : Int) := Int.natCast_nonneg _
                      have k1 : (k : Int) < (p : Int) := by omega
                      clear ha hra d0 d1 d2 hab hnb hy hv hrow hrd hvl e2
                      go_wp2_with fail
                      refine (sBins_any a h _ HAC.out HAB.out).mono ?_
                      rw [HNB.out]
                      rintro e w3 ⟨rfl, b3⟩
                      have HBel3 := Lib.hid (HBel.out.trans (b3.mono HBel.out.size))
                      clear b3 p0 p1 t0 t1 f0 f1 f2
                      have p0 : w3.cell? ⟨w.heap.size, 0, none⟩ = some (.slice (some ⟨b, off, none⟩) p c) := (HBel3.out.cell (p := ⟨w.heap.size, 0, none⟩) lp).trans (HP.out.cells 0)
                      have p1 : w3.cell? ⟨w.heap.size, 1, none⟩ = some (.slice C 3 d) := (HBel3.out.cell (p := ⟨w.heap.size, 1, none⟩) lp).trans (HP.out.cells 1)
                      have t0 : w3.cell? ⟨w.heap.size + 1, 0, none⟩ = some (.slice (some ⟨bt, ot, none⟩) 3 e0) := (HBel3.out.cell (p := ⟨w.heap.size + 1, 0, none⟩) lt_).trans (HTb.out.cells 0)
                      have t1 : w3.cell? ⟨w.heap.size + 1, 1, none⟩ = some (.slice (some ⟨b2, o2, none⟩) p f0) := (HBel3.out.cell (p := ⟨w.heap.size + 1, 1, none⟩) lt_).trans (HTb.out.cells 1)
                      have g2 : w3.cell? ⟨b2, o2 + k, none⟩ = some (.slice ya yn yc) := (HBel3.out.cell (p := ⟨b2, o2 + k, none⟩) lb2).trans E2.out
                      have m0 : IntKind.i64.wrap ((nb : Int) * 3) = (nb : Int) * 3 := IntWalk.i64_in _ (by omega)
                      by_cases hlen : yn = nb * 3
                      · have HYN := Lib.hid hlen
                        have hbe : ((yn : Int) == (nb : Int) * 3) = true := by rw [hlen]; simp
                        have hbn : ((yn : Int) != (nb : Int) * 3) = false := by rw [hlen]; simp
                        clear hlen
                        go_wp2_with fail
                        go_quiet (fail)
                        clear hbe hbn
                        clear p0 p1 t0 t1 g2
                        go_wp2_with fail
                        go_loopw [9] (fun i wr => ∃ r : Nat, r ≤ 3 ∧ i = .int .i64 r ∧ Hid (∀ (j : Nat), j < r → colB 3 j row nb ≤ ts.getD j 0 ∧ ∀ b, b < nb → inB (row.getD (b * 3 + j) 0) 0 999 = true) ∧ Below w1.heap.size w1 wr) (fun i _ => 3 - (intOf i).toNat)
                        case atStart => exact ⟨0, Nat.zero_le _, rfl, (fun j hj => absurd hj (by omega)), Below.trans HBel3.out (by repeat (first | exact Below.refl _ _ | apply below_drewN | apply Below.drew))⟩
                        case round =>
                          obtain ⟨r, hr, rfl, hcol, hbel4⟩ := hrel
                          have HBel4 := Lib.hid hbel4
                          clear hbel4
                          have p0 : wr.cell? ⟨w.heap.size, 0, none⟩ = some (.slice (some ⟨b, off, none⟩) p c) := (HBel4.out.cell (p := ⟨w.heap.size, 0, none⟩) lp).trans (HP.out.cells 0)
                          have p1 : wr.cell? ⟨w.heap.size, 1, none⟩ = some (.slice C 3 d) := (HBel4.out.cell (p := ⟨w.heap.size, 1, none⟩) lp).trans (HP.out.cells 1)
                          have t0 : wr.cell? ⟨w.heap.size + 1, 0, none⟩ = some (.slice (some ⟨bt, ot, none⟩) 3 e0) := (HBel4.out.cell (p := ⟨w.heap.size + 1, 0, none⟩) lt_).trans (HTb.out.cells 0)
                          have t1 : wr.cell? ⟨w.heap.size + 1, 1, none⟩ = some (.slice (some ⟨b2, o2, none⟩) p f0) := (HBel4.out.cell (p := ⟨w.heap.size + 1, 1, none⟩) lt_).trans (HTb.out.cells 1)
                          by_cases hltr : r < 3
                          · have hltr' : (r : Int) < 3 := by omega
                            go_wp2_with fail
                            clear p0 p1 t0 t1
                            go_loopw [10, 11] (fun sm i wr => ∃ t : Nat, t ≤ nb ∧ i = .int .i64 t ∧ sm = .int .i64 (colB 3 r row t) ∧ (0 ≤ colB 3 r row t ∧ colB 3 r row t ≤ 999 * t) ∧ Hid (∀ b, b < t → inB (row.getD (b * 3 + r) 0) 0 999 = true) ∧ Below w1.heap.size w1 wr) (fun _ i _ => nb - (intOf i).toNat)
                            case atStart => exact ⟨0, Nat.zero_le _, rfl, rfl, by simp [colB], (fun b hb => absurd hb (by omega)), HBel4.out⟩
                            case round =>
                              obtain ⟨t, ht, rfl, rfl, hcb, hrange, hbel5⟩ := hrel
                              have HBel5 := Lib.hid hbel5
                              clear hbel5
                              have p0 : wr.cell? ⟨w.heap.size, 0, none⟩ = some (.slice (some ⟨b, off, none⟩) p c) := (HBel5.out.cell (p := ⟨w.heap.size, 0, none⟩) lp).trans (HP.out.cells 0)
                              have p1 : wr.cell? ⟨w.heap.size, 1, none⟩ = some (.slice C 3 d) := (HBel5.out.cell (p := ⟨w.heap.size, 1, none⟩) lp).trans (HP.out.cells 1)
                              have t0 : wr.cell? ⟨w.heap.size + 1, 0, none⟩ = some (.slice (some ⟨bt, ot, none⟩) 3 e0) := (HBel5.out.cell (p := ⟨w.heap.size + 1, 0, none⟩) lt_).trans (HTb.out.cells 0)
                              have t1 : wr.cell? ⟨w.heap.size + 1, 1, none⟩ = some (.slice (some ⟨b2, o2, none⟩) p f0) := (HBel5.out.cell (p := ⟨w.heap.size + 1, 1, none⟩) lt_).trans (HTb.out.cells 1)
                              have g2 : wr.cell? ⟨b2, o2 + k, none⟩ = some (.slice ya yn yc) := (HBel5.out.cell (p := ⟨b2, o2 + k, none⟩) lb2).trans E2.out
                              by_cases hltt : t < nb
                              · have hidx : t * 3 + r < nb * 3 := by omega
                                obtain ⟨b3, o3, rfl, lb3, hc3⟩ := HRd.out.ex (show 0 < yn by have := HYN.out; omega)
                                have hil : t * 3 + r < row.length := by rw [HRL.out, HYN.out]; exact hidx
                                obtain ⟨x, hx⟩ : ∃ x, row[t * 3 + r]? = some x := ⟨_, List.getElem?_eq_getElem hil⟩
                                have hgx : row.getD (t * 3 + r) 0 = x := by simp [List.getD, hx]
                                have hcell : wr.cell? ⟨b3, o3 + (t * 3 + r), none⟩ = some (.int .i64 x) := (HBel5.out.cell (p := ⟨b3, o3 + (t * 3 + r), none⟩) lb3).trans (hc3 _ _ (by simp [hx]))
                                have HGx := Lib.hid hgx
                                have HC1 : Hid (colB 3 r row (t + 1) = colB 3 r row t + x) := by unfold Hid; rw [← hgx]; rfl
                                obtain ⟨sm, hsm⟩ : ∃ sm, colB 3 r row t = sm := ⟨_, rfl⟩
                                rw [hsm] at hcb HC1 ⊢
                                have q0 : (0 : Int) ≤ (t : Int) * 3 + r := by omega
                                have q1 : (t : Int) * 3 + r < (yn : Int) := by have := HYN.out; omega
                                have q2 : ((t : Int) * 3 + r).toNat = t * 3 + r := by omega
                                have q3 : IntKind.i64.wrap ((t : Int) * 3) = (t : Int) * 3 := IntWalk.i64_in _ (by omega)
                                have q4 : IntKind.i64.wrap ((t : Int) * 3 + r) = (t : Int) * 3 + r := IntWalk.i64_in _ (by omega)
                                have k0' : (0 : Int) ≤ (k : Int) := Int.natCast_nonneg _
                                clear hc3 hx hgx hsm
                                cases hin : inB x 0 999
                                · have HV : Hid (statsB ats cs ts xss = false) := by
                                    unfold Hid; rw [HSB.out]
                                    refine rowsB_bad HRow.out HA.out (rowOkB_bad (badW_yes (q := t * 3 + r) (x := x) ?_ hin))
                                    rw [List.getElem?_eq_getElem hil]; have := HGx.out; simp [List.getD, hil] at this; rw [this]
                                  go_wp2_with fail
                                  go_quiet (fail)
                                  clear q0 q1 q2 q3 q4
                                  go_wp2_with fail
                                  refine (l1In_any _ _ _ _).mono ?_
                                  rw [hin]
                                  rintro e w5 ⟨rfl, rfl⟩
                                  go_wp2_with fail
                                  go_ret
                                  exact ⟨by rw [HV.out]; rfl, HAc.out.trans ((Below.trans HBel5.out (by repeat (first | exact Below.refl _ _ | apply below_drewN | apply Below.drew))).mono HAc.out.size)⟩
                                · have HIN := Lib.hid hin
                                  have hxb := inB_iff.1 hin
                                  go_wp2_with fail
                                  go_quiet (fail)
                                  clear q0 q1 q2 q3 q4
                                  go_wp2_with fail
                                  refine (l1In_any _ _ _ _).mono ?_
                                  rw [hin]
                                  rintro e w5 ⟨rfl, rfl⟩
                                  go_wp2_with fail
                                  go_roundw
                                  case rel =>
                                    refine ⟨t + 1, by omega, by go_num, by rw [HC1.out], by rw [HC1.out]; omega, (fun b hb => ?_), Below.trans HBel5.out (by repeat (first | exact Below.refl _ _ | apply below_drewN | apply Below.drew))⟩
                                    rcases Nat.lt_or_ge b t with h1 | h1
                                    · exact hrange.out b h1
                                    · obtain rfl : b = t := by omega
                                      rw [HGx.out]; exact HIN.out
                                  case measure => simp [intOf]; omega
                              · obtain rfl : t = nb := by omega
                                obtain ⟨y, hy⟩ : ∃ y, ts[r]? = some y := ⟨_, List.getElem?_eq_getElem (by rw [HT.out]; exact hltr)⟩
                                have hgy : ts.getD r 0 = y := by simp [List.getD, hy]
                                have hcell : wr.cell? ⟨bt, ot + r, none⟩ = some (.int .i64 y) := (HBel5.out.cell (p := ⟨bt, ot + r, none⟩) lbt).trans (HCT.out r _ (by simp [hy]))
                                have HGy := Lib.hid hgy
                                obtain ⟨sm, hsm⟩ : ∃ sm, colB 3 r row t = sm := ⟨_, rfl⟩
                                have HSm2 := Lib.hid hsm
                                rw [hsm] at hcb ⊢
                                have r0 : (0 : Int) ≤ (r : Int) := Int.natCast_nonneg _
                                have r1 : (r : Int) < 3 := by omega
                                clear hy hgy hsm
                                by_cases hle : sm ≤ y
                                · go_wp2_with fail
                                  go_roundw
                                  case rel =>
                                    refine ⟨r + 1, by omega, by go_num, (fun j hj => ?_), HBel5.out⟩
                                    rcases Nat.lt_or_ge j r with h1 | h1
                                    · exact hcol.out j h1
                                    · obtain rfl : j = r := by omega
                                      exact ⟨by rw [HSm2.out, HGy.out]; exact hle, hrange.out⟩
                                  case measure => simp [intOf]; omega
                                · have HV : Hid (statsB ats cs ts xss = false) := by
                                    unfold Hid; rw [HSB.out]
                                    refine rowsB_bad HRow.out HA.out ?_
                                    rw [HNB.out]
                                    exact rowOkB_col hltr (by rw [HSm2.out, HGy.out]; exact hle)
                                  have hle' : y < sm := by omega
                                  go_wp2_with fail
                                  go_ret
                                  exact ⟨by rw [HV.out]; rfl, HAc.out.trans (HBel5.out.mono HAc.out.size)⟩
                          · obtain rfl : r = 3 := by omega
                            have HROk : Hid (rowOkB 3 ts row (nb : Nat) = true) := by
                              refine rowOkB_good (HRL.out.trans HYN.out) (badW_no fun j x hj => ?_) (fun j hj => (hcol.out j hj).1)
                              have hjl := (List.getElem?_eq_some_iff.1 hj).1
                              rw [HRL.out, HYN.out] at hjl
                              have e : j / 3 * 3 + j % 3 = j := by omega
                              have := (hcol.out (j % 3) (by omega)).2 (j / 3) (by omega)
                              rw [e] at this
                              simpa [List.getD, hj] using this
                            go_wp2_with fail
                            go_roundw
                            case rel =>
                              refine ⟨k + 1, by omega, by go_num, (fun j row' a' hj hr' ha' => ?_), HBel4.out⟩
                              rcases Nat.lt_or_ge j k with h1 | h1
                              · exact hgood.out j row' a' h1 hr' ha'
                              · obtain rfl : j = k := by omega
                                rw [HRow.out] at hr'; rw [HA.out] at ha'
                                obtain rfl := Option.some.inj hr'
                                obtain rfl := Option.some.inj ha'
                                rw [HNB.out]; exact HROk.out
                            case measure => simp [intOf]; omega
                      · have HV : Hid (statsB ats cs ts xss = false) := by
                          unfold Hid; rw [HSB.out]
                          exact rowsB_bad HRow.out HA.out (by rw [HNB.out]; exact rowOkB_len2 HRL.out hlen)
                        have hlen' : ¬ (yn : Int) = (nb : Int) * 3 := by omega
                        go_wp2_with fail
                        go_quiet (fail)
                        go_wp2_with fail
                        go_ret
                        exact ⟨by rw [HV.out]; rfl, HAc.out.trans ((Below.trans HBel3.out (by repeat (first | exact Below.refl _ _ | apply below_drewN | apply Below.drew))).mono HAc.out.size)⟩
                    · obtain rfl : k = p := by omega
                      have HV : Hid (statsB ats cs ts xss = true) := by
                        unfold Hid; rw [HSB.out]
                        refine rowsB_good (by rw [HX.out, HL.out]) fun i row a hr ha => hgood.out i row a (by have := (List.getElem?_eq_some_iff.1 hr).1; rw [HX.out] at this; exact this) hr ha
                      go_wp2_with fail
                      go_ret
                      exact ⟨by rw [HV.out]; rfl, HAc.out.trans (HBel.out.mono HAc.out.size)⟩
                · have HV : Hid (statsB ats cs ts xss = false) := by unfold Hid; rw [HSB.out]; exact rowsB_len (by rw [HX.out]; exact hp0) (by rw [HX.out, HL.out]; exact hpn)
                  have hpn' : ¬ (p : Int) = (n : Int) := by omega
                  go_wp2_with fail
                  go_ret
                  exact ⟨by rw [HV.out]; rfl, HAc.out⟩
            · have HV : Hid (statsB ats cs ts xss = false) := statsB_no2 (by unfold totB; rw [HSm.out, decide_eq_false hs9, Bool.and_false])
              have hs9' : 999 < sm := by omega
              go_wp2_with fail
              go_ret
              exact ⟨by rw [HV.out]; rfl, HAc.out⟩
    · have HV : Hid (statsB ats cs ts xss = false) := statsB_no2 (by unfold totB; rw [decide_eq_false (by rw [HT.out, HC.out]; exact hqm)]; rfl)
      have hqm' : ¬ (q : Int) = (m : Int) := by omega
      have B0 := Below.refl w.heap.size w
      have s0 : w.heap.size ≤ w.heap.size := Nat.le_refl _
      go_enter Try.func26, Try.ntmps26
      have p_2 : Bx (w.alloc (.cells #[.slice A n c, .slice C m d] 40)) (w.heap.size) 40 #[.slice A n c, .slice C m d] := Bx.new _ _ _
      have B_2 := B0.alloc s0 (.cells #[.slice A n c, .slice C m d] 40)
      clear B0
      have cp_3 := p_2.cells
      have fp_3 := p_2.free
      clear cp_3 fp_3
      have p_4 := p_2.same (same_alloc (.cells #[.slice T q e0, .slice X p f0] 35) (by simp only [World.size_alloc]; omega))
      clear p_2
      have t_5 : Bx ((w.alloc (.cells #[.slice A n c, .slice C m d] 40)).alloc (.cells #[.slice T q e0, .slice X p f0] 35)) (w.heap.size + 1) 35 #[.slice T q e0, .slice X p f0] := by
        have h := Bx.new (w.alloc (.cells #[.slice A n c, .slice C m d] 40)) 35 #[.slice T q e0, .slice X p f0]
        simpa only [World.size_alloc] using h
      have B_5 := B_2.alloc (by simp only [World.size_alloc]; omega) (.cells #[.slice T q e0, .slice X p f0] 35)
      clear B_2
      have cp_6 := p_4.cells
      have fp_6 := p_4.free
      have ct_7 := t_5.cells
      have ft_7 := t_5.free
      go_wp2_with fail
      refine (sSchemaOk_any _ _ _ _ _ _ _ ats cs _ (R.out.below B_5 (Nat.le_refl _))).mono ?_
      rw [H1.out]
      rintro e w1 ⟨rfl, b⟩
      clear cp_6 fp_6
      clear ct_7 ft_7
      simp only [World.size_alloc] at b
      have t_8 := b.size
      simp only [World.size_alloc] at t_8
      have z_8 : w.heap.size ≤ w1.heap.size := by omega
      have p_9 := p_4.same (same_below b (by omega))
      clear p_4
      have t_9 := t_5.same (same_below b (by omega))
      clear t_5
      have B_8 := B_5.trans (b.mono (by omega))
      clear B_5 b
      have cp_10 := p_9.cells
      have fp_10 := p_9.free
      have ct_11 := t_9.cells
      have ft_11 := t_9.free
      go_wp2_with fail
      go_ret
      exact ⟨by rw [HV.out]; rfl, B_8⟩

end Go.Proofs.Ytchkmcikpamdeaa
