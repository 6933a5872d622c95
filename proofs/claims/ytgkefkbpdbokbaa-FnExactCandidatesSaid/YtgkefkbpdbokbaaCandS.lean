/-
  Candidates of spec.
-/
import Derived.Test.YtgkefkbpdbokbaaCandI
import Derived.Lib.QuietBelow
namespace Go.Proofs.Ytgkefkbpdbokbaa
open Go.RowKit Go.Sort
set_option linter.unusedSimpArgs false
set_option linter.unusedVariables false

set_option maxRecDepth 20000 in
set_option maxHeartbeats 8000000 in
theorem sCand_false (A C : Option Addr) (n c m d : Nat) (hs : List AH) (ats : List AD) (cs : List ByteArray) (X : Option Addr) (q e0 : Nat) (xs : List Int) (w : World) (r : Sch w A C n m d hs ats cs) (hx : Rd w X q (xs.map (Value.int .i64))) (hq : q ≤ 1048576) :
    Calls Try.prog 27 #[.agg #[.slice A n c, .slice C m d], .slice X q e0, .bool false] w fun e w' => ∃ A' c' N, e = .returned (.slice A' N c') ∧ N = (candL ats cs xs false).length ∧ w'.ownsRow w.heap.size 40 2 (.slice A' N c') N (fcells (candL ats cs xs false)) ∧ Below w.heap.size w w' := by
  have R := Lib.hid r
  have HL := Lib.hid r.lenA
  have hn := r.hn
  clear r
  have HX := Lib.hid hx
  have HXL : Hid (xs.length = q) := by have := hx.len; unfold Hid; simpa using this
  clear hx
  obtain ⟨i0, hi0, hz0, hz1, hz2⟩ := info_parts info_Fk
  have HJ := Lib.hid hi0; have HJ0 := Lib.hid hz0; have HJ1 := Lib.hid hz1; have HJ2 := Lib.hid hz2
  clear hi0 hz0 hz1 hz2
  cases h0 : attrsB ats cs xs
  · have H0 := Lib.hid h0
    have HL0 : Hid (candL ats cs xs false = []) := by unfold Hid candL; rw [h0]; rfl
    clear h0
    have B0 := Below.refl w.heap.size w
    have s0 : w.heap.size ≤ w.heap.size := Nat.le_refl _
    go_enter Try.func27, Try.ntmps27
    have p_2 : Bx (w.alloc (.cells #[.slice A n c, .slice C m d] 31)) (w.heap.size) 31 #[.slice A n c, .slice C m d] := Bx.new _ _ _
    have B_2 := B0.alloc s0 (.cells #[.slice A n c, .slice C m d] 31)
    clear B0
    have cp_3 := p_2.cells
    have fp_3 := p_2.free
    clear cp_3 fp_3
    have p_4 := p_2.same (same_alloc (.cells #[] 40) (by simp only [World.size_alloc]; omega))
    clear p_2
    have pl_5 : Bx ((w.alloc (.cells #[.slice A n c, .slice C m d] 31)).alloc (.cells #[] 40)) (w.heap.size + 1) 40 #[] := by
      have h := Bx.new (w.alloc (.cells #[.slice A n c, .slice C m d] 31)) 40 #[]
      simpa only [World.size_alloc] using h
    have B_5 := B_2.alloc (by simp only [World.size_alloc]; omega) (.cells #[] 40)
    clear B_2
    have cp_6 := p_4.cells
    have fp_6 := p_4.free
    have cpl_7 := pl_5.cells
    have fpl_7 := pl_5.free
    go_wp2_with fail
    refine (sAttrsOk_any _ _ _ _ _ _ _ ats cs X q e0 xs _ (R.out.below B_5 (Nat.le_refl _)) (HX.out.below B_5 (Nat.le_refl _)) hq).mono ?_
    rw [H0.out]
    rintro e w1 ⟨rfl, b⟩
    clear cp_6 fp_6
    clear cpl_7 fpl_7
    simp only [World.size_alloc] at b
    have t_8 := b.size
    simp only [World.size_alloc] at t_8
    have z_8 : w.heap.size ≤ w1.heap.size := by omega
    have p_9 := p_4.same (same_below b (by omega))
    clear p_4
    have pl_9 := pl_5.same (same_below b (by omega))
    clear pl_5
    have B_8 := B_5.trans (b.mono (by omega))
    clear B_5 b
    have cp_10 := p_9.cells
    have fp_10 := p_9.free
    have cpl_11 := pl_9.cells
    have fpl_11 := pl_9.free
    go_wp2_with fail
    go_ret
    exact ⟨_, _, 0, rfl, by rw [HL0.out]; rfl, by rw [HL0.out]; exact ⟨rfl, .inr ⟨w.heap.size + 1, 0, #[], rfl, Nat.le_succ _, pl_9, Nat.le_refl _, by simp [maxLen], rfl, rfl⟩⟩, B_8⟩
  · have H0 := Lib.hid h0
    have HL0 : Hid (candL ats cs xs false = candJ ats false xs) := by unfold Hid candL; rw [h0]; rfl
    clear h0
    have B0 := Below.refl w.heap.size w
    have s0 : w.heap.size ≤ w.heap.size := Nat.le_refl _
    go_enter Try.func27, Try.ntmps27
    have p_2 : Bx (w.alloc (.cells #[.slice A n c, .slice C m d] 31)) (w.heap.size) 31 #[.slice A n c, .slice C m d] := Bx.new _ _ _
    have B_2 := B0.alloc s0 (.cells #[.slice A n c, .slice C m d] 31)
    clear B0
    have cp_3 := p_2.cells
    have fp_3 := p_2.free
    clear cp_3 fp_3
    have p_4 := p_2.same (same_alloc (.cells #[] 40) (by simp only [World.size_alloc]; omega))
    clear p_2
    have pl_5 : Bx ((w.alloc (.cells #[.slice A n c, .slice C m d] 31)).alloc (.cells #[] 40)) (w.heap.size + 1) 40 #[] := by
      have h := Bx.new (w.alloc (.cells #[.slice A n c, .slice C m d] 31)) 40 #[]
      simpa only [World.size_alloc] using h
    have B_5 := B_2.alloc (by simp only [World.size_alloc]; omega) (.cells #[] 40)
    clear B_2
    have cp_6 := p_4.cells
    have fp_6 := p_4.free
    have cpl_7 := pl_5.cells
    have fpl_7 := pl_5.free
    go_wp2_with fail
    refine (sAttrsOk_any _ _ _ _ _ _ _ ats cs X q e0 xs _ (R.out.below B_5 (Nat.le_refl _)) (HX.out.below B_5 (Nat.le_refl _)) hq).mono ?_
    rw [H0.out]
    rintro e w1 ⟨rfl, b⟩
    clear cp_6 fp_6
    clear cpl_7 fpl_7
    simp only [World.size_alloc] at b
    have t_8 := b.size
    simp only [World.size_alloc] at t_8
    have z_8 : w.heap.size ≤ w1.heap.size := by omega
    have p_9 := p_4.same (same_below b (by omega))
    clear p_4
    have pl_9 := pl_5.same (same_below b (by omega))
    clear pl_5
    have B_8 := B_5.trans (b.mono (by omega))
    clear B_5 b
    have cp_10 := p_9.cells
    have fp_10 := p_9.free
    have cpl_11 := pl_9.cells
    have fpl_11 := pl_9.free
    have HAc := Lib.hid B_8; have HP := Lib.hid p_9; have lp : w.heap.size < (w.heap.size + 1) := Nat.lt_succ_self _
    have hV := B_8.size
    have HE : Hid (w1.ownsRow (w.heap.size + 1) 40 2 (.slice (some ⟨w.heap.size + 1, 0, none⟩) 0 0) 0 (fcells (candJ ats false (xs.take 0)))) := ⟨rfl, .inr ⟨w.heap.size + 1, 0, #[], rfl, Nat.le_refl _, pl_9, Nat.le_refl _, by simp [maxLen], rfl, rfl⟩⟩
    have hlv : (w.heap.size + 1) ≤ w1.heap.size := p_9.lt
    go_wp2_with fail
    clear cp_10 fp_10 cpl_11 fpl_11
    go_loopw [7, 8] (fun out ii wr => ∃ (k : Nat) (A1 : Option Addr) (c1 N : Nat), k ≤ q ∧ ii = .int .i64 k ∧ out = .slice A1 N c1 ∧ N = (candJ ats false (xs.take k)).length ∧ wr.ownsRow (w.heap.size + 1) 40 2 (.slice A1 (N) c1) (N) (fcells (candJ ats false (xs.take k))) ∧ Below (w.heap.size + 1) w1 wr) (fun _ ii _ => q - (intOf ii).toNat)
    case atStart => exact ⟨0, _, _, 0, Nat.zero_le _, rfl, rfl, rfl, HE.out, Below.refl _ _⟩
    case round =>
      obtain ⟨k, A1, c1, N, hk, rfl, rfl, hNl, hown, hbel⟩ := hrel
      obtain ⟨wo, rfl⟩ : ∃ wo : World, wo = wr := ⟨_, rfl⟩
      have HNl := Lib.hid hNl; have HOwn := Lib.hid hown; have HBel := Lib.hid hbel
      have hzo := hbel.size
      have HW : Hid (Below w.heap.size w wo) := HAc.out.trans (hbel.mono (Nat.le_succ _))
      clear hNl hown hbel
      by_cases hlt : k < q
      · obtain ⟨x, hxe⟩ : ∃ x, xs[k]? = some x := ⟨_, List.getElem?_eq_getElem (by rw [HXL.out]; exact hlt)⟩
        obtain ⟨j, a, nn, rfl, hjl, ha, hab, hnn, hn4, hsch, hin⟩ := attr_ok H0.out hxe
        have hjn : j < n := by rw [← HL.out]; exact hjl
        have hN4 : N ≤ 4 * k := by rw [HNl.out]; exact candJ_len H0.out k (by rw [HXL.out]; omega)
        obtain ⟨h, a', bA, off, ha', hra, rfl, hbl, d0, d1, d2⟩ := R.out.get hjn
        obtain rfl := Option.some.inj (ha.symm.trans ha')
        obtain ⟨bx, ox, rfl, lx, hc⟩ := HX.out.ex (by omega)
        have hxk := hc k (.int .i64 (j : Nat)) (by simp [hxe])
        obtain ⟨l1, l2⟩ := rdA_len hra.rd
        obtain ⟨⟨ca, cn, cc⟩, ⟨va, vn, vc⟩⟩ := h
        simp only at d1 d2 l1 l2
        have HXk := Lib.hid hxk; have HXe := Lib.hid hxe; have HA := Lib.hid ha; have HAB := Lib.hid hab; have HNn := Lib.hid hnn; have HRA := Lib.hid hra; have HD0 := Lib.hid d0; have HD1 := Lib.hid d1; have HD2 := Lib.hid d2; have HCL := Lib.hid l1; have HVL := Lib.hid l2; have HSch := Lib.hid hsch; have HIn := Lib.hid hin
        have lA : bA < w.heap.size := hbl
        have lX : bx < w.heap.size := lx
        clear hc hxk hxe ha ha' hab hnn hra d0 d1 d2 l1 l2 hsch hin
        have p0 : wo.cell? ⟨w.heap.size, 0, none⟩ = some (.slice (some ⟨bA, off, none⟩) n c) := (HBel.out.cell (p := ⟨w.heap.size, 0, none⟩) lp).trans (HP.out.cells 0)
        have p1 : wo.cell? ⟨w.heap.size, 1, none⟩ = some (.slice C m d) := (HBel.out.cell (p := ⟨w.heap.size, 1, none⟩) lp).trans (HP.out.cells 1)
        have xk : wo.cell? ⟨bx, ox + k, none⟩ = some (.int .i64 (j : Nat)) := (HW.out.cell (p := ⟨bx, ox + k, none⟩) lX).trans HXk.out
        have k0 : (0 : Int) ≤ (k : Int) := Int.natCast_nonneg _
        have k1 : (k : Int) < (q : Int) := by omega
        have j0 : (0 : Int) ≤ (j : Int) := Int.natCast_nonneg _
        have j1 : (j : Int) < (n : Int) := by omega
        by_cases hcp : 0 < cn
        · have hp := hcp
          have hc0 : ((cn : Int) == 0) = false := beq_false_of_ne (by omega)
          have hc1 : decide ((cn : Int) = 0) = false := decide_eq_false (by omega)
          have HCa : Hid (candA ats false (j : Nat) = rowF (j : Nat) nn) := by
            unfold Hid candA; rw [atA_get HA.out, HCL.out, if_neg (by omega), HNn.out]; rfl
          have l0 := cell_regrown (w := wo) (a := ⟨w.heap.size, 0, none⟩) (v := .slice (some ⟨bA, off, none⟩) n c) p0
          have l1 := cell_regrown (w := wo) (a := ⟨bx, ox + k, none⟩) (v := .int .i64 (j : Nat)) xk
          have f1 : wo.cell? ⟨bA, off + j * 3 + 1, none⟩ = some (.slice ca cn cc) := (HW.out.cell (p := ⟨bA, off + j * 3 + 1, none⟩) lA).trans HD1.out
          have l2 := cell_regrown (w := wo) (a := ⟨bA, off + j * 3 + 1, none⟩) (v := .slice ca cn cc) f1
          go_wp2_with fail
          refine wp_region_quiet_below (by kernel_rfl) (by kernel_rfl) ?_
          repeat (first | go_big_quiet_step (fail) | quiet_step (fail))
          refine wpQuiet_nil ?_
          intro _ hw'
          obtain ⟨⟨dq, osq⟩, hw''⟩ := hw'
          subst hw''
          have bq := below_regrown wo dq osq
          clear l0 l1 l2 f1 p0 p1 xk
          generalize grow (redrawn wo dq) osq = u2 at bq ⊢
          have hz2 := bq.size
          have HO2 := Lib.hid (own2_below HOwn.out bq (Nat.le_refl _))
          have HB2 : Hid (Below (w.heap.size + 1) w1 u2) := HBel.out.trans (bq.mono (by omega))
          have HW2 : Hid (Below w.heap.size w u2) := HW.out.trans (bq.mono HW.out.size)
          clear bq HOwn HBel HW
          go_wp2_with fail
          go_loopw [7, 9] (fun out ii wr => ∃ (t M : Nat) (A2 : Option Addr) (c2 : Nat), t ≤ 4 ∧ (t ≤ nn → M = N + t) ∧ (nn ≤ t → M = N + nn) ∧ ii = .int .i64 t ∧ out = .slice A2 M c2 ∧ wr.ownsRow (w.heap.size + 1) 40 2 (.slice A2 (M) c2) (M) (fcells (candJ ats false (xs.take k) ++ (rowF (j : Nat) nn).take t)) ∧ Below (w.heap.size + 1) w1 wr) (fun _ ii _ => 4 - (intOf ii).toNat)
          case atStart => exact ⟨0, N, A1, c1, by omega, fun _ => rfl, fun _ => by omega, rfl, rfl, by simpa using HO2.out, HB2.out⟩
          case round =>
            obtain ⟨t, M, A2, c2, ht, hM1, hM2, rfl, rfl, hown, hbel⟩ := hrel
            obtain ⟨u4, rfl⟩ : ∃ u4 : World, u4 = wr := ⟨_, rfl⟩
            have HO4 := Lib.hid hown; have HB4 := Lib.hid hbel
            have hz4 := hbel.size
            have HW4 : Hid (Below w.heap.size w u4) := HAc.out.trans (hbel.mono (Nat.le_succ _))
            clear hown hbel
            by_cases hlt4 : t < 4
            · have hlt4' : (t : Int) < 4 := by omega
              have hM4 : M ≤ N + 4 := by
                rcases Nat.lt_or_ge t nn with h | h
                · have := hM1 (by omega); omega
                · have := hM2 h; omega
              have HB4a : Hid (Below (w.heap.size + 1) w1 (u4.alloc (.cells #[.int .i64 (j : Nat), .int .i64 (t : Nat)] 40))) := HB4.out.alloc (by omega) _
              have p0 : (u4.alloc (.cells #[.int .i64 (j : Nat), .int .i64 (t : Nat)] 40)).cell? ⟨w.heap.size, 0, none⟩ = some (.slice (some ⟨bA, off, none⟩) n c) := (HB4a.out.cell (p := ⟨w.heap.size, 0, none⟩) lp).trans (HP.out.cells 0)
              have p1 : (u4.alloc (.cells #[.int .i64 (j : Nat), .int .i64 (t : Nat)] 40)).cell? ⟨w.heap.size, 1, none⟩ = some (.slice C m d) := (HB4a.out.cell (p := ⟨w.heap.size, 1, none⟩) lp).trans (HP.out.cells 1)
              have xk : u4.cell? ⟨bx, ox + k, none⟩ = some (.int .i64 (j : Nat)) := (HW4.out.cell (p := ⟨bx, ox + k, none⟩) lX).trans HXk.out
              have hfe : forkB ats cs (j : Nat) (t : Nat) = decide (t < nn) := by
                rw [forkB_at HSch.out HIn.out HA.out]
                by_cases h : t < nn
                · rw [decide_eq_true h, inB_iff]; have := HNn.out; omega
                · rw [decide_eq_false h]; cases hh : inB (t : Nat) (-1) (lastI a)
                  · rfl
                  · have := inB_iff.1 hh; have := HNn.out; omega
              go_wp2_with fail
              have HBx0 : Bx (u4.alloc (.cells #[.int .i64 (j : Nat), .int .i64 (t : Nat)] 40)) u4.heap.size 40 #[.int .i64 (j : Nat), .int .i64 (t : Nat)] := Bx.new _ _ _
              refine (sForkOk_any _ _ _ _ _ _ _ ats cs (j : Nat) (t : Nat) _ (R.out.below (HW4.out.trans ((below_alloc1 _).mono HW4.out.size)) (Nat.le_refl _))).mono ?_
              rw [hfe]
              rintro e u5 ⟨rfl, b5⟩
              have hz5 := b5.size
              simp only [World.size_alloc] at hz5
              have HBx := HBx0.same (same_below b5 (by simp only [World.size_alloc, Nat.le_refl]))
              have cb0 := HBx.cells 0; have cb1 := HBx.cells 1
              simp at cb0 cb1
              have HO5 := Lib.hid (own2_below (HO4.out.alloc _) b5 (Nat.le_refl _))
              have HB5 : Hid (Below (w.heap.size + 1) w1 u5) := (HB4.out.alloc (by omega) _).trans (b5.mono (by simp only [World.size_alloc]; omega))
              clear b5 HBx0 HBx hfe p0 p1 xk HO4 HB4
              by_cases hlt2 : t < nn
              · obtain rfl := hM1 (by omega)
                rw [decide_eq_true hlt2]
                go_wp2_with (at_builtin; refine wpList_append_own _ rfl _ _ 46 rfl (w.heap.size + 1) 40 i0 (.agg #[.int .i64 0, .int .i64 0]) 2 16 Try.underlying46 HJ.out HJ0.out HJ1.out HJ2.out rfl (by decide) (.slice A2 (N + t) c2) (N + t) (fcells (candJ ats false (xs.take k) ++ (rowF (j : Nat) nn).take t)) rfl (HO5.out.alloc _) ⟨u5.heap.size, 0, none⟩ 1 1 [.int .i64 (j : Nat), .int .i64 (t : Nat)] rfl rfl ?c1 ?c2 ?c3 ?c4 ?c5 ?_)
                case c1 => exact World.news_of_block (cs := #[.int .i64 (j : Nat), .int .i64 (t : Nat)]) (t := 40) (fr := (0, 0)) (heap_alloc_new _ _)
                case c2 => simp [Value.oneCell']
                case c3 => unfold maxLen; omega
                case c4 => omega
                case c5 => simp only [World.size_alloc]; omega
                intro v' u9 hown3 hgrow _
                obtain ⟨A3, c3, rfl⟩ := own_shape hown3
                have hz9 := hgrow.size
                simp only [World.size_alloc] at hz9
                have HO9 : Hid (u9.ownsRow (w.heap.size + 1) 40 2 (.slice A3 (N + t + 1) c3) (N + t + 1) (fcells (candJ ats false (xs.take k) ++ (rowF (j : Nat) nn).take (t + 1)))) := by
                  unfold Hid; rw [rowF_take hlt2, fcells_snoc]; exact hown3
                have HB9 : Hid (Below (w.heap.size + 1) w1 u9) := (HB5.out.alloc (by omega) _).grown hgrow (by simp only [World.size_alloc]; omega) (fun k hk => (HO5.out.lt k hk).1)
                clear hown3 hgrow
                go_wp2_with fail
                go_roundw
                case rel => exact ⟨t + 1, N + t + 1, A3, c3, by omega, fun _ => by omega, fun h => by omega, by go_num, rfl, HO9.out, HB9.out⟩
                case measure => simp [intOf]; omega
              · obtain rfl := hM2 (by omega)
                rw [decide_eq_false hlt2]
                have HO9 : Hid (u5.ownsRow (w.heap.size + 1) 40 2 (.slice A2 (N + nn) c2) (N + nn) (fcells (candJ ats false (xs.take k) ++ (rowF (j : Nat) nn).take (t + 1)))) := by
                  unfold Hid; rw [rowF_all (by omega)]; have h := HO5.out; rwa [rowF_all (by omega)] at h
                go_wp2_with fail
                go_roundw
                case rel => exact ⟨t + 1, N + nn, A2, c2, by omega, fun _ => by omega, fun _ => rfl, by go_num, rfl, HO9.out, HB5.out⟩
                case measure => simp [intOf]; omega
            · obtain rfl : t = 4 := by omega
              obtain rfl := hM2 hn4
              have HO9 : Hid (u4.ownsRow (w.heap.size + 1) 40 2 (.slice A2 (N + nn) c2) (N + nn) (fcells (candJ ats false (xs.take (k + 1))))) := by
                unfold Hid; rw [candJ_snoc HXe.out, HCa.out]; have h := HO4.out; rwa [rowF_all hn4] at h
              go_wp2_with fail
              go_roundw
              case rel => exact ⟨k + 1, A2, c2, N + nn, by omega, by go_num, rfl, by rw [candJ_snoc HXe.out, HCa.out, List.length_append, ← HNl.out, rowF_len], HO9.out, HB4.out⟩
              case measure => simp [intOf]; omega
        · skip
          obtain rfl : cn = 0 := by omega
          have HCa : Hid (candA ats false (j : Nat) = [((j : Int), -1)]) := by
            unfold Hid candA; rw [atA_get HA.out, HCL.out, if_pos ⟨rfl, rfl⟩]
          have l0 := cell_regrown (w := wo) (a := ⟨w.heap.size, 0, none⟩) (v := .slice (some ⟨bA, off, none⟩) n c) p0
          have l1 := cell_regrown (w := wo) (a := ⟨bx, ox + k, none⟩) (v := .int .i64 (j : Nat)) xk
          have f1 : wo.cell? ⟨bA, off + j * 3 + 1, none⟩ = some (.slice ca 0 cc) := (HW.out.cell (p := ⟨bA, off + j * 3 + 1, none⟩) lA).trans HD1.out
          have l2 := cell_regrown (w := wo) (a := ⟨bA, off + j * 3 + 1, none⟩) (v := .slice ca 0 cc) f1
          go_wp2_with fail
          refine wp_region_quiet_below (by kernel_rfl) (by kernel_rfl) ?_
          repeat (first | go_big_quiet_step (fail) | quiet_step (fail))
          refine wpQuiet_nil ?_
          intro _ hw'
          obtain ⟨⟨dq, osq⟩, hw''⟩ := hw'
          subst hw''
          have bq := below_regrown wo dq osq
          clear l0 l1 l2 f1 p0 p1 xk
          generalize grow (redrawn wo dq) osq = u2 at bq ⊢
          have hz2 := bq.size
          have HO2 := Lib.hid (own2_below HOwn.out bq (Nat.le_refl _))
          have HB2 : Hid (Below (w.heap.size + 1) w1 u2) := HBel.out.trans (bq.mono (by omega))
          have HW2 : Hid (Below w.heap.size w u2) := HW.out.trans (bq.mono HW.out.size)
          clear bq HOwn HBel HW
          have xk : u2.cell? ⟨bx, ox + k, none⟩ = some (.int .i64 (j : Nat)) := (HW2.out.cell (p := ⟨bx, ox + k, none⟩) lX).trans HXk.out
          go_wp2_with (at_builtin; refine wpList_append_own _ rfl _ _ 46 rfl (w.heap.size + 1) 40 i0 (.agg #[.int .i64 0, .int .i64 0]) 2 16 Try.underlying46 HJ.out HJ0.out HJ1.out HJ2.out rfl (by decide) (.slice A1 (N) c1) (N) (fcells (candJ ats false (xs.take k))) rfl (HO2.out.alloc _) ⟨u2.heap.size, 0, none⟩ 1 1 [.int .i64 (j : Nat), .int .i64 (-1)] rfl rfl ?c1 ?c2 ?c3 ?c4 ?c5 ?_)
          case c1 => exact World.news_of_block (cs := #[.int .i64 (j : Nat), .int .i64 (-1)]) (t := 40) (fr := (0, 0)) (heap_alloc_new _ _)
          case c2 => simp [Value.oneCell']
          case c3 => unfold maxLen; omega
          case c4 => omega
          case c5 => simp only [World.size_alloc]; omega
          intro v' u9 hown3 hgrow _
          obtain ⟨A3, c3, rfl⟩ := own_shape hown3
          have hz9 := hgrow.size
          simp only [World.size_alloc] at hz9
          have HO9 : Hid (u9.ownsRow (w.heap.size + 1) 40 2 (.slice A3 (N + 1) c3) (N + 1) (fcells (candJ ats false (xs.take (k + 1))))) := by
            unfold Hid; rw [candJ_snoc HXe.out, HCa.out, fcells_snoc]; exact hown3
          have HB9 : Hid (Below (w.heap.size + 1) w1 u9) := (HB2.out.alloc (by omega) _).grown hgrow (by simp only [World.size_alloc]; omega) (fun k hk => (HO2.out.lt k hk).1)
          clear hown3 hgrow
          go_wp2_with fail
          go_roundw
          case rel => exact ⟨k + 1, A3, c3, N + 1, by omega, by go_num, rfl, by rw [candJ_snoc HXe.out, HCa.out, List.length_append, ← HNl.out]; rfl, HO9.out, HB9.out⟩
          case measure => simp [intOf]; omega
      · obtain rfl : q = k := by omega
        go_wp2_with fail
        go_ret
        exact ⟨A1, c1, N, rfl, by rw [HL0.out, HNl.out, List.take_of_length_le (Nat.le_of_eq HXL.out)], by rw [HL0.out]; have h := HOwn.out; rw [List.take_of_length_le (Nat.le_of_eq HXL.out)] at h; exact own_base h (Nat.le_succ _), HAc.out.trans (HBel.out.mono (Nat.le_succ _))⟩

set_option maxRecDepth 20000 in
set_option maxHeartbeats 8000000 in
theorem sCand_true (A C : Option Addr) (n c m d : Nat) (hs : List AH) (ats : List AD) (cs : List ByteArray) (X : Option Addr) (q e0 : Nat) (xs : List Int) (w : World) (r : Sch w A C n m d hs ats cs) (hx : Rd w X q (xs.map (Value.int .i64))) (hq : q ≤ 1048576) :
    Calls Try.prog 27 #[.agg #[.slice A n c, .slice C m d], .slice X q e0, .bool true] w fun e w' => ∃ A' c' N, e = .returned (.slice A' N c') ∧ N = (candL ats cs xs true).length ∧ w'.ownsRow w.heap.size 40 2 (.slice A' N c') N (fcells (candL ats cs xs true)) ∧ Below w.heap.size w w' := by
  have R := Lib.hid r
  have HL := Lib.hid r.lenA
  have hn := r.hn
  clear r
  have HX := Lib.hid hx
  have HXL : Hid (xs.length = q) := by have := hx.len; unfold Hid; simpa using this
  clear hx
  obtain ⟨i0, hi0, hz0, hz1, hz2⟩ := info_parts info_Fk
  have HJ := Lib.hid hi0; have HJ0 := Lib.hid hz0; have HJ1 := Lib.hid hz1; have HJ2 := Lib.hid hz2
  clear hi0 hz0 hz1 hz2
  cases h0 : attrsB ats cs xs
  · have H0 := Lib.hid h0
    have HL0 : Hid (candL ats cs xs true = []) := by unfold Hid candL; rw [h0]; rfl
    clear h0
    have B0 := Below.refl w.heap.size w
    have s0 : w.heap.size ≤ w.heap.size := Nat.le_refl _
    go_enter Try.func27, Try.ntmps27
    have p_2 : Bx (w.alloc (.cells #[.slice A n c, .slice C m d] 31)) (w.heap.size) 31 #[.slice A n c, .slice C m d] := Bx.new _ _ _
    have B_2 := B0.alloc s0 (.cells #[.slice A n c, .slice C m d] 31)
    clear B0
    have cp_3 := p_2.cells
    have fp_3 := p_2.free
    clear cp_3 fp_3
    have p_4 := p_2.same (same_alloc (.cells #[] 40) (by simp only [World.size_alloc]; omega))
    clear p_2
    have pl_5 : Bx ((w.alloc (.cells #[.slice A n c, .slice C m d] 31)).alloc (.cells #[] 40)) (w.heap.size + 1) 40 #[] := by
      have h := Bx.new (w.alloc (.cells #[.slice A n c, .slice C m d] 31)) 40 #[]
      simpa only [World.size_alloc] using h
    have B_5 := B_2.alloc (by simp only [World.size_alloc]; omega) (.cells #[] 40)
    clear B_2
    have cp_6 := p_4.cells
    have fp_6 := p_4.free
    have cpl_7 := pl_5.cells
    have fpl_7 := pl_5.free
    go_wp2_with fail
    refine (sAttrsOk_any _ _ _ _ _ _ _ ats cs X q e0 xs _ (R.out.below B_5 (Nat.le_refl _)) (HX.out.below B_5 (Nat.le_refl _)) hq).mono ?_
    rw [H0.out]
    rintro e w1 ⟨rfl, b⟩
    clear cp_6 fp_6
    clear cpl_7 fpl_7
    simp only [World.size_alloc] at b
    have t_8 := b.size
    simp only [World.size_alloc] at t_8
    have z_8 : w.heap.size ≤ w1.heap.size := by omega
    have p_9 := p_4.same (same_below b (by omega))
    clear p_4
    have pl_9 := pl_5.same (same_below b (by omega))
    clear pl_5
    have B_8 := B_5.trans (b.mono (by omega))
    clear B_5 b
    have cp_10 := p_9.cells
    have fp_10 := p_9.free
    have cpl_11 := pl_9.cells
    have fpl_11 := pl_9.free
    go_wp2_with fail
    go_ret
    exact ⟨_, _, 0, rfl, by rw [HL0.out]; rfl, by rw [HL0.out]; exact ⟨rfl, .inr ⟨w.heap.size + 1, 0, #[], rfl, Nat.le_succ _, pl_9, Nat.le_refl _, by simp [maxLen], rfl, rfl⟩⟩, B_8⟩
  · have H0 := Lib.hid h0
    have HL0 : Hid (candL ats cs xs true = candJ ats true xs) := by unfold Hid candL; rw [h0]; rfl
    clear h0
    have B0 := Below.refl w.heap.size w
    have s0 : w.heap.size ≤ w.heap.size := Nat.le_refl _
    go_enter Try.func27, Try.ntmps27
    have p_2 : Bx (w.alloc (.cells #[.slice A n c, .slice C m d] 31)) (w.heap.size) 31 #[.slice A n c, .slice C m d] := Bx.new _ _ _
    have B_2 := B0.alloc s0 (.cells #[.slice A n c, .slice C m d] 31)
    clear B0
    have cp_3 := p_2.cells
    have fp_3 := p_2.free
    clear cp_3 fp_3
    have p_4 := p_2.same (same_alloc (.cells #[] 40) (by simp only [World.size_alloc]; omega))
    clear p_2
    have pl_5 : Bx ((w.alloc (.cells #[.slice A n c, .slice C m d] 31)).alloc (.cells #[] 40)) (w.heap.size + 1) 40 #[] := by
      have h := Bx.new (w.alloc (.cells #[.slice A n c, .slice C m d] 31)) 40 #[]
      simpa only [World.size_alloc] using h
    have B_5 := B_2.alloc (by simp only [World.size_alloc]; omega) (.cells #[] 40)
    clear B_2
    have cp_6 := p_4.cells
    have fp_6 := p_4.free
    have cpl_7 := pl_5.cells
    have fpl_7 := pl_5.free
    go_wp2_with fail
    refine (sAttrsOk_any _ _ _ _ _ _ _ ats cs X q e0 xs _ (R.out.below B_5 (Nat.le_refl _)) (HX.out.below B_5 (Nat.le_refl _)) hq).mono ?_
    rw [H0.out]
    rintro e w1 ⟨rfl, b⟩
    clear cp_6 fp_6
    clear cpl_7 fpl_7
    simp only [World.size_alloc] at b
    have t_8 := b.size
    simp only [World.size_alloc] at t_8
    have z_8 : w.heap.size ≤ w1.heap.size := by omega
    have p_9 := p_4.same (same_below b (by omega))
    clear p_4
    have pl_9 := pl_5.same (same_below b (by omega))
    clear pl_5
    have B_8 := B_5.trans (b.mono (by omega))
    clear B_5 b
    have cp_10 := p_9.cells
    have fp_10 := p_9.free
    have cpl_11 := pl_9.cells
    have fpl_11 := pl_9.free
    have HAc := Lib.hid B_8; have HP := Lib.hid p_9; have lp : w.heap.size < (w.heap.size + 1) := Nat.lt_succ_self _
    have hV := B_8.size
    have HE : Hid (w1.ownsRow (w.heap.size + 1) 40 2 (.slice (some ⟨w.heap.size + 1, 0, none⟩) 0 0) 0 (fcells (candJ ats true (xs.take 0)))) := ⟨rfl, .inr ⟨w.heap.size + 1, 0, #[], rfl, Nat.le_refl _, pl_9, Nat.le_refl _, by simp [maxLen], rfl, rfl⟩⟩
    have hlv : (w.heap.size + 1) ≤ w1.heap.size := p_9.lt
    go_wp2_with fail
    clear cp_10 fp_10 cpl_11 fpl_11
    go_loopw [7, 8] (fun out ii wr => ∃ (k : Nat) (A1 : Option Addr) (c1 N : Nat), k ≤ q ∧ ii = .int .i64 k ∧ out = .slice A1 N c1 ∧ N = (candJ ats true (xs.take k)).length ∧ wr.ownsRow (w.heap.size + 1) 40 2 (.slice A1 (N) c1) (N) (fcells (candJ ats true (xs.take k))) ∧ Below (w.heap.size + 1) w1 wr) (fun _ ii _ => q - (intOf ii).toNat)
    case atStart => exact ⟨0, _, _, 0, Nat.zero_le _, rfl, rfl, rfl, HE.out, Below.refl _ _⟩
    case round =>
      obtain ⟨k, A1, c1, N, hk, rfl, rfl, hNl, hown, hbel⟩ := hrel
      obtain ⟨wo, rfl⟩ : ∃ wo : World, wo = wr := ⟨_, rfl⟩
      have HNl := Lib.hid hNl; have HOwn := Lib.hid hown; have HBel := Lib.hid hbel
      have hzo := hbel.size
      have HW : Hid (Below w.heap.size w wo) := HAc.out.trans (hbel.mono (Nat.le_succ _))
      clear hNl hown hbel
      by_cases hlt : k < q
      · obtain ⟨x, hxe⟩ : ∃ x, xs[k]? = some x := ⟨_, List.getElem?_eq_getElem (by rw [HXL.out]; exact hlt)⟩
        obtain ⟨j, a, nn, rfl, hjl, ha, hab, hnn, hn4, hsch, hin⟩ := attr_ok H0.out hxe
        have hjn : j < n := by rw [← HL.out]; exact hjl
        have hN4 : N ≤ 4 * k := by rw [HNl.out]; exact candJ_len H0.out k (by rw [HXL.out]; omega)
        obtain ⟨h, a', bA, off, ha', hra, rfl, hbl, d0, d1, d2⟩ := R.out.get hjn
        obtain rfl := Option.some.inj (ha.symm.trans ha')
        obtain ⟨bx, ox, rfl, lx, hc⟩ := HX.out.ex (by omega)
        have hxk := hc k (.int .i64 (j : Nat)) (by simp [hxe])
        obtain ⟨l1, l2⟩ := rdA_len hra.rd
        obtain ⟨⟨ca, cn, cc⟩, ⟨va, vn, vc⟩⟩ := h
        simp only at d1 d2 l1 l2
        have HXk := Lib.hid hxk; have HXe := Lib.hid hxe; have HA := Lib.hid ha; have HAB := Lib.hid hab; have HNn := Lib.hid hnn; have HRA := Lib.hid hra; have HD0 := Lib.hid d0; have HD1 := Lib.hid d1; have HD2 := Lib.hid d2; have HCL := Lib.hid l1; have HVL := Lib.hid l2; have HSch := Lib.hid hsch; have HIn := Lib.hid hin
        have lA : bA < w.heap.size := hbl
        have lX : bx < w.heap.size := lx
        clear hc hxk hxe ha ha' hab hnn hra d0 d1 d2 l1 l2 hsch hin
        have p0 : wo.cell? ⟨w.heap.size, 0, none⟩ = some (.slice (some ⟨bA, off, none⟩) n c) := (HBel.out.cell (p := ⟨w.heap.size, 0, none⟩) lp).trans (HP.out.cells 0)
        have p1 : wo.cell? ⟨w.heap.size, 1, none⟩ = some (.slice C m d) := (HBel.out.cell (p := ⟨w.heap.size, 1, none⟩) lp).trans (HP.out.cells 1)
        have xk : wo.cell? ⟨bx, ox + k, none⟩ = some (.int .i64 (j : Nat)) := (HW.out.cell (p := ⟨bx, ox + k, none⟩) lX).trans HXk.out
        have k0 : (0 : Int) ≤ (k : Int) := Int.natCast_nonneg _
        have k1 : (k : Int) < (q : Int) := by omega
        have j0 : (0 : Int) ≤ (j : Int) := Int.natCast_nonneg _
        have j1 : (j : Int) < (n : Int) := by omega
        by_cases hcp : 0 < cn
        · have hp := hcp
          have hc0 : ((cn : Int) == 0) = false := beq_false_of_ne (by omega)
          have hc1 : decide ((cn : Int) = 0) = false := decide_eq_false (by omega)
          have HCa : Hid (candA ats true (j : Nat) = rowF (j : Nat) nn) := by
            unfold Hid candA; rw [atA_get HA.out, HCL.out, if_neg (by omega), HNn.out]; rfl
          have l0 := cell_regrown (w := wo) (a := ⟨w.heap.size, 0, none⟩) (v := .slice (some ⟨bA, off, none⟩) n c) p0
          have l1 := cell_regrown (w := wo) (a := ⟨bx, ox + k, none⟩) (v := .int .i64 (j : Nat)) xk
          have f1 : wo.cell? ⟨bA, off + j * 3 + 1, none⟩ = some (.slice ca cn cc) := (HW.out.cell (p := ⟨bA, off + j * 3 + 1, none⟩) lA).trans HD1.out
          have l2 := cell_regrown (w := wo) (a := ⟨bA, off + j * 3 + 1, none⟩) (v := .slice ca cn cc) f1
          go_wp2_with fail
          refine wp_region_quiet_below (by kernel_rfl) (by kernel_rfl) ?_
          repeat (first | go_big_quiet_step (fail) | quiet_step (fail))
          refine wpQuiet_nil ?_
          intro _ hw'
          obtain ⟨⟨dq, osq⟩, hw''⟩ := hw'
          subst hw''
          have bq := below_regrown wo dq osq
          clear l0 l1 l2 f1 p0 p1 xk
          generalize grow (redrawn wo dq) osq = u2 at bq ⊢
          have hz2 := bq.size
          have HO2 := Lib.hid (own2_below HOwn.out bq (Nat.le_refl _))
          have HB2 : Hid (Below (w.heap.size + 1) w1 u2) := HBel.out.trans (bq.mono (by omega))
          have HW2 : Hid (Below w.heap.size w u2) := HW.out.trans (bq.mono HW.out.size)
          clear bq HOwn HBel HW
          go_wp2_with fail
          go_loopw [7, 9] (fun out ii wr => ∃ (t M : Nat) (A2 : Option Addr) (c2 : Nat), t ≤ 4 ∧ (t ≤ nn → M = N + t) ∧ (nn ≤ t → M = N + nn) ∧ ii = .int .i64 t ∧ out = .slice A2 M c2 ∧ wr.ownsRow (w.heap.size + 1) 40 2 (.slice A2 (M) c2) (M) (fcells (candJ ats true (xs.take k) ++ (rowF (j : Nat) nn).take t)) ∧ Below (w.heap.size + 1) w1 wr) (fun _ ii _ => 4 - (intOf ii).toNat)
          case atStart => exact ⟨0, N, A1, c1, by omega, fun _ => rfl, fun _ => by omega, rfl, rfl, by simpa using HO2.out, HB2.out⟩
          case round =>
            obtain ⟨t, M, A2, c2, ht, hM1, hM2, rfl, rfl, hown, hbel⟩ := hrel
            obtain ⟨u4, rfl⟩ : ∃ u4 : World, u4 = wr := ⟨_, rfl⟩
            have HO4 := Lib.hid hown; have HB4 := Lib.hid hbel
            have hz4 := hbel.size
            have HW4 : Hid (Below w.heap.size w u4) := HAc.out.trans (hbel.mono (Nat.le_succ _))
            clear hown hbel
            by_cases hlt4 : t < 4
            · have hlt4' : (t : Int) < 4 := by omega
              have hM4 : M ≤ N + 4 := by
                rcases Nat.lt_or_ge t nn with h | h
                · have := hM1 (by omega); omega
                · have := hM2 h; omega
              have HB4a : Hid (Below (w.heap.size + 1) w1 (u4.alloc (.cells #[.int .i64 (j : Nat), .int .i64 (t : Nat)] 40))) := HB4.out.alloc (by omega) _
              have p0 : (u4.alloc (.cells #[.int .i64 (j : Nat), .int .i64 (t : Nat)] 40)).cell? ⟨w.heap.size, 0, none⟩ = some (.slice (some ⟨bA, off, none⟩) n c) := (HB4a.out.cell (p := ⟨w.heap.size, 0, none⟩) lp).trans (HP.out.cells 0)
              have p1 : (u4.alloc (.cells #[.int .i64 (j : Nat), .int .i64 (t : Nat)] 40)).cell? ⟨w.heap.size, 1, none⟩ = some (.slice C m d) := (HB4a.out.cell (p := ⟨w.heap.size, 1, none⟩) lp).trans (HP.out.cells 1)
              have xk : u4.cell? ⟨bx, ox + k, none⟩ = some (.int .i64 (j : Nat)) := (HW4.out.cell (p := ⟨bx, ox + k, none⟩) lX).trans HXk.out
              have hfe : forkB ats cs (j : Nat) (t : Nat) = decide (t < nn) := by
                rw [forkB_at HSch.out HIn.out HA.out]
                by_cases h : t < nn
                · rw [decide_eq_true h, inB_iff]; have := HNn.out; omega
                · rw [decide_eq_false h]; cases hh : inB (t : Nat) (-1) (lastI a)
                  · rfl
                  · have := inB_iff.1 hh; have := HNn.out; omega
              go_wp2_with fail
              have HBx0 : Bx (u4.alloc (.cells #[.int .i64 (j : Nat), .int .i64 (t : Nat)] 40)) u4.heap.size 40 #[.int .i64 (j : Nat), .int .i64 (t : Nat)] := Bx.new _ _ _
              refine (sForkOk_any _ _ _ _ _ _ _ ats cs (j : Nat) (t : Nat) _ (R.out.below (HW4.out.trans ((below_alloc1 _).mono HW4.out.size)) (Nat.le_refl _))).mono ?_
              rw [hfe]
              rintro e u5 ⟨rfl, b5⟩
              have hz5 := b5.size
              simp only [World.size_alloc] at hz5
              have HBx := HBx0.same (same_below b5 (by simp only [World.size_alloc, Nat.le_refl]))
              have cb0 := HBx.cells 0; have cb1 := HBx.cells 1
              simp at cb0 cb1
              have HO5 := Lib.hid (own2_below (HO4.out.alloc _) b5 (Nat.le_refl _))
              have HB5 : Hid (Below (w.heap.size + 1) w1 u5) := (HB4.out.alloc (by omega) _).trans (b5.mono (by simp only [World.size_alloc]; omega))
              clear b5 HBx0 HBx hfe p0 p1 xk HO4 HB4
              by_cases hlt2 : t < nn
              · obtain rfl := hM1 (by omega)
                rw [decide_eq_true hlt2]
                go_wp2_with (at_builtin; refine wpList_append_own _ rfl _ _ 46 rfl (w.heap.size + 1) 40 i0 (.agg #[.int .i64 0, .int .i64 0]) 2 16 Try.underlying46 HJ.out HJ0.out HJ1.out HJ2.out rfl (by decide) (.slice A2 (N + t) c2) (N + t) (fcells (candJ ats true (xs.take k) ++ (rowF (j : Nat) nn).take t)) rfl (HO5.out.alloc _) ⟨u5.heap.size, 0, none⟩ 1 1 [.int .i64 (j : Nat), .int .i64 (t : Nat)] rfl rfl ?c1 ?c2 ?c3 ?c4 ?c5 ?_)
                case c1 => exact World.news_of_block (cs := #[.int .i64 (j : Nat), .int .i64 (t : Nat)]) (t := 40) (fr := (0, 0)) (heap_alloc_new _ _)
                case c2 => simp [Value.oneCell']
                case c3 => unfold maxLen; omega
                case c4 => omega
                case c5 => simp only [World.size_alloc]; omega
                intro v' u9 hown3 hgrow _
                obtain ⟨A3, c3, rfl⟩ := own_shape hown3
                have hz9 := hgrow.size
                simp only [World.size_alloc] at hz9
                have HO9 : Hid (u9.ownsRow (w.heap.size + 1) 40 2 (.slice A3 (N + t + 1) c3) (N + t + 1) (fcells (candJ ats true (xs.take k) ++ (rowF (j : Nat) nn).take (t + 1)))) := by
                  unfold Hid; rw [rowF_take hlt2, fcells_snoc]; exact hown3
                have HB9 : Hid (Below (w.heap.size + 1) w1 u9) := (HB5.out.alloc (by omega) _).grown hgrow (by simp only [World.size_alloc]; omega) (fun k hk => (HO5.out.lt k hk).1)
                clear hown3 hgrow
                go_wp2_with fail
                go_roundw
                case rel => exact ⟨t + 1, N + t + 1, A3, c3, by omega, fun _ => by omega, fun h => by omega, by go_num, rfl, HO9.out, HB9.out⟩
                case measure => simp [intOf]; omega
              · obtain rfl := hM2 (by omega)
                rw [decide_eq_false hlt2]
                have HO9 : Hid (u5.ownsRow (w.heap.size + 1) 40 2 (.slice A2 (N + nn) c2) (N + nn) (fcells (candJ ats true (xs.take k) ++ (rowF (j : Nat) nn).take (t + 1)))) := by
                  unfold Hid; rw [rowF_all (by omega)]; have h := HO5.out; rwa [rowF_all (by omega)] at h
                go_wp2_with fail
                go_roundw
                case rel => exact ⟨t + 1, N + nn, A2, c2, by omega, fun _ => by omega, fun _ => rfl, by go_num, rfl, HO9.out, HB5.out⟩
                case measure => simp [intOf]; omega
            · obtain rfl : t = 4 := by omega
              obtain rfl := hM2 hn4
              have HO9 : Hid (u4.ownsRow (w.heap.size + 1) 40 2 (.slice A2 (N + nn) c2) (N + nn) (fcells (candJ ats true (xs.take (k + 1))))) := by
                unfold Hid; rw [candJ_snoc HXe.out, HCa.out]; have h := HO4.out; rwa [rowF_all hn4] at h
              go_wp2_with fail
              go_roundw
              case rel => exact ⟨k + 1, A2, c2, N + nn, by omega, by go_num, rfl, by rw [candJ_snoc HXe.out, HCa.out, List.length_append, ← HNl.out, rowF_len], HO9.out, HB4.out⟩
              case measure => simp [intOf]; omega
        · skip
          obtain rfl : cn = 0 := by omega
          have HCa : Hid (candA ats true (j : Nat) = rowF (j : Nat) nn) := by
            unfold Hid candA; rw [atA_get HA.out, HCL.out, if_neg (by simp), HNn.out]; rfl
          have l0 := cell_regrown (w := wo) (a := ⟨w.heap.size, 0, none⟩) (v := .slice (some ⟨bA, off, none⟩) n c) p0
          have l1 := cell_regrown (w := wo) (a := ⟨bx, ox + k, none⟩) (v := .int .i64 (j : Nat)) xk
          have f1 : wo.cell? ⟨bA, off + j * 3 + 1, none⟩ = some (.slice ca 0 cc) := (HW.out.cell (p := ⟨bA, off + j * 3 + 1, none⟩) lA).trans HD1.out
          have l2 := cell_regrown (w := wo) (a := ⟨bA, off + j * 3 + 1, none⟩) (v := .slice ca 0 cc) f1
          go_wp2_with fail
          refine wp_region_quiet_below (by kernel_rfl) (by kernel_rfl) ?_
          repeat (first | go_big_quiet_step (fail) | quiet_step (fail))
          refine wpQuiet_nil ?_
          intro _ hw'
          obtain ⟨⟨dq, osq⟩, hw''⟩ := hw'
          subst hw''
          have bq := below_regrown wo dq osq
          clear l0 l1 l2 f1 p0 p1 xk
          generalize grow (redrawn wo dq) osq = u2 at bq ⊢
          have hz2 := bq.size
          have HO2 := Lib.hid (own2_below HOwn.out bq (Nat.le_refl _))
          have HB2 : Hid (Below (w.heap.size + 1) w1 u2) := HBel.out.trans (bq.mono (by omega))
          have HW2 : Hid (Below w.heap.size w u2) := HW.out.trans (bq.mono HW.out.size)
          clear bq HOwn HBel HW
          go_wp2_with fail
          go_loopw [7, 9] (fun out ii wr => ∃ (t M : Nat) (A2 : Option Addr) (c2 : Nat), t ≤ 4 ∧ (t ≤ nn → M = N + t) ∧ (nn ≤ t → M = N + nn) ∧ ii = .int .i64 t ∧ out = .slice A2 M c2 ∧ wr.ownsRow (w.heap.size + 1) 40 2 (.slice A2 (M) c2) (M) (fcells (candJ ats true (xs.take k) ++ (rowF (j : Nat) nn).take t)) ∧ Below (w.heap.size + 1) w1 wr) (fun _ ii _ => 4 - (intOf ii).toNat)
          case atStart => exact ⟨0, N, A1, c1, by omega, fun _ => rfl, fun _ => by omega, rfl, rfl, by simpa using HO2.out, HB2.out⟩
          case round =>
            obtain ⟨t, M, A2, c2, ht, hM1, hM2, rfl, rfl, hown, hbel⟩ := hrel
            obtain ⟨u4, rfl⟩ : ∃ u4 : World, u4 = wr := ⟨_, rfl⟩
            have HO4 := Lib.hid hown; have HB4 := Lib.hid hbel
            have hz4 := hbel.size
            have HW4 : Hid (Below w.heap.size w u4) := HAc.out.trans (hbel.mono (Nat.le_succ _))
            clear hown hbel
            by_cases hlt4 : t < 4
            · have hlt4' : (t : Int) < 4 := by omega
              have hM4 : M ≤ N + 4 := by
                rcases Nat.lt_or_ge t nn with h | h
                · have := hM1 (by omega); omega
                · have := hM2 h; omega
              have HB4a : Hid (Below (w.heap.size + 1) w1 (u4.alloc (.cells #[.int .i64 (j : Nat), .int .i64 (t : Nat)] 40))) := HB4.out.alloc (by omega) _
              have p0 : (u4.alloc (.cells #[.int .i64 (j : Nat), .int .i64 (t : Nat)] 40)).cell? ⟨w.heap.size, 0, none⟩ = some (.slice (some ⟨bA, off, none⟩) n c) := (HB4a.out.cell (p := ⟨w.heap.size, 0, none⟩) lp).trans (HP.out.cells 0)
              have p1 : (u4.alloc (.cells #[.int .i64 (j : Nat), .int .i64 (t : Nat)] 40)).cell? ⟨w.heap.size, 1, none⟩ = some (.slice C m d) := (HB4a.out.cell (p := ⟨w.heap.size, 1, none⟩) lp).trans (HP.out.cells 1)
              have xk : u4.cell? ⟨bx, ox + k, none⟩ = some (.int .i64 (j : Nat)) := (HW4.out.cell (p := ⟨bx, ox + k, none⟩) lX).trans HXk.out
              have hfe : forkB ats cs (j : Nat) (t : Nat) = decide (t < nn) := by
                rw [forkB_at HSch.out HIn.out HA.out]
                by_cases h : t < nn
                · rw [decide_eq_true h, inB_iff]; have := HNn.out; omega
                · rw [decide_eq_false h]; cases hh : inB (t : Nat) (-1) (lastI a)
                  · rfl
                  · have := inB_iff.1 hh; have := HNn.out; omega
              go_wp2_with fail
              have HBx0 : Bx (u4.alloc (.cells #[.int .i64 (j : Nat), .int .i64 (t : Nat)] 40)) u4.heap.size 40 #[.int .i64 (j : Nat), .int .i64 (t : Nat)] := Bx.new _ _ _
              refine (sForkOk_any _ _ _ _ _ _ _ ats cs (j : Nat) (t : Nat) _ (R.out.below (HW4.out.trans ((below_alloc1 _).mono HW4.out.size)) (Nat.le_refl _))).mono ?_
              rw [hfe]
              rintro e u5 ⟨rfl, b5⟩
              have hz5 := b5.size
              simp only [World.size_alloc] at hz5
              have HBx := HBx0.same (same_below b5 (by simp only [World.size_alloc, Nat.le_refl]))
              have cb0 := HBx.cells 0; have cb1 := HBx.cells 1
              simp at cb0 cb1
              have HO5 := Lib.hid (own2_below (HO4.out.alloc _) b5 (Nat.le_refl _))
              have HB5 : Hid (Below (w.heap.size + 1) w1 u5) := (HB4.out.alloc (by omega) _).trans (b5.mono (by simp only [World.size_alloc]; omega))
              clear b5 HBx0 HBx hfe p0 p1 xk HO4 HB4
              by_cases hlt2 : t < nn
              · obtain rfl := hM1 (by omega)
                rw [decide_eq_true hlt2]
                go_wp2_with (at_builtin; refine wpList_append_own _ rfl _ _ 46 rfl (w.heap.size + 1) 40 i0 (.agg #[.int .i64 0, .int .i64 0]) 2 16 Try.underlying46 HJ.out HJ0.out HJ1.out HJ2.out rfl (by decide) (.slice A2 (N + t) c2) (N + t) (fcells (candJ ats true (xs.take k) ++ (rowF (j : Nat) nn).take t)) rfl (HO5.out.alloc _) ⟨u5.heap.size, 0, none⟩ 1 1 [.int .i64 (j : Nat), .int .i64 (t : Nat)] rfl rfl ?c1 ?c2 ?c3 ?c4 ?c5 ?_)
                case c1 => exact World.news_of_block (cs := #[.int .i64 (j : Nat), .int .i64 (t : Nat)]) (t := 40) (fr := (0, 0)) (heap_alloc_new _ _)
                case c2 => simp [Value.oneCell']
                case c3 => unfold maxLen; omega
                case c4 => omega
                case c5 => simp only [World.size_alloc]; omega
                intro v' u9 hown3 hgrow _
                obtain ⟨A3, c3, rfl⟩ := own_shape hown3
                have hz9 := hgrow.size
                simp only [World.size_alloc] at hz9
                have HO9 : Hid (u9.ownsRow (w.heap.size + 1) 40 2 (.slice A3 (N + t + 1) c3) (N + t + 1) (fcells (candJ ats true (xs.take k) ++ (rowF (j : Nat) nn).take (t + 1)))) := by
                  unfold Hid; rw [rowF_take hlt2, fcells_snoc]; exact hown3
                have HB9 : Hid (Below (w.heap.size + 1) w1 u9) := (HB5.out.alloc (by omega) _).grown hgrow (by simp only [World.size_alloc]; omega) (fun k hk => (HO5.out.lt k hk).1)
                clear hown3 hgrow
                go_wp2_with fail
                go_roundw
                case rel => exact ⟨t + 1, N + t + 1, A3, c3, by omega, fun _ => by omega, fun h => by omega, by go_num, rfl, HO9.out, HB9.out⟩
                case measure => simp [intOf]; omega
              · obtain rfl := hM2 (by omega)
                rw [decide_eq_false hlt2]
                have HO9 : Hid (u5.ownsRow (w.heap.size + 1) 40 2 (.slice A2 (N + nn) c2) (N + nn) (fcells (candJ ats true (xs.take k) ++ (rowF (j : Nat) nn).take (t + 1)))) := by
                  unfold Hid; rw [rowF_all (by omega)]; have h := HO5.out; rwa [rowF_all (by omega)] at h
                go_wp2_with fail
                go_roundw
                case rel => exact ⟨t + 1, N + nn, A2, c2, by omega, fun _ => by omega, fun _ => rfl, by go_num, rfl, HO9.out, HB5.out⟩
                case measure => simp [intOf]; omega
            · obtain rfl : t = 4 := by omega
              obtain rfl := hM2 hn4
              have HO9 : Hid (u4.ownsRow (w.heap.size + 1) 40 2 (.slice A2 (N + nn) c2) (N + nn) (fcells (candJ ats true (xs.take (k + 1))))) := by
                unfold Hid; rw [candJ_snoc HXe.out, HCa.out]; have h := HO4.out; rwa [rowF_all hn4] at h
              go_wp2_with fail
              go_roundw
              case rel => exact ⟨k + 1, A2, c2, N + nn, by omega, by go_num, rfl, by rw [candJ_snoc HXe.out, HCa.out, List.length_append, ← HNl.out, rowF_len], HO9.out, HB4.out⟩
              case measure => simp [intOf]; omega
      · obtain rfl : q = k := by omega
        go_wp2_with fail
        go_ret
        exact ⟨A1, c1, N, rfl, by rw [HL0.out, HNl.out, List.take_of_length_le (Nat.le_of_eq HXL.out)], by rw [HL0.out]; have h := HOwn.out; rw [List.take_of_length_le (Nat.le_of_eq HXL.out)] at h; exact own_base h (Nat.le_succ _), HAc.out.trans (HBel.out.mono (Nat.le_succ _))⟩

theorem sCandidates_any (A C : Option Addr) (n c m d : Nat) (hs : List AH) (ats : List AD) (cs : List ByteArray) (X : Option Addr) (q e0 : Nat) (xs : List Int) (w : World) (r : Sch w A C n m d hs ats cs) (hx : Rd w X q (xs.map (Value.int .i64))) (hq : q ≤ 1048576) (two : Bool) :
    Calls Try.prog 27 #[.agg #[.slice A n c, .slice C m d], .slice X q e0, .bool two] w fun e w' => ∃ A' c' N, e = .returned (.slice A' N c') ∧ N = (candL ats cs xs two).length ∧ w'.ownsRow w.heap.size 40 2 (.slice A' N c') N (fcells (candL ats cs xs two)) ∧ Below w.heap.size w w' := by
  cases two
  · exact sCand_false A C n c m d hs ats cs X q e0 xs w r hx hq
  · exact sCand_true A C n c m d hs ats cs X q e0 xs w r hx hq

end Go.Proofs.Ytgkefkbpdbokbaa
