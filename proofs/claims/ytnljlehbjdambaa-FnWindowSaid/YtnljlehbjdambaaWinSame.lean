/-
  Lists of lists compared: l5SameInts and slices.Equal; sameLists; WindowSame of both packages.
-/
import Derived.Test.YtnljlehbjdambaaWinOk
namespace Go.Proofs.Ytnljlehbjdambaa
open Go.RowKit
set_option linter.unusedSimpArgs false
set_option linter.unusedVariables false
theorem rows_ne {xss yss : List (List Int)} {k : Nat} {xs ys : List Int} (h1 : xss[k]? = some xs) (h2 : yss[k]? = some ys) (hne : ¬ xs = ys) : decide (xss = yss) = false :=
  decide_eq_false (fun e => by subst e; rw [h1] at h2; exact hne (Option.some.inj h2))
theorem rows_eq {xss yss : List (List Int)} {n : Nat} (h1 : xss.length = n) (h2 : yss.length = n) (h : ∀ (j : Nat) (us vs : List Int), j < n → xss[j]? = some us → yss[j]? = some vs → us = vs) : decide (xss = yss) = true := by
  refine decide_eq_true (List.ext_getElem (by omega) fun j e1 e2 => ?_)
  exact h j _ _ (by omega) (List.getElem?_eq_getElem e1) (List.getElem?_eq_getElem e2)

set_option maxHeartbeats 1000000 in
theorem sSameInts_any (A C : Option Addr) (n c m d : Nat) (xs ys : List Int) (w : World) (hx : Rd w A n (xs.map (Value.int .i64))) (hy : Rd w C m (ys.map (Value.int .i64))) (hn : n ≤ 1073741824) (hm : m ≤ 1073741824) :
    Calls Try.prog 47 #[.slice A n c, .slice C m d] w fun e w' => e = .returned (.bool (decide (xs = ys))) ∧ Below w.heap.size w w' := by
  have hlx : xs.length = n := by simpa using hx.len
  have hly : ys.length = m := by simpa using hy.len
  by_cases hnm : n = m
  · subst hnm
    have HX := Lib.hid hx; have HY := Lib.hid hy; have HLX := Lib.hid hlx; have HLY := Lib.hid hly
    clear hx hy hlx hly hm
    go_enter Try.func47, Try.ntmps47
    go_wp2
    go_loopw [5] (fun i wr => ∃ k : Nat, k ≤ n ∧ i = .int .i64 k ∧ Hid (∀ j, j < k → xs.getD j 0 = ys.getD j 0) ∧ Below w.heap.size w wr) (fun i _ => n - (intOf i).toNat)
    case atStart => exact ⟨0, Nat.zero_le _, rfl, (fun j hj => absurd hj (by omega)), Below.refl _ _⟩
    case round =>
      obtain ⟨k, hk, rfl, hsame, hbel⟩ := hrel
      by_cases hlt : k < n
      · obtain ⟨b, off, rfl, hbl, hc⟩ := HX.out.ex (by omega)
        obtain ⟨b', off', rfl, hbl', hc'⟩ := HY.out.ex (by omega)
        have hcell : wr.cell? ⟨b, off + k, none⟩ = some (Value.int .i64 (xs.getD k 0)) := (hbel.cell (p := ⟨b, off + k, none⟩) hbl).trans (hc k _ (getIntS (by simpa using HLX.out) hlt))
        have hcell' : wr.cell? ⟨b', off' + k, none⟩ = some (Value.int .i64 (ys.getD k 0)) := (hbel.cell (p := ⟨b', off' + k, none⟩) hbl').trans (hc' k _ (getIntS (by simpa using HLY.out) hlt))
        have HBel := Lib.hid hbel
        obtain ⟨x, hx⟩ : ∃ x, xs.getD k 0 = x := ⟨_, rfl⟩
        obtain ⟨y, hy⟩ : ∃ y, ys.getD k 0 = y := ⟨_, rfl⟩
        rw [hx] at hcell; rw [hy] at hcell'
        have HXk := Lib.hid hx; have HYk := Lib.hid hy
        clear hbel hc hc' hx hy
        have n0 : (0 : Int) ≤ (k : Int) := Int.natCast_nonneg _
        have n1 : (k : Int) < (n : Int) := by omega
        by_cases hxy : x = y
        · subst hxy
          have hb1 : (x != x) = false := by simp
          go_wp2
          go_quiet (fail)
          go_wp2
          go_roundw
          case rel =>
            refine ⟨k + 1, by omega, by go_num, (fun j hj => ?_), Below.trans HBel.out (by repeat (first | exact Below.refl _ _ | apply below_drewN | apply Below.drew))⟩
            rcases Nat.lt_or_ge j k with h1 | h1
            · exact hsame.out j h1
            · obtain rfl : j = k := by omega
              rw [HXk.out, HYk.out]
          case measure => simp [intOf]; omega
        · have hb1 : (x != y) = true := by simpa using hxy
          have hne : decide (xs = ys) = false := by
            simp only [decide_eq_false_iff_not]; intro e; subst e; exact hxy (HXk.out.symm.trans HYk.out)
          have HNE := Lib.hid hne
          clear hne hxy
          go_wp2
          go_quiet (fail)
          go_wp2
          go_ret
          exact ⟨by rw [HNE.out]; rfl, Below.trans HBel.out (by repeat (first | exact Below.refl _ _ | apply below_drewN | apply Below.drew))⟩
      · obtain rfl : k = n := by omega
        have hall : xs = ys := by
          apply List.ext_getElem (by rw [HLX.out, HLY.out])
          intro j h1 h2
          have := hsame.out j (by rw [HLX.out] at h1; exact h1)
          simpa [List.getD, h1, h2] using this
        have HA := Lib.hid (show decide (xs = ys) = true by simpa using hall)
        have HBel := Lib.hid hbel
        clear hall hbel
        go_wp2
        go_ret
        exact ⟨by rw [HA.out]; rfl, HBel.out⟩
  · have HA := Lib.hid (show decide (xs = ys) = false by
      simp only [decide_eq_false_iff_not]; intro e; subst e; omega)
    have hnm' : ¬ ((n : Int) = m) := by omega
    clear hlx hly hx hy hnm
    go_enter Try.func47, Try.ntmps47
    go_wp2
    go_ret
    exact ⟨by rw [HA.out]; rfl, Below.refl _ _⟩


set_option maxHeartbeats 4000000 in
theorem sWindowSame_any (A C : Option Addr) (n c m d : Nat) (hs gs : List Hd) (xss yss : List (List Int)) (w : World) (hx : RdSS w A n hs (iss xss)) (hy : RdSS w C m gs (iss yss)) (hb1 : totI xss ≤ 1048576) (hb2 : totI yss ≤ 1048576) (hn : n ≤ 1048576) (hm : m ≤ 1048576) :
    Calls Try.prog 25 #[.agg #[.slice A n c], .agg #[.slice C m d]] w fun e w' => e = .returned (.bool (decide (xss = yss))) ∧ Below w.heap.size w w' := by
  have hlx : xss.length = n := by have := hx.len; rwa [iss_len] at this
  have hly : yss.length = m := by have := hy.len; rwa [iss_len] at this
  have HB := Lib.hid (row_le hb1)
  have HB' := Lib.hid (row_le hb2)
  by_cases hnm : n = m
  · subst hnm
    have HLX := Lib.hid hlx; have HLY := Lib.hid hly
    have hb0 : Below w.heap.size w ((w.alloc (.cells #[.slice A n c] 26)).alloc (.cells #[.slice C n d] 26)) := by go_grown
    have HB1 := Lib.hid hb0
    have HX := Lib.hid (hx.below hb0 (Nat.le_refl _))
    have HY := Lib.hid (hy.below hb0 (Nat.le_refl _))
    have C0 : Hid (((w.alloc (.cells #[.slice A n c] 26)).alloc (.cells #[.slice C n d] 26)).cell? ⟨w.heap.size, 0, none⟩ = some (.slice A n c)) := Lib.hid (by simp [go_sem, World.cell?_alloc_past])
    have C1 : Hid (((w.alloc (.cells #[.slice A n c] 26)).alloc (.cells #[.slice C n d] 26)).cell? ⟨w.heap.size + 1, 0, none⟩ = some (.slice C n d)) := Lib.hid (by simp [go_sem, World.cell?_alloc_past])
    have hz : w.heap.size + 1 < ((w.alloc (.cells #[.slice A n c] 26)).alloc (.cells #[.slice C n d] 26)).heap.size := by simp
    clear hx hy hlx hly hb0
    go_enter Try.func25, Try.ntmps25
    go_wp2_with fail
    obtain ⟨W1, hW1⟩ : ∃ W1, W1 = ((w.alloc (.cells #[.slice A n c] 26)).alloc (.cells #[.slice C n d] 26)) := ⟨_, rfl⟩
    rw [← hW1] at HB1 HX HY C0 C1 hz ⊢
    clear hW1
    go_loopw [5] (fun i wr => ∃ k : Nat, k ≤ n ∧ i = .int .i64 k ∧ Hid (∀ (j : Nat) (us vs : List Int), j < k → xss[j]? = some us → yss[j]? = some vs → us = vs) ∧ Below W1.heap.size W1 wr) (fun i _ => n - (intOf i).toNat)
    case atStart => exact ⟨0, Nat.zero_le _, rfl, (fun j us vs hj => absurd hj (by omega)), Below.refl _ _⟩
    case round =>
      obtain ⟨k, hk, rfl, hsame, hbel⟩ := hrel
      have c0 : wr.cell? ⟨w.heap.size, 0, none⟩ = some (.slice A n c) := (hbel.cell (p := ⟨w.heap.size, 0, none⟩) (show w.heap.size < _ by omega)).trans C0.out
      have c1 : wr.cell? ⟨w.heap.size + 1, 0, none⟩ = some (.slice C n d) := (hbel.cell (p := ⟨w.heap.size + 1, 0, none⟩) hz).trans C1.out
      by_cases hlt : k < n
      · obtain ⟨x, vs, hx, hv, hr, hvl⟩ := HX.out.get hlt
        obtain ⟨b, off, rfl, hbl, hcell0⟩ := HX.out.head hlt hx
        obtain ⟨y, vs', hy, hv', hr', hvl'⟩ := HY.out.get hlt
        obtain ⟨b', off', rfl, hbl', hcell0'⟩ := HY.out.head hlt hy
        obtain ⟨xs, hxs, rfl⟩ := iss_get' hv
        obtain ⟨ys, hys, rfl⟩ := iss_get' hv'
        obtain ⟨xa, xn, xc⟩ := x
        obtain ⟨ya, yn, yc⟩ := y
        have hxl := HB.out k xs hxs
        have hyl := HB'.out k ys hys
        simp only [List.length_map] at hvl hvl' hcell0 hcell0' hr hr'
        subst hvl
        subst hvl'
        have hcell : wr.cell? ⟨b, off + k, none⟩ = some (.slice xa xs.length xc) := (hbel.cell (p := ⟨b, off + k, none⟩) hbl).trans hcell0
        have hcell' : wr.cell? ⟨b', off' + k, none⟩ = some (.slice ya ys.length yc) := (hbel.cell (p := ⟨b', off' + k, none⟩) hbl').trans hcell0'
        have HXS := Lib.hid hxs; have HYS := Lib.hid hys
        have HR := Lib.hid (hr.below hbel (Nat.le_refl _))
        have HR' := Lib.hid (hr'.below hbel (Nat.le_refl _))
        have HBel := Lib.hid hbel
        have l1 : b < wr.heap.size := World.block_lt_of_cell? wr ⟨b, off + k, none⟩ hcell
        have l2 : b' < wr.heap.size := World.block_lt_of_cell? wr ⟨b', off' + k, none⟩ hcell'
        obtain ⟨z, hz⟩ : ∃ z, decide (xs = ys) = z := ⟨_, rfl⟩
        have HZ := Lib.hid hz
        clear hbel hr hr' hcell0 hcell0' hx hy hv hv' hxs hys
        have hzz := HBel.out.size
        have K0 := Lib.hid c0; have K1 := Lib.hid c1; have K2 := Lib.hid hcell; have K3 := Lib.hid hcell'
        have l3 : w.heap.size < wr.heap.size := by omega
        have l4 : w.heap.size + 1 < wr.heap.size := by omega
        go_wp2_with fail
        go_region_held3 (fun w' => w'.cell? ⟨w.heap.size, 0, none⟩ = some (.slice (some ⟨b, off, none⟩) n c) ∧ w'.cell? ⟨w.heap.size + 1, 0, none⟩ = some (.slice (some ⟨b', off', none⟩) n d) ∧ w'.cell? ⟨b, off + k, none⟩ = some (.slice xa xs.length xc) ∧ w'.cell? ⟨b', off' + k, none⟩ = some (.slice ya ys.length yc) ∧ Below wr.heap.size wr w')
          (first
            | exact ⟨K0.out, K1.out, K2.out, K3.out, (Below.refl _ _).drew⟩
            | exact ⟨(Below.cell (p := ⟨w.heap.size, 0, none⟩) b7 l3).trans K0.out, (Below.cell (p := ⟨w.heap.size + 1, 0, none⟩) b7 l4).trans K1.out, (Below.cell (p := ⟨b, off + k, none⟩) b7 l1).trans K2.out, (Below.cell (p := ⟨b', off' + k, none⟩) b7 l2).trans K3.out, b7⟩)
          ((go_at_call 47; go_split_ands; refine (lift (sSameInts_any xa ya xs.length xc ys.length yc xs ys _ (HR.out.below (by assumption) (Nat.le_refl _)) (HR'.out.below (by assumption) (Nat.le_refl _)) (by omega) (by omega)) (by assumption) (Nat.le_refl _)).mono ?_; rw [HZ.out]; rintro e w2 ⟨rfl, b7⟩))
        have HB2 := Lib.hid (HBel.out.trans (b7.mono HBel.out.size))
        clear b7
        cases z
        · have HW := Lib.hid (rows_ne HXS.out HYS.out (of_decide_eq_false HZ.out))
          go_wp2_with fail
          go_ret
          exact ⟨by rw [HW.out]; rfl, HB1.out.trans (HB2.out.mono HB1.out.size)⟩
        · go_wp2_with fail
          go_roundw
          case rel =>
            refine ⟨k + 1, by omega, by go_num, (fun j us vs hj hu hv => ?_), HB2.out⟩
            rcases Nat.lt_or_ge j k with h1 | h1
            · exact hsame.out j us vs h1 hu hv
            · obtain rfl : j = k := by omega
              rw [HXS.out] at hu; rw [HYS.out] at hv
              obtain rfl := Option.some.inj hu
              obtain rfl := Option.some.inj hv
              exact of_decide_eq_true HZ.out
          case measure => simp [intOf]; omega
      · obtain rfl : k = n := by omega
        have HW := Lib.hid (rows_eq HLX.out HLY.out hsame.out)
        have HBel := Lib.hid hbel
        clear hbel
        go_wp2_with fail
        go_ret
        exact ⟨by rw [HW.out]; rfl, HB1.out.trans (HBel.out.mono HB1.out.size)⟩
  · have HW : Hid (decide (xss = yss) = false) := decide_eq_false (fun e => by subst e; omega)
    have hnm' : ¬ ((n : Int) = m) := by omega
    clear hlx hly hx hy hnm
    go_enter Try.func25, Try.ntmps25
    go_wp2_with fail
    go_ret
    exact ⟨by rw [HW.out]; rfl, by go_grown⟩

end Go.Proofs.Ytnljlehbjdambaa
