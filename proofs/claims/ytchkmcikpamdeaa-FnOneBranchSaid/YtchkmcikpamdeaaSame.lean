/-
  Lists of numbers and statistics compared; the total of statistics.
-/
import Derived.Test.YtchkmcikpamdeaaStatW
import Derived.Test.YtchkmcikpamdeaaStatOk
import Derived.Test.YtchkmcikpamdeaaStatOkI
import Derived.Test.YtchkmcikpamdeaaProm
import Derived.Deep.RegionHeld3
import Derived.BigQuiet
namespace Go.Proofs.Ytchkmcikpamdeaa
open Go.RowKit
set_option linter.unusedSimpArgs false
set_option linter.unusedVariables false

set_option maxHeartbeats 1000000 in
theorem l5Same_any (A C : Option Addr) (n c m d : Nat) (xs ys : List Int) (w : World) (hx : Rd w A n (xs.map (Value.int .i64))) (hy : Rd w C m (ys.map (Value.int .i64))) (hn : n ≤ 1073741824) (hm : m ≤ 1073741824) :
    Calls Try.prog 84 #[.slice A n c, .slice C m d] w fun e w' => e = .returned (.bool (decide (xs = ys))) ∧ Below w.heap.size w w' := by
  have hlx : xs.length = n := by simpa using hx.len
  have hly : ys.length = m := by simpa using hy.len
  by_cases hnm : n = m
  · subst hnm
    have HX := Lib.hid hx; have HY := Lib.hid hy; have HLX := Lib.hid hlx; have HLY := Lib.hid hly
    clear hx hy hlx hly hm
    go_enter Try.func84, Try.ntmps84
    go_wp2
    go_loopw [5] (fun i wr => ∃ k : Nat, k ≤ n ∧ i = .int .i64 k ∧ Hid (∀ j, j < k → xs.getD j 0 = ys.getD j 0) ∧ Below w.heap.size w wr) (fun i _ => n - (intOf i).toNat)
    case atStart => exact ⟨0, Nat.zero_le _, rfl, (fun j hj => absurd hj (by omega)), Below.refl _ _⟩
    case round =>
      obtain ⟨k, hk, rfl, hsame, hbel⟩ := hrel
      by_cases hlt : k < n
      · obtain ⟨b, off, rfl, hbl, hc⟩ := HX.out.ex (by omega)
        obtain ⟨b', off', rfl, hbl', hc'⟩ := HY.out.ex (by omega)
        have hcell : wr.cell? ⟨b, off + k, none⟩ = some (Value.int .i64 (xs.getD k 0)) := (hbel.cell (p := ⟨b, off + k, none⟩) hbl).trans (hc k _ (getIntS (by simpa using HLX.out) hlt))
        have hcell' : wr.cell? ⟨b', off' + k, none⟩ = some (Value.int .i64 (ys.getD k 0)) := (hbel.cell (p := ⟨b', off' + k, none⟩) hbl').trans (hc' k _ (getIntS (by simpa using HLY.out) hlt))
        have HBel := Lib.hid hbel
        obtain ⟨x, hx⟩ : ∃ x, xs.getD k 0 = x := ⟨_, rfl⟩
        obtain ⟨y, hy⟩ : ∃ y, ys.getD k 0 = y := ⟨_, rfl⟩
        rw [hx] at hcell; rw [hy] at hcell'
        have HXk := Lib.hid hx; have HYk := Lib.hid hy
        clear hbel hc hc' hx hy
        have n0 : (0 : Int) ≤ (k : Int) := Int.natCast_nonneg _
        have n1 : (k : Int) < (n : Int) := by omega
        by_cases hxy : x = y
        · subst hxy
          have hb1 : (x != x) = false := by simp
          go_wp2
          go_quiet (fail)
          go_wp2
          go_roundw
          case rel =>
            refine ⟨k + 1, by omega, by go_num, (fun j hj => ?_), Below.trans HBel.out (by repeat (first | exact Below.refl _ _ | apply below_drewN | apply Below.drew))⟩
            rcases Nat.lt_or_ge j k with h1 | h1
            · exact hsame.out j h1
            · obtain rfl : j = k := by omega
              rw [HXk.out, HYk.out]
          case measure => simp [intOf]; omega
        · have hb1 : (x != y) = true := by simpa using hxy
          have hne : decide (xs = ys) = false := by
            simp only [decide_eq_false_iff_not]; intro e; subst e; exact hxy (HXk.out.symm.trans HYk.out)
          have HNE := Lib.hid hne
          clear hne hxy
          go_wp2
          go_quiet (fail)
          go_wp2
          go_ret
          exact ⟨by rw [HNE.out]; rfl, Below.trans HBel.out (by repeat (first | exact Below.refl _ _ | apply below_drewN | apply Below.drew))⟩
      · obtain rfl : k = n := by omega
        have hall : xs = ys := by
          apply List.ext_getElem (by rw [HLX.out, HLY.out])
          intro j h1 h2
          have := hsame.out j (by rw [HLX.out] at h1; exact h1)
          simpa [List.getD, h1, h2] using this
        have HA := Lib.hid (show decide (xs = ys) = true by simpa using hall)
        have HBel := Lib.hid hbel
        clear hall hbel
        go_wp2
        go_ret
        exact ⟨by rw [HA.out]; rfl, HBel.out⟩
  · have HA := Lib.hid (show decide (xs = ys) = false by
      simp only [decide_eq_false_iff_not]; intro e; subst e; omega)
    have hnm' : ¬ ((n : Int) = m) := by omega
    clear hlx hly hx hy hnm
    go_enter Try.func84, Try.ntmps84
    go_wp2
    go_ret
    exact ⟨by rw [HA.out]; rfl, Below.refl _ _⟩

theorem l5Same_same (A C : Option Addr) (n c d : Nat) (xs : List Int) (w : World) (hx : Rd w A n (xs.map (Value.int .i64))) (hy : Rd w C n (xs.map (Value.int .i64))) (hn : n ≤ 1073741824) :
    Calls Try.prog 84 #[.slice A n c, .slice C n d] w fun e w' => e = .returned (.bool true) ∧ Below w.heap.size w w' :=
  (l5Same_any A C n c n d xs xs w hx hy hn hn).mono fun e w' ⟨h1, h2⟩ => ⟨by rw [h1]; simp, h2⟩

set_option maxHeartbeats 1000000 in
theorem lSame_any (A C : Option Addr) (n c m d : Nat) (xs ys : List Int) (w : World) (hx : Rd w A n (xs.map (Value.int .i64))) (hy : Rd w C m (ys.map (Value.int .i64))) (hn : n ≤ 1073741824) (hm : m ≤ 1073741824) :
    Calls Try.prog 41 #[.slice A n c, .slice C m d] w fun e w' => e = .returned (.bool (decide (xs = ys))) ∧ Below w.heap.size w w' := by
  have hlx : xs.length = n := by simpa using hx.len
  have hly : ys.length = m := by simpa using hy.len
  by_cases hnm : n = m
  · subst hnm
    have HX := Lib.hid hx; have HY := Lib.hid hy; have HLX := Lib.hid hlx; have HLY := Lib.hid hly
    clear hx hy hlx hly hm
    go_enter Try.func41, Try.ntmps41
    go_wp2
    go_loopw [5] (fun i wr => ∃ k : Nat, k ≤ n ∧ i = .int .i64 k ∧ Hid (∀ j, j < k → xs.getD j 0 = ys.getD j 0) ∧ Below w.heap.size w wr) (fun i _ => n - (intOf i).toNat)
    case atStart => exact ⟨0, Nat.zero_le _, rfl, (fun j hj => absurd hj (by omega)), Below.refl _ _⟩
    case round =>
      obtain ⟨k, hk, rfl, hsame, hbel⟩ := hrel
      by_cases hlt : k < n
      · obtain ⟨b, off, rfl, hbl, hc⟩ := HX.out.ex (by omega)
        obtain ⟨b', off', rfl, hbl', hc'⟩ := HY.out.ex (by omega)
        have hcell : wr.cell? ⟨b, off + k, none⟩ = some (Value.int .i64 (xs.getD k 0)) := (hbel.cell (p := ⟨b, off + k, none⟩) hbl).trans (hc k _ (getIntS (by simpa using HLX.out) hlt))
        have hcell' : wr.cell? ⟨b', off' + k, none⟩ = some (Value.int .i64 (ys.getD k 0)) := (hbel.cell (p := ⟨b', off' + k, none⟩) hbl').trans (hc' k _ (getIntS (by simpa using HLY.out) hlt))
        have HBel := Lib.hid hbel
        obtain ⟨x, hx⟩ : ∃ x, xs.getD k 0 = x := ⟨_, rfl⟩
        obtain ⟨y, hy⟩ : ∃ y, ys.getD k 0 = y := ⟨_, rfl⟩
        rw [hx] at hcell; rw [hy] at hcell'
        have HXk := Lib.hid hx; have HYk := Lib.hid hy
        clear hbel hc hc' hx hy
        have n0 : (0 : Int) ≤ (k : Int) := Int.natCast_nonneg _
        have n1 : (k : Int) < (n : Int) := by omega
        by_cases hxy : x = y
        · subst hxy
          have hb1 : (x != x) = false := by simp
          go_wp2
          go_quiet (fail)
          go_wp2
          go_roundw
          case rel =>
            refine ⟨k + 1, by omega, by go_num, (fun j hj => ?_), Below.trans HBel.out (by repeat (first | exact Below.refl _ _ | apply below_drewN | apply Below.drew))⟩
            rcases Nat.lt_or_ge j k with h1 | h1
            · exact hsame.out j h1
            · obtain rfl : j = k := by omega
              rw [HXk.out, HYk.out]
          case measure => simp [intOf]; omega
        · have hb1 : (x != y) = true := by simpa using hxy
          have hne : decide (xs = ys) = false := by
            simp only [decide_eq_false_iff_not]; intro e; subst e; exact hxy (HXk.out.symm.trans HYk.out)
          have HNE := Lib.hid hne
          clear hne hxy
          go_wp2
          go_quiet (fail)
          go_wp2
          go_ret
          exact ⟨by rw [HNE.out]; rfl, Below.trans HBel.out (by repeat (first | exact Below.refl _ _ | apply below_drewN | apply Below.drew))⟩
      · obtain rfl : k = n := by omega
        have hall : xs = ys := by
          apply List.ext_getElem (by rw [HLX.out, HLY.out])
          intro j h1 h2
          have := hsame.out j (by rw [HLX.out] at h1; exact h1)
          simpa [List.getD, h1, h2] using this
        have HA := Lib.hid (show decide (xs = ys) = true by simpa using hall)
        have HBel := Lib.hid hbel
        clear hall hbel
        go_wp2
        go_ret
        exact ⟨by rw [HA.out]; rfl, HBel.out⟩
  · have HA := Lib.hid (show decide (xs = ys) = false by
      simp only [decide_eq_false_iff_not]; intro e; subst e; omega)
    have hnm' : ¬ ((n : Int) = m) := by omega
    clear hlx hly hx hy hnm
    go_enter Try.func41, Try.ntmps41
    go_wp2
    go_ret
    exact ⟨by rw [HA.out]; rfl, Below.refl _ _⟩

theorem lSame_same (A C : Option Addr) (n c d : Nat) (xs : List Int) (w : World) (hx : Rd w A n (xs.map (Value.int .i64))) (hy : Rd w C n (xs.map (Value.int .i64))) (hn : n ≤ 1073741824) :
    Calls Try.prog 41 #[.slice A n c, .slice C n d] w fun e w' => e = .returned (.bool true) ∧ Below w.heap.size w w' :=
  (lSame_any A C n c n d xs xs w hx hy hn hn).mono fun e w' ⟨h1, h2⟩ => ⟨by rw [h1]; simp, h2⟩

set_option maxHeartbeats 4000000 in
theorem sStatsSame_same (A C A2 C2 : Option Addr) (n c m d c2 d2 : Nat) (hs gs : List Hd) (ts : List Int) (xss : List (List Int)) (w : World) (rx : Sta w A C n m hs ts xss) (ry : Sta w A2 C2 n m gs ts xss) :
    Calls Try.prog 32 #[.agg #[.slice A n c, .slice C m d], .agg #[.slice A2 n c2, .slice C2 m d2]] w fun e w' => e = .returned (.bool true) ∧ Below w.heap.size w w' := by
  have hb0 : Below w.heap.size w ((w.alloc (.cells #[.slice A n c, .slice C m d] 35)).alloc (.cells #[.slice A2 n c2, .slice C2 m d2] 35)) := by go_grown
  have RX := Lib.hid (rx.below hb0 (Nat.le_refl _)); have RY := Lib.hid (ry.below hb0 (Nat.le_refl _))
  have b1 : Bx ((w.alloc (.cells #[.slice A n c, .slice C m d] 35)).alloc (.cells #[.slice A2 n c2, .slice C2 m d2] 35)) w.heap.size 35 #[.slice A n c, .slice C m d] := (Bx.new w _ _).same (same_alloc _ (by simp))
  have b2 : Bx ((w.alloc (.cells #[.slice A n c, .slice C m d] 35)).alloc (.cells #[.slice A2 n c2, .slice C2 m d2] 35)) (w.heap.size + 1) 35 #[.slice A2 n c2, .slice C2 m d2] := by
    have h := Bx.new (w.alloc (.cells #[.slice A n c, .slice C m d] 35)) 35 #[.slice A2 n c2, .slice C2 m d2]
    simpa only [World.size_alloc] using h
  have hq := rx.hq; have hp := rx.hp
  have HB : Hid (∀ (k : Nat) (xs : List Int), xss[k]? = some xs → xs.length ≤ 1048576) := fun k xs hk => row_le2 rx.hb hk
  have HB0 := Lib.hid hb0
  clear rx ry hb0
  go_enter Try.func32, Try.ntmps32
  go_wp2_with fail
  refine (l5Same_same A A2 n c c2 ts _ RX.out.tot RY.out.tot (by omega)).mono ?_
  rintro e w1 ⟨rfl, b⟩
  have hz1 := b.size
  simp only [World.size_alloc] at hz1
  have bb1 := b1.same (same_below b (by simp only [World.size_alloc]; omega))
  have bb2 := b2.same (same_below b (by simp only [World.size_alloc]; omega))
  have HX := Lib.hid (RX.out.cel.below b (Nat.le_refl _)); have HY := Lib.hid (RY.out.cel.below b (Nat.le_refl _))
  have HB1 := Lib.hid (HB0.out.trans (b.mono (by simp only [World.size_alloc]; omega)))
  have HBa := Lib.hid bb1; have HBb := Lib.hid bb2
  have l1 := bb1.lt; have l2 := bb2.lt
  have c1 : w1.cell? ⟨w.heap.size, 1, none⟩ = some (.slice C m d) := bb1.cells 1
  have c2_ : w1.cell? ⟨w.heap.size + 1, 1, none⟩ = some (.slice C2 m d2) := bb2.cells 1
  clear b b1 b2 bb1 bb2 RX RY
  go_wp2_with fail
  clear c1 c2_
  go_loopw [5] (fun i wr => ∃ k : Nat, k ≤ m ∧ i = .int .i64 k ∧ Below w1.heap.size w1 wr) (fun i _ => m - (intOf i).toNat)
  case atStart => exact ⟨0, Nat.zero_le _, rfl, Below.refl _ _⟩
  case round =>
    obtain ⟨k, hk, rfl, hbel⟩ := hrel
    have e1 : wr.cell? ⟨w.heap.size, 1, none⟩ = some (.slice C m d) := (HBa.out.same (same_below hbel (by omega))).cells 1
    have e2 : wr.cell? ⟨w.heap.size + 1, 1, none⟩ = some (.slice C2 m d2) := (HBb.out.same (same_below hbel (by omega))).cells 1
    by_cases hlt : k < m
    · obtain ⟨x, vs, hx, hv, hr, hvl⟩ := HX.out.get hlt
      obtain ⟨b, off, rfl, hbl, hcell0⟩ := HX.out.head hlt hx
      obtain ⟨y, vs', hy, hv', hr', hvl'⟩ := HY.out.get hlt
      obtain ⟨b', off', rfl, hbl', hcell0'⟩ := HY.out.head hlt hy
      rw [hv] at hv'; obtain rfl := Option.some.inj hv'
      obtain ⟨xs, hxs, rfl⟩ := iss_get' hv
      have hxl := HB.out _ xs hxs
      simp only [List.length_map] at hvl hvl'
      obtain ⟨xa, xn, xc⟩ := x
      obtain ⟨ya, yn, yc⟩ := y
      simp only at hvl hvl' hcell0 hcell0' hr hr'
      subst hvl
      subst hvl'
      have hcell : wr.cell? ⟨b, off + k, none⟩ = some (.slice xa xs.length xc) := (hbel.cell (p := ⟨b, off + k, none⟩) hbl).trans hcell0
      have hcell' : wr.cell? ⟨b', off' + k, none⟩ = some (.slice ya xs.length yc) := (hbel.cell (p := ⟨b', off' + k, none⟩) hbl').trans hcell0'
      have HR := Lib.hid (hr.below hbel (Nat.le_refl _))
      have HR' := Lib.hid (hr'.below hbel (Nat.le_refl _))
      have HBel := Lib.hid hbel
      have g1 : b < wr.heap.size := World.block_lt_of_cell? wr ⟨b, off + k, none⟩ hcell; have g2 : b' < wr.heap.size := World.block_lt_of_cell? wr ⟨b', off' + k, none⟩ hcell'
      have g3 : w.heap.size < wr.heap.size := World.block_lt_of_cell? wr ⟨w.heap.size, 1, none⟩ e1; have g4 : w.heap.size + 1 < wr.heap.size := World.block_lt_of_cell? wr ⟨w.heap.size + 1, 1, none⟩ e2
      have hki : (k : Int) < (m : Int) := by omega
      clear hbel hr hr' hcell0 hcell0' hx hy hv
      go_wp2_with fail
      go_region_held3 (fun w' => w'.cell? ⟨w.heap.size, 1, none⟩ = some (.slice (some ⟨b, off, none⟩) m d) ∧ w'.cell? ⟨w.heap.size + 1, 1, none⟩ = some (.slice (some ⟨b', off', none⟩) m d2) ∧ w'.cell? ⟨b, off + k, none⟩ = some (.slice xa xs.length xc) ∧ w'.cell? ⟨b', off' + k, none⟩ = some (.slice ya xs.length yc) ∧ Below wr.heap.size wr w')
        (first
          | exact ⟨e1, e2, hcell, hcell', (Below.refl _ _).drew⟩
          | exact ⟨(Below.cell (p := ⟨w.heap.size, 1, none⟩) b7 g3).trans e1, (Below.cell (p := ⟨w.heap.size + 1, 1, none⟩) b7 g4).trans e2, (Below.cell (p := ⟨b, off + k, none⟩) b7 g1).trans hcell, (Below.cell (p := ⟨b', off' + k, none⟩) b7 g2).trans hcell', b7⟩)
        ((go_at_call 84; go_split_ands; refine (lift (l5Same_same xa ya xs.length xc yc xs _ (HR.out.below (by assumption) (Nat.le_refl _)) (HR'.out.below (by assumption) (Nat.le_refl _)) (by omega)) (by assumption) (Nat.le_refl _)).mono ?_; rintro e w2 ⟨rfl, b7⟩))
      have HB2 := Lib.hid (HBel.out.trans (b7.mono HBel.out.size))
      clear b7
      go_wp2_with fail
      go_roundw
      case rel => exact ⟨k + 1, by omega, by go_num, HB2.out⟩
      case measure => simp [intOf]; omega
    · obtain rfl : k = m := by omega
      have HBel := Lib.hid hbel
      clear hbel
      go_wp2_with fail
      go_ret
      exact ⟨rfl, HB1.out.trans (HBel.out.mono (by omega))⟩

set_option maxHeartbeats 1000000 in
theorem iStatsTotal_any (A C : Option Addr) (n c m d : Nat) (hs : List AH) (ats : List AD) (cs : List ByteArray) (T X : Option Addr) (q e0 p f0 : Nat) (gs : List Hd) (ts : List Int) (xss : List (List Int)) (w : World) (r : Sch w A C n m d hs ats cs) (s : Sta w T X q p gs ts xss) (h0 : statsB ats cs ts xss = true) :
    Calls Try.prog 34 #[.agg #[.slice A n c, .slice C m d], .agg #[.slice T q e0, .slice X p f0]] w fun e w' => e = .returned (.int .i64 ts.sum) ∧ Below w.heap.size w w' := by
  have hb0 : Below w.heap.size w ((w.alloc (.cells #[.slice A n c, .slice C m d] 40)).alloc (.cells #[.slice T q e0, .slice X p f0] 35)) := by go_grown
  have R := Lib.hid (r.below hb0 (Nat.le_refl _)); have S := Lib.hid (s.below hb0 (Nat.le_refl _))
  have b2 : Bx ((w.alloc (.cells #[.slice A n c, .slice C m d] 40)).alloc (.cells #[.slice T q e0, .slice X p f0] 35)) (w.heap.size + 1) 35 #[.slice T q e0, .slice X p f0] := by
    have h := Bx.new (w.alloc (.cells #[.slice A n c, .slice C m d] 40)) 35 #[.slice T q e0, .slice X p f0]
    simpa only [World.size_alloc] using h
  have HB0 := Lib.hid hb0
  have H0 := Lib.hid h0
  have HW : Hid (∀ x ∈ ts, 0 ≤ x ∧ x ≤ 999) := by
    have h := h0
    unfold statsB totB at h
    simp only [Bool.and_eq_true, Bool.not_eq_true'] at h
    exact fun x hx => badW_get h.1.2.1.2 hx
  have hq := s.hq
  clear r s hb0 h0
  go_enter Try.func34, Try.ntmps34
  go_wp2_with fail
  refine (iStatsOk_any _ _ _ _ _ _ _ ats cs _ _ _ _ _ _ _ ts xss _ R.out S.out).mono ?_
  rw [H0.out]
  rintro e w1 ⟨rfl, b⟩
  have bb2 := b2.same (same_below b (by simp only [World.size_alloc]; omega))
  have c1 : w1.cell? ⟨w.heap.size + 1, 0, none⟩ = some (.slice T q e0) := bb2.cells 0
  have HT := Lib.hid (S.out.tot.below b (Nat.le_refl _))
  have HB1 := Lib.hid (HB0.out.trans (b.mono (by simp only [World.size_alloc]; omega)))
  clear b b2 bb2
  go_wp2_with fail
  refine (iTotal_any T q e0 ts _ HT.out hq HW.out).mono ?_
  rintro e _ ⟨rfl, rfl⟩
  go_wp2_with fail
  go_ret
  exact ⟨rfl, HB1.out⟩

end Go.Proofs.Ytchkmcikpamdeaa
