/-
  The law file's own helpers over slices of numbers: IntS copied, compared, marked, asked for its marks.
-/
import Derived.Test.YtchkmcikpamdeaaDoorBase
namespace Go.Proofs.YtchkmcikpamdeaaDoor
open Go.RowKit

/-- xs up to k, nought behind it, n in all. -/
def fillIntS (xs : List Int) (n k : Nat) : List Value := (xs.take k).map (Value.int .i64) ++ List.replicate (n - k) (Value.int .i64 0)
theorem fillIntS_zero (xs : List Int) (n : Nat) : fillIntS xs n 0 = List.replicate n (Value.int .i64 0) := by simp [fillIntS]
theorem fillIntS_full (xs : List Int) (n : Nat) (h : xs.length = n) : fillIntS xs n n = xs.map (Value.int .i64) := by simp [fillIntS, ← h]
theorem fillIntS_set (xs : List Int) (n k : Nat) (h : xs.length = n) (hk : k < n) : (fillIntS xs n k).set k (Value.int .i64 (xs.getD k 0)) = fillIntS xs n (k + 1) := by
  apply List.ext_getElem?
  intro j
  simp only [fillIntS, List.getElem?_set, List.length_append, List.length_map, List.length_take, List.length_replicate, List.getElem?_append, List.getElem?_map, List.getElem?_take, List.getElem?_replicate]
  by_cases hj : k = j
  · subst hj
    have : k < xs.length := by omega
    simp [List.getD, this, show min k xs.length + (n - k) > k from by omega, show k < min (k + 1) xs.length from by omega]
  · rcases Nat.lt_or_ge j k with h1 | h1
    · simp [hj, show j < min k xs.length from by omega, show j < min (k + 1) xs.length from by omega, h1, show j < k + 1 from by omega]
    · have e1 : min k xs.length = k := by omega
      have e2 : min (k + 1) xs.length = k + 1 := by omega
      have e3 : ¬ j < k := by omega
      have e4 : ¬ j < k + 1 := by omega
      by_cases h2 : j < n
      · simp [hj, e1, e2, e3, e4, show j - k < n - k from by omega, show j - (k + 1) < n - (k + 1) from by omega]
      · simp [hj, e1, e2, e3, e4, show ¬ j - k < n - k from by omega, show ¬ j - (k + 1) < n - (k + 1) from by omega]

theorem getIntS {xs : List Int} {n k : Nat} (h : (xs.map (Value.int .i64)).length = n) (hk : k < n) : (xs.map (Value.int .i64))[k]? = some (Value.int .i64 (xs.getD k 0)) := by
  have : k < xs.length := by simpa [← h] using hk
  simp [List.getD, this]

theorem info_IntS : (Tryd.prog.info? 3).map (fun i => (i.zero, i.size, i.bytes)) = some (some (Value.int .i64 0), 1, 8) := by kernel_rfl

set_option maxHeartbeats 1000000 in
theorem toIntS_any (A : Option Addr) (n c : Nat) (xs : List Int) (w : World) (h : Rd w A n (xs.map (Value.int .i64))) (hn : n ≤ 1073741824) :
    Calls Tryd.prog 51 #[.slice A n c] w fun e w' => e = .returned (.slice (some ⟨w.heap.size, 0, none⟩) n n) ∧ (w'.ownsRow w.heap.size 3 1 (.slice (some ⟨w.heap.size, 0, none⟩) n n) n (xs.map (Value.int .i64)) ∧ Below w.heap.size w w') := by
  have hlen : xs.length = n := by simpa using h.len
  have HL := Lib.hid hlen
  have H := Lib.hid h
  obtain ⟨i0, hi0, hz0, hz1, hz2⟩ := info_parts info_IntS
  have HI := Lib.hid hi0; have HZ := Lib.hid hz0; have HZ1 := Lib.hid hz1; have HZ2 := Lib.hid hz2
  clear hi0 hz0 hz1 hz2 hlen h
  go_enter Tryd.func51, Tryd.ntmps51
  go_wp2_with (at_make; refine wpList_make_full _ rfl _ _ 40 rfl w.heap.size 3 i0 (Value.int .i64 0) 1 Tryd.underlying40 HI.out HZ.out HZ1.out .i64 .i64 _ _ n rfl rfl (by omega) (by omega) ?c1 ?c2 (Nat.le_refl _) ?_)
  case c1 => rw [HZ2.out]; omega
  case c2 => unfold maxLen; omega
  · intro w1 hown hgrow
    have hb : Below w.heap.size w w1 := (Below.refl _ _).grown hgrow (Nat.le_refl _) (fun k hk => by cases hk)
    have hown0 : w1.ownsRow w.heap.size 3 1 (.slice (some ⟨w.heap.size, 0, none⟩) n n) n (fillIntS xs n 0) := by
      rw [fillIntS_zero, ← toList_madeCells_one]; simpa [Value.cells] using hown
    have HOwn := Lib.hid hown0
    have HBel := Lib.hid hb
    clear hown hgrow hb hown0
    go_wp2
    go_loopw [4] (fun i wr => ∃ k : Nat, k ≤ n ∧ i = .int .i64 k ∧ wr.ownsRow w.heap.size 3 1 (.slice (some ⟨w.heap.size, 0, none⟩) n n) n (fillIntS xs n k) ∧ Below w.heap.size w wr) (fun i _ => n - (intOf i).toNat)
    case atStart => exact ⟨0, Nat.zero_le _, rfl, HOwn.out, HBel.out⟩
    case round =>
      obtain ⟨k, hk, rfl, hown, hbel⟩ := hrel
      by_cases hlt : k < n
      · obtain ⟨b, off, rfl, hbl, hc⟩ := H.out.ex (by omega)
        have hcell : wr.cell? ⟨b, off + k, none⟩ = some (Value.int .i64 (xs.getD k 0)) := (hbel.cell (p := ⟨b, off + k, none⟩) hbl).trans (hc k _ (getIntS (by simpa using HL.out) hlt))
        have hfr : wr.frozen? ⟨w.heap.size, k, none⟩ = false := hown.frozenAt k
        have hold : wr.cell? ⟨w.heap.size, k, none⟩ = some ((fillIntS xs n k)[k]'(by have := hown.1; omega)) := by rw [hown.cellAt k (by omega)]; exact List.getElem?_eq_getElem _
        obtain ⟨hs1, hs2⟩ := hown.stored k (Value.int .i64 (xs.getD k 0))
        rw [fillIntS_set xs n k HL.out hlt] at hs1
        have HS1 := Lib.hid hs1
        have HS2 := Lib.hid (hbel.setCell (p := ⟨w.heap.size, k, none⟩) (Nat.le_refl _) (Value.int .i64 (xs.getD k 0)))
        obtain ⟨old, hold'⟩ : ∃ old, wr.cell? ⟨w.heap.size, k, none⟩ = some old := ⟨_, hold⟩
        obtain ⟨z, hz⟩ : ∃ z, z = xs.getD k 0 := ⟨_, rfl⟩
        rw [← hz] at hcell HS1 HS2
        clear hown hbel hc hs1 hs2 hold hz
        go_wp2
        go_roundw
        case rel => exact ⟨k + 1, by omega, by go_num, HS1.out, HS2.out⟩
        case measure => simp [intOf]; omega
      · obtain rfl : k = n := by omega
        have HO := Lib.hid hown
        have HB := Lib.hid hbel
        clear hown hbel
        go_wp2
        go_ret
        exact ⟨rfl, by rw [← fillIntS_full xs k HL.out]; exact HO.out, HB.out⟩

set_option maxHeartbeats 1000000 in
theorem eqIntS_any (A C : Option Addr) (n c m d : Nat) (xs ys : List Int) (w : World) (hx : Rd w A n (xs.map (Value.int .i64))) (hy : Rd w C m (ys.map (Value.int .i64))) (hn : n ≤ 1073741824) (hm : m ≤ 1073741824) :
    Calls Tryd.prog 53 #[.slice A n c, .slice C m d] w fun e w' => e = .returned (.bool (decide (xs = ys))) ∧ Below w.heap.size w w' := by
  have hlx : xs.length = n := by simpa using hx.len
  have hly : ys.length = m := by simpa using hy.len
  by_cases hnm : n = m
  · subst hnm
    have HX := Lib.hid hx; have HY := Lib.hid hy; have HLX := Lib.hid hlx; have HLY := Lib.hid hly
    clear hx hy hlx hly hm
    go_enter Tryd.func53, Tryd.ntmps53
    go_wp2
    go_loopw [5] (fun i wr => ∃ k : Nat, k ≤ n ∧ i = .int .i64 k ∧ Hid (∀ j, j < k → xs.getD j 0 = ys.getD j 0) ∧ Below w.heap.size w wr) (fun i _ => n - (intOf i).toNat)
    case atStart => exact ⟨0, Nat.zero_le _, rfl, (fun j hj => absurd hj (by omega)), Below.refl _ _⟩
    case round =>
      obtain ⟨k, hk, rfl, hsame, hbel⟩ := hrel
      by_cases hlt : k < n
      · obtain ⟨b, off, rfl, hbl, hc⟩ := HX.out.ex (by omega)
        obtain ⟨b', off', rfl, hbl', hc'⟩ := HY.out.ex (by omega)
        have hcell : wr.cell? ⟨b, off + k, none⟩ = some (Value.int .i64 (xs.getD k 0)) := (hbel.cell (p := ⟨b, off + k, none⟩) hbl).trans (hc k _ (getIntS (by simpa using HLX.out) hlt))
        have hcell' : wr.cell? ⟨b', off' + k, none⟩ = some (Value.int .i64 (ys.getD k 0)) := (hbel.cell (p := ⟨b', off' + k, none⟩) hbl').trans (hc' k _ (getIntS (by simpa using HLY.out) hlt))
        have HBel := Lib.hid hbel
        obtain ⟨x, hx⟩ : ∃ x, xs.getD k 0 = x := ⟨_, rfl⟩
        obtain ⟨y, hy⟩ : ∃ y, ys.getD k 0 = y := ⟨_, rfl⟩
        rw [hx] at hcell; rw [hy] at hcell'
        have HXk := Lib.hid hx; have HYk := Lib.hid hy
        clear hbel hc hc' hx hy
        have n0 : (0 : Int) ≤ (k : Int) := Int.natCast_nonneg _
        have n1 : (k : Int) < (n : Int) := by omega
        by_cases hxy : x = y
        · subst hxy
          have hb1 : (x != x) = false := by simp
          go_wp2
          go_quiet (fail)
          go_wp2
          go_roundw
          case rel =>
            refine ⟨k + 1, by omega, by go_num, (fun j hj => ?_), Below.trans HBel.out (by repeat (first | exact Below.refl _ _ | apply below_drewN | apply Below.drew))⟩
            rcases Nat.lt_or_ge j k with h1 | h1
            · exact hsame.out j h1
            · obtain rfl : j = k := by omega
              rw [HXk.out, HYk.out]
          case measure => simp [intOf]; omega
        · have hb1 : (x != y) = true := by simpa using hxy
          have hne : decide (xs = ys) = false := by
            simp only [decide_eq_false_iff_not]; intro e; subst e; exact hxy (HXk.out.symm.trans HYk.out)
          have HNE := Lib.hid hne
          clear hne hxy
          go_wp2
          go_quiet (fail)
          go_wp2
          go_ret
          exact ⟨by rw [HNE.out]; rfl, Below.trans HBel.out (by repeat (first | exact Below.refl _ _ | apply below_drewN | apply Below.drew))⟩
      · obtain rfl : k = n := by omega
        have hall : xs = ys := by
          apply List.ext_getElem (by rw [HLX.out, HLY.out])
          intro j h1 h2
          have := hsame.out j (by rw [HLX.out] at h1; exact h1)
          simpa [List.getD, h1, h2] using this
        have HA := Lib.hid (show decide (xs = ys) = true by simpa using hall)
        have HBel := Lib.hid hbel
        clear hall hbel
        go_wp2
        go_ret
        exact ⟨by rw [HA.out]; rfl, HBel.out⟩
  · have HA := Lib.hid (show decide (xs = ys) = false by
      simp only [decide_eq_false_iff_not]; intro e; subst e; omega)
    have hnm' : ¬ ((n : Int) = m) := by omega
    clear hlx hly hx hy hnm
    go_enter Tryd.func53, Tryd.ntmps53
    go_wp2
    go_ret
    exact ⟨by rw [HA.out]; rfl, Below.refl _ _⟩

theorem eqIntS_same (A C : Option Addr) (n c d : Nat) (xs : List Int) (w : World) (hx : Rd w A n (xs.map (Value.int .i64))) (hy : Rd w C n (xs.map (Value.int .i64))) (hn : n ≤ 1073741824) :
    Calls Tryd.prog 53 #[.slice A n c, .slice C n d] w fun e w' => e = .returned (.bool true) ∧ Below w.heap.size w w' :=
  (eqIntS_any A C n c n d xs xs w hx hy hn hn).mono fun e w' ⟨h1, h2⟩ => ⟨by rw [h1]; simp, h2⟩

/-- The marks from k on, n of them. -/
def marksIntS (k n : Nat) : List Value := (List.range n).map fun j => Value.int .i64 (((k + j : Nat) : Int))
theorem marksIntS_len (k n : Nat) : (marksIntS k n).length = n := by simp [marksIntS]
theorem marksIntS_get {k n j : Nat} (h : j < n) : (marksIntS k n)[j]? = some (Value.int .i64 (((k + j : Nat) : Int))) := by simp [marksIntS, h]
theorem marksIntS_set (k n q : Nat) (xs : List Value) (hx : xs.length = n) (hq : q < n) :
    (marksIntS k q ++ xs.drop q).set q (Value.int .i64 (((k + q : Nat) : Int))) = marksIntS k (q + 1) ++ xs.drop (q + 1) := by
  have e : (marksIntS k q).length = q := marksIntS_len k q
  have e2 : xs.drop q = xs[q] :: xs.drop (q + 1) := List.drop_eq_getElem_cons (by omega)
  rw [List.set_append_right _ _ (by omega), e, Nat.sub_self, e2, List.set_cons_zero]
  unfold marksIntS
  rw [List.range_succ, List.map_append, List.append_assoc]
  rfl

end Go.Proofs.YtchkmcikpamdeaaDoor
