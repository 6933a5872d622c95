/-
  The law file's own helpers over slices of strings: copied, compared, measured.
-/
import Derived.Test.YtchkmcikpamdeaaDoorSz
import Derived.Lib.SlicesS
namespace Go.Proofs.YtchkmcikpamdeaaDoor
open Go.RowKit
set_option linter.unusedSimpArgs false
set_option linter.unusedVariables false

/-- xs up to k, nought behind it, n in all. -/
def fillStringS (xs : List ByteArray) (n k : Nat) : List Value := (xs.take k).map (Value.string) ++ List.replicate (n - k) (Value.string ByteArray.empty)
theorem fillStringS_zero (xs : List ByteArray) (n : Nat) : fillStringS xs n 0 = List.replicate n (Value.string ByteArray.empty) := by simp [fillStringS]
theorem fillStringS_full (xs : List ByteArray) (n : Nat) (h : xs.length = n) : fillStringS xs n n = xs.map (Value.string) := by simp [fillStringS, ← h]
theorem fillStringS_set (xs : List ByteArray) (n k : Nat) (h : xs.length = n) (hk : k < n) : (fillStringS xs n k).set k (Value.string (xs.getD k ByteArray.empty)) = fillStringS xs n (k + 1) := by
  apply List.ext_getElem?
  intro j
  simp only [fillStringS, List.getElem?_set, List.length_append, List.length_map, List.length_take, List.length_replicate, List.getElem?_append, List.getElem?_map, List.getElem?_take, List.getElem?_replicate]
  by_cases hj : k = j
  · subst hj
    have : k < xs.length := by omega
    simp [List.getD, this, show min k xs.length + (n - k) > k from by omega, show k < min (k + 1) xs.length from by omega]
  · rcases Nat.lt_or_ge j k with h1 | h1
    · simp [hj, show j < min k xs.length from by omega, show j < min (k + 1) xs.length from by omega, h1, show j < k + 1 from by omega]
    · have e1 : min k xs.length = k := by omega
      have e2 : min (k + 1) xs.length = k + 1 := by omega
      have e3 : ¬ j < k := by omega
      have e4 : ¬ j < k + 1 := by omega
      by_cases h2 : j < n
      · simp [hj, e1, e2, e3, e4, show j - k < n - k from by omega, show j - (k + 1) < n - (k + 1) from by omega]
      · simp [hj, e1, e2, e3, e4, show ¬ j - k < n - k from by omega, show ¬ j - (k + 1) < n - (k + 1) from by omega]

theorem getStringS {xs : List ByteArray} {n k : Nat} (h : (xs.map (Value.string)).length = n) (hk : k < n) : (xs.map (Value.string))[k]? = some (Value.string (xs.getD k ByteArray.empty)) := by
  have : k < xs.length := by simpa [← h] using hk
  simp [List.getD, this]

theorem info_StringS : (Tryd.prog.info? 9).map (fun i => (i.zero, i.size, i.bytes)) = some (some (Value.string ByteArray.empty), 1, 16) := by kernel_rfl

set_option maxHeartbeats 1000000 in
theorem toStringS_any (A : Option Addr) (n c : Nat) (xs : List ByteArray) (w : World) (h : Rd w A n (xs.map (Value.string))) (hn : n ≤ 1073741824) :
    Calls Tryd.prog 24 #[.slice A n c] w fun e w' => e = .returned (.slice (some ⟨w.heap.size, 0, none⟩) n n) ∧ (w'.ownsRow w.heap.size 9 1 (.slice (some ⟨w.heap.size, 0, none⟩) n n) n (xs.map (Value.string)) ∧ Below w.heap.size w w') := by
  have hlen : xs.length = n := by simpa using h.len
  have HL := Lib.hid hlen
  have H := Lib.hid h
  obtain ⟨i0, hi0, hz0, hz1, hz2⟩ := info_parts info_StringS
  have HI := Lib.hid hi0; have HZ := Lib.hid hz0; have HZ1 := Lib.hid hz1; have HZ2 := Lib.hid hz2
  clear hi0 hz0 hz1 hz2 hlen h
  go_enter Tryd.func24, Tryd.ntmps24
  go_wp2_with (at_make; refine wpList_make_full _ rfl _ _ 23 rfl w.heap.size 9 i0 (Value.string ByteArray.empty) 1 Tryd.underlying23 HI.out HZ.out HZ1.out .i64 .i64 _ _ n rfl rfl (by omega) (by omega) ?c1 ?c2 (Nat.le_refl _) ?_)
  case c1 => rw [HZ2.out]; omega
  case c2 => unfold maxLen; omega
  · intro w1 hown hgrow
    have hb : Below w.heap.size w w1 := (Below.refl _ _).grown hgrow (Nat.le_refl _) (fun k hk => by cases hk)
    have hown0 : w1.ownsRow w.heap.size 9 1 (.slice (some ⟨w.heap.size, 0, none⟩) n n) n (fillStringS xs n 0) := by
      rw [fillStringS_zero, ← toList_madeCells_one]; simpa [Value.cells] using hown
    have HOwn := Lib.hid hown0
    have HBel := Lib.hid hb
    clear hown hgrow hb hown0
    go_wp2
    go_loopw [4] (fun i wr => ∃ k : Nat, k ≤ n ∧ i = .int .i64 k ∧ wr.ownsRow w.heap.size 9 1 (.slice (some ⟨w.heap.size, 0, none⟩) n n) n (fillStringS xs n k) ∧ Below w.heap.size w wr) (fun i _ => n - (intOf i).toNat)
    case atStart => exact ⟨0, Nat.zero_le _, rfl, HOwn.out, HBel.out⟩
    case round =>
      obtain ⟨k, hk, rfl, hown, hbel⟩ := hrel
      by_cases hlt : k < n
      · obtain ⟨b, off, rfl, hbl, hc⟩ := H.out.ex (by omega)
        have hcell : wr.cell? ⟨b, off + k, none⟩ = some (Value.string (xs.getD k ByteArray.empty)) := (hbel.cell (p := ⟨b, off + k, none⟩) hbl).trans (hc k _ (getStringS (by simpa using HL.out) hlt))
        have hfr : wr.frozen? ⟨w.heap.size, k, none⟩ = false := hown.frozenAt k
        have hold : wr.cell? ⟨w.heap.size, k, none⟩ = some ((fillStringS xs n k)[k]'(by have := hown.1; omega)) := by rw [hown.cellAt k (by omega)]; exact List.getElem?_eq_getElem _
        obtain ⟨hs1, hs2⟩ := hown.stored k (Value.string (xs.getD k ByteArray.empty))
        rw [fillStringS_set xs n k HL.out hlt] at hs1
        have HS1 := Lib.hid hs1
        have HS2 := Lib.hid (hbel.setCell (p := ⟨w.heap.size, k, none⟩) (Nat.le_refl _) (Value.string (xs.getD k ByteArray.empty)))
        obtain ⟨old, hold'⟩ : ∃ old, wr.cell? ⟨w.heap.size, k, none⟩ = some old := ⟨_, hold⟩
        obtain ⟨z, hz⟩ : ∃ z, z = xs.getD k ByteArray.empty := ⟨_, rfl⟩
        rw [← hz] at hcell HS1 HS2
        clear hown hbel hc hs1 hs2 hold hz
        go_wp2
        go_roundw
        case rel => exact ⟨k + 1, by omega, by go_num, HS1.out, HS2.out⟩
        case measure => simp [intOf]; omega
      · obtain rfl : k = n := by omega
        have HO := Lib.hid hown
        have HB := Lib.hid hbel
        clear hown hbel
        go_wp2
        go_ret
        exact ⟨rfl, by rw [← fillStringS_full xs k HL.out]; exact HO.out, HB.out⟩

set_option maxHeartbeats 1000000 in
theorem eqStringS_any (A C : Option Addr) (n c m d : Nat) (xs ys : List ByteArray) (w : World) (hx : Rd w A n (xs.map (Value.string))) (hy : Rd w C m (ys.map (Value.string))) (hn : n ≤ 1073741824) (hm : m ≤ 1073741824) :
    Calls Tryd.prog 28 #[.slice A n c, .slice C m d] w fun e w' => e = .returned (.bool (decide (xs = ys))) ∧ Below w.heap.size w w' := by
  have hlx : xs.length = n := by simpa using hx.len
  have hly : ys.length = m := by simpa using hy.len
  by_cases hnm : n = m
  · subst hnm
    have HX := Lib.hid hx; have HY := Lib.hid hy; have HLX := Lib.hid hlx; have HLY := Lib.hid hly
    clear hx hy hlx hly hm
    go_enter Tryd.func28, Tryd.ntmps28
    go_wp2
    go_loopw [5] (fun i wr => ∃ k : Nat, k ≤ n ∧ i = .int .i64 k ∧ Hid (∀ j, j < k → xs.getD j ByteArray.empty = ys.getD j ByteArray.empty) ∧ Below w.heap.size w wr) (fun i _ => n - (intOf i).toNat)
    case atStart => exact ⟨0, Nat.zero_le _, rfl, (fun j hj => absurd hj (by omega)), Below.refl _ _⟩
    case round =>
      obtain ⟨k, hk, rfl, hsame, hbel⟩ := hrel
      by_cases hlt : k < n
      · obtain ⟨b, off, rfl, hbl, hc⟩ := HX.out.ex (by omega)
        obtain ⟨b', off', rfl, hbl', hc'⟩ := HY.out.ex (by omega)
        have hcell : wr.cell? ⟨b, off + k, none⟩ = some (Value.string (xs.getD k ByteArray.empty)) := (hbel.cell (p := ⟨b, off + k, none⟩) hbl).trans (hc k _ (getStringS (by simpa using HLX.out) hlt))
        have hcell' : wr.cell? ⟨b', off' + k, none⟩ = some (Value.string (ys.getD k ByteArray.empty)) := (hbel.cell (p := ⟨b', off' + k, none⟩) hbl').trans (hc' k _ (getStringS (by simpa using HLY.out) hlt))
        have HBel := Lib.hid hbel
        obtain ⟨x, hx⟩ : ∃ x, xs.getD k ByteArray.empty = x := ⟨_, rfl⟩
        obtain ⟨y, hy⟩ : ∃ y, ys.getD k ByteArray.empty = y := ⟨_, rfl⟩
        rw [hx] at hcell; rw [hy] at hcell'
        have HXk := Lib.hid hx; have HYk := Lib.hid hy
        clear hbel hc hc' hx hy
        have n0 : (0 : Int) ≤ (k : Int) := Int.natCast_nonneg _
        have n1 : (k : Int) < (n : Int) := by omega
        by_cases hxy : x = y
        · subst hxy
          have hb1 : (x.toList == x.toList) = true := (Lib.bytes_beq_iff x x).2 rfl
          go_wp2
          go_quiet (fail)
          go_wp2
          go_roundw
          case rel =>
            refine ⟨k + 1, by omega, by go_num, (fun j hj => ?_), Below.trans HBel.out (by repeat (first | exact Below.refl _ _ | apply below_drewN | apply Below.drew))⟩
            rcases Nat.lt_or_ge j k with h1 | h1
            · exact hsame.out j h1
            · obtain rfl : j = k := by omega
              rw [HXk.out, HYk.out]
          case measure => simp [intOf]; omega
        · have hb1 : (x.toList == y.toList) = false := (Lib.bytes_beq_false_iff x y).2 hxy
          have hne : decide (xs = ys) = false := by
            simp only [decide_eq_false_iff_not]; intro e; subst e; exact hxy (HXk.out.symm.trans HYk.out)
          have HNE := Lib.hid hne
          clear hne hxy
          go_wp2
          go_quiet (fail)
          go_wp2
          go_ret
          exact ⟨by rw [HNE.out]; rfl, Below.trans HBel.out (by repeat (first | exact Below.refl _ _ | apply below_drewN | apply Below.drew))⟩
      · obtain rfl : k = n := by omega
        have hall : xs = ys := by
          apply List.ext_getElem (by rw [HLX.out, HLY.out])
          intro j h1 h2
          have := hsame.out j (by rw [HLX.out] at h1; exact h1)
          simpa [List.getD, h1, h2] using this
        have HA := Lib.hid (show decide (xs = ys) = true by simpa using hall)
        have HBel := Lib.hid hbel
        clear hall hbel
        go_wp2
        go_ret
        exact ⟨by rw [HA.out]; rfl, HBel.out⟩
  · have HA := Lib.hid (show decide (xs = ys) = false by
      simp only [decide_eq_false_iff_not]; intro e; subst e; omega)
    have hnm' : ¬ ((n : Int) = m) := by omega
    clear hlx hly hx hy hnm
    go_enter Tryd.func28, Tryd.ntmps28
    go_wp2
    go_ret
    exact ⟨by rw [HA.out]; rfl, Below.refl _ _⟩

theorem eqStringS_same (A C : Option Addr) (n c d : Nat) (xs : List ByteArray) (w : World) (hx : Rd w A n (xs.map (Value.string))) (hy : Rd w C n (xs.map (Value.string))) (hn : n ≤ 1073741824) :
    Calls Tryd.prog 28 #[.slice A n c, .slice C n d] w fun e w' => e = .returned (.bool true) ∧ Below w.heap.size w w' :=
  (eqStringS_any A C n c n d xs xs w hx hy hn hn).mono fun e w' ⟨h1, h2⟩ => ⟨by rw [h1]; simp, h2⟩

/-- The bytes of the first k strings. -/
def bytesTo (ss : List ByteArray) (k : Nat) : Nat := ((ss.map ByteArray.size).take k).sum
def bytesOf (ss : List ByteArray) : Nat := (ss.map ByteArray.size).sum
theorem bytesTo_succ {ss : List ByteArray} {k : Nat} {s : ByteArray} (h : ss[k]? = some s) : bytesTo ss (k + 1) = bytesTo ss k + s.size := by
  obtain ⟨h1, h2⟩ := List.getElem?_eq_some_iff.1 h
  unfold bytesTo
  rw [sum_set _ _ (by simpa using h1)]
  simp [h2]
theorem bytesTo_le (ss : List ByteArray) (k : Nat) : bytesTo ss k ≤ bytesOf ss := sum_take_le _ _
theorem bytesTo_all {ss : List ByteArray} {n : Nat} (h : ss.length = n) : bytesTo ss n = bytesOf ss := by unfold bytesTo bytesOf; rw [List.take_of_length_le (by simp [h])]
theorem bytesTo_zero (ss : List ByteArray) : bytesTo ss 0 = 0 := by simp [bytesTo]

set_option maxHeartbeats 1000000 in
theorem szStringS_any (A : Option Addr) (n c : Nat) (ss : List ByteArray) (left : Int) (w : World) (h0 : 0 ≤ left) (h1 : left ≤ 1048576) (hn : n ≤ 9223372036854775807) (h : Rd w A n (ss.map Value.string)) (hb : ∀ s ∈ ss, s.size ≤ 9223372036854775807) :
    Calls Tryd.prog 20 #[.slice A n c, .int .i64 left] w fun e w' => e = .returned (.int .i64 (szI left ((n : Int) + (bytesOf ss : Int)))) ∧ w = w' := by
  have H := Lib.hid h
  have HB := Lib.hid hb
  have HL := Lib.hid (show ss.length = n by simpa using h.len)
  clear h hb
  by_cases hl : left < n
  · have HS := Lib.hid (szI_no (left := left) (n := (n : Int) + (bytesOf ss : Int)) (by omega))
    go_enter Tryd.func20, Tryd.ntmps20
    go_wp2
    go_ret
    exact ⟨by rw [HS.out]; rfl, rfl⟩
  · have hl' : (n : Int) ≤ left := by omega
    clear hl
    go_enter Tryd.func20, Tryd.ntmps20
    go_wp2
    go_loop [1, 5] (fun ll i => ∃ k : Nat, k ≤ n ∧ i = .int .i64 k ∧ (n : Int) + (bytesTo ss k : Int) ≤ left ∧ ll = .int .i64 (left - ((n : Int) + (bytesTo ss k : Int)))) (fun _ i => n - (intOf i).toNat)
    case atStart => exact ⟨0, Nat.zero_le _, rfl, by rw [bytesTo_zero]; omega, by rw [bytesTo_zero]; simp⟩
    case round =>
      obtain ⟨k, hk, rfl, hle, rfl⟩ := hrel
      by_cases hlt : k < n
      · obtain ⟨b, off, rfl, hbl, hc⟩ := H.out.ex (by omega)
        have hkl : k < ss.length := by rw [HL.out]; exact hlt
        obtain ⟨s, hs⟩ : ∃ s, ss[k]? = some s := ⟨_, List.getElem?_eq_getElem hkl⟩
        have hcell := hc k (.string s) (by simp [hs])
        have hsz := HB.out s (List.mem_of_getElem? hs)
        have hup := bytesTo_succ hs
        have hup2 := bytesTo_le ss (k + 1)
        obtain ⟨u, hu⟩ : ∃ u, bytesTo ss k = u := ⟨_, rfl⟩
        rw [hu] at hup hle ⊢
        have HUP := Lib.hid hup
        by_cases hq : left - ((n : Int) + (u : Int)) < s.size
        · have HS := Lib.hid (szI_no (left := left) (n := (n : Int) + (bytesOf ss : Int)) (by omega))
          clear hc hs hup hup2 hu
          go_wp2
          go_ret
          exact ⟨by rw [HS.out]; rfl, rfl⟩
        · have hq' : (s.size : Int) ≤ left - ((n : Int) + (u : Int)) := by omega
          clear hc hs hup hup2 hu hq
          go_wp2
          go_round
          case rel => exact ⟨k + 1, by omega, by go_num, by rw [HUP.out]; omega, by rw [HUP.out]; congr 1; omega⟩
          case measure => simp [intOf]; omega
      · obtain rfl : k = n := by omega
        have HS := Lib.hid (szI_yes (left := left) (n := (k : Int) + (bytesOf ss : Int)) (by rw [← bytesTo_all HL.out]; exact hle))
        have HU := Lib.hid (bytesTo_all HL.out)
        rw [HU.out] at hle
        go_wp2
        go_ret
        exact ⟨by rw [HS.out, HU.out]; rfl, rfl⟩

end Go.Proofs.YtchkmcikpamdeaaDoor
