/-
  WordOk and lists of different words, in both packages.
-/
import Derived.Test.YtchkmcikpamdeaaDoorSchM
import Derived.Test.YtchkmcikpamdeaaDoorIn
import Derived.Test.YtchkmcikpamdeaaDoorStrs
namespace Go.Proofs.YtchkmcikpamdeaaDoor
open Go.RowKit
set_option linter.unusedSimpArgs false
set_option linter.unusedVariables false

set_option maxHeartbeats 1000000 in
theorem sWordOk_any (s : ByteArray) (w : World) (hs : s.size ≤ 9223372036854775807) : Calls Tryd.prog 60 #[.string s] w fun e w' => e = .returned (.bool (wordB s)) ∧ w = w' := by
  cases hin : inB s.size 1 8
  · have HIN := Lib.hid hin
    have HW : Hid (wordB s = false) := by unfold Hid wordB; rw [hin, Bool.false_and]
    clear hin
    go_enter Tryd.func60, Tryd.ntmps60
    go_wp2_with (first | (go_at_call 34; refine (l1In_any _ _ _ _).mono ?_; rw [HIN.out]; rintro e w' ⟨rfl, rfl⟩))
    go_ret
    exact ⟨by rw [HW.out]; rfl, rfl⟩
  · have HIN := Lib.hid hin
    have h8 := inB_iff.1 hin
    clear hin
    go_enter Tryd.func60, Tryd.ntmps60
    go_wp2_with (first | (go_at_call 34; refine (l1In_any _ _ _ _).mono ?_; rw [HIN.out]; rintro e w' ⟨rfl, rfl⟩))
    go_loop [3] (fun i => ∃ k : Nat, k ≤ s.size ∧ i = .int .i64 k ∧ Hid (∀ j, j < k → (decide (97 ≤ byteN s j) && decide (byteN s j ≤ 122)) = true)) (fun i => s.size - (intOf i).toNat)
    case atStart => exact ⟨0, Nat.zero_le _, rfl, fun j hj => absurd hj (by omega)⟩
    case round =>
      obtain ⟨k, hk, rfl, hgood⟩ := hrel
      by_cases hlt : k < s.size
      · obtain ⟨b, hb⟩ : ∃ b, byteN s k = b := ⟨_, rfl⟩
        have HB := Lib.hid hb
        have hbk : (s[k]'hlt).toNat = b := by rw [← hb]; simp [byteN, hlt]
        by_cases h1 : 97 ≤ b
        · by_cases h2 : b ≤ 122
          · go_wp2
            go_round
            case rel =>
              refine ⟨k + 1, by omega, by go_num, fun j hj => ?_⟩
              rcases Nat.lt_or_ge j k with h3 | h3
              · exact hgood.out j h3
              · obtain rfl : j = k := by omega
                rw [HB.out]; simp [h1, h2]
            case measure => simp [intOf]; omega
          · have HW : Hid (wordB s = false) := by unfold Hid wordB; rw [allB_bad hlt (by rw [HB.out]; simp [h2]), Bool.and_false]
            go_wp2
            go_ret
            exact ⟨by rw [HW.out]; rfl, rfl⟩
        · have HW : Hid (wordB s = false) := by unfold Hid wordB; rw [allB_bad hlt (by rw [HB.out]; simp [h1]), Bool.and_false]
          go_wp2
          go_ret
          exact ⟨by rw [HW.out]; rfl, rfl⟩
      · obtain rfl : k = s.size := by omega
        have HW : Hid (wordB s = true) := by unfold Hid wordB; rw [HIN.out, Bool.true_and]; exact allB_good hgood.out
        go_wp2
        go_ret
        exact ⟨by rw [HW.out]; rfl, rfl⟩

set_option maxHeartbeats 1000000 in
theorem iWordOk_any (s : ByteArray) (w : World) (hs : s.size ≤ 9223372036854775807) : Calls Tryd.prog 61 #[.string s] w fun e w' => e = .returned (.bool (wordB s)) ∧ w = w' := by
  cases hin : inB s.size 1 8
  · have HIN := Lib.hid hin
    have HW : Hid (wordB s = false) := by unfold Hid wordB; rw [hin, Bool.false_and]
    clear hin
    go_enter Tryd.func61, Tryd.ntmps61
    go_wp2_with (first | (go_at_call 37; refine (within_any _ _ _ _).mono ?_; rw [HIN.out]; rintro e w' ⟨rfl, rfl⟩))
    go_ret
    exact ⟨by rw [HW.out]; rfl, rfl⟩
  · have HIN := Lib.hid hin
    have h8 := inB_iff.1 hin
    clear hin
    go_enter Tryd.func61, Tryd.ntmps61
    go_wp2_with (first | (go_at_call 37; refine (within_any _ _ _ _).mono ?_; rw [HIN.out]; rintro e w' ⟨rfl, rfl⟩))
    go_loop [10] (fun i => ∃ k : Nat, k ≤ s.size ∧ i = .int .i64 k ∧ Hid (∀ j, j < k → (decide (97 ≤ byteN s j) && decide (byteN s j ≤ 122)) = true)) (fun i => s.size - (intOf i).toNat)
    case atStart => exact ⟨0, Nat.zero_le _, rfl, fun j hj => absurd hj (by omega)⟩
    case round =>
      obtain ⟨k, hk, rfl, hgood⟩ := hrel
      by_cases hlt : k < s.size
      · obtain ⟨b, hb⟩ : ∃ b, byteN s k = b := ⟨_, rfl⟩
        have HB := Lib.hid hb
        have hbk : (s[k]'hlt).toNat = b := by rw [← hb]; simp [byteN, hlt]
        by_cases h1 : 97 ≤ b
        · by_cases h2 : b ≤ 122
          · go_wp2
            go_round
            case rel =>
              refine ⟨k + 1, by omega, by go_num, fun j hj => ?_⟩
              rcases Nat.lt_or_ge j k with h3 | h3
              · exact hgood.out j h3
              · obtain rfl : j = k := by omega
                rw [HB.out]; simp [h1, h2]
            case measure => simp [intOf]; omega
          · have HW : Hid (wordB s = false) := by unfold Hid wordB; rw [allB_bad hlt (by rw [HB.out]; simp [h2]), Bool.and_false]
            go_wp2
            go_ret
            exact ⟨by rw [HW.out]; rfl, rfl⟩
        · have HW : Hid (wordB s = false) := by unfold Hid wordB; rw [allB_bad hlt (by rw [HB.out]; simp [h1]), Bool.and_false]
          go_wp2
          go_ret
          exact ⟨by rw [HW.out]; rfl, rfl⟩
      · obtain rfl : k = s.size := by omega
        have HW : Hid (wordB s = true) := by unfold Hid wordB; rw [HIN.out, Bool.true_and]; exact allB_good hgood.out
        go_wp2
        go_ret
        exact ⟨by rw [HW.out]; rfl, rfl⟩

theorem Rd.take_ {w : World} {A : Option Addr} {n k : Nat} {xs : List Value} (h : Rd w A n xs) (hk : k ≤ n) : Rd w A k (xs.take k) := by
  refine ⟨by have := h.len; simp; omega, fun hp => ?_⟩
  obtain ⟨b, off, hA, hlt, hc⟩ := h.ex (by omega)
  refine ⟨b, off, hA, hlt, fun j u hu => hc j u ?_⟩
  rw [List.getElem?_take] at hu
  split at hu
  · exact hu
  · cases hu
theorem cont_yes {ss : List ByteArray} {j : Nat} {s : ByteArray} (h : ss[j]? = some s) : hasB ss s = true := by
  exact hasB_iff.2 (List.mem_of_getElem? h)
theorem cont_no {ss : List ByteArray} {s : ByteArray} (h : ∀ (j : Nat) (u : ByteArray), ss[j]? = some u → ¬ s = u) : hasB ss s = false := by
  cases hc : hasB ss s
  · rfl
  · obtain ⟨j, hj⟩ := List.getElem?_of_mem (hasB_iff.1 hc)
    exact absurd rfl (h j s hj)

set_option maxHeartbeats 1000000 in
theorem iIndexS_any (A : Option Addr) (n c : Nat) (ss : List ByteArray) (x : ByteArray) (w : World) (h : Rd w A n (ss.map Value.string)) (hn : n ≤ 1048576) :
    Calls Tryd.prog 66 #[.slice A n c, .string x] w fun e w' => (∃ i : Int, e = .returned (.int .i64 i) ∧ decide (0 ≤ i) = hasB ss x) ∧ w = w' := by
  have H := Lib.hid h
  have HL := Lib.hid (show ss.length = n by simpa using h.len)
  clear h
  go_enter Tryd.func66, Tryd.ntmps66
  go_wp2_with fail
  go_loop [8] (fun i => ∃ q : Nat, q ≤ n ∧ i = .int .i64 q ∧ Hid (∀ (j : Nat) (u : ByteArray), j < q → ss[j]? = some u → ¬ x = u)) (fun i => n - (intOf i).toNat)
  case atStart => exact ⟨0, Nat.zero_le _, rfl, fun j u hj => absurd hj (by omega)⟩
  case round =>
    obtain ⟨q, hq, rfl, hgood⟩ := hrel
    by_cases hlt : q < n
    · obtain ⟨b, off, rfl, hbl, hc⟩ := H.out.ex (by omega)
      obtain ⟨y, hy⟩ : ∃ y, ss[q]? = some y := ⟨_, List.getElem?_eq_getElem (by rw [HL.out]; exact hlt)⟩
      have hcell := hc q (.string y) (by simp [hy])
      have HY := Lib.hid hy
      clear hc hy
      by_cases hxy : x = y
      · have hb1 : (x.toList == y.toList) = true := (Lib.bytes_beq_iff x y).2 hxy
        have HV : Hid (hasB ss x = true) := by subst hxy; exact cont_yes HY.out
        clear hxy
        go_wp2
        go_ret
        exact ⟨⟨q, rfl, by rw [HV.out]; simp⟩, rfl⟩
      · have hb1 : (x.toList == y.toList) = false := (Lib.bytes_beq_false_iff x y).2 hxy
        have HXY := Lib.hid hxy
        clear hxy
        go_wp2
        go_round
        case rel =>
          refine ⟨q + 1, by omega, by go_num, fun j u hj hu => ?_⟩
          rcases Nat.lt_or_ge j q with h1 | h1
          · exact hgood.out j u h1 hu
          · obtain rfl : j = q := by omega
            rw [HY.out] at hu
            obtain rfl := Option.some.inj hu
            exact HXY.out
        case measure => simp [intOf]; omega
    · obtain rfl : q = n := by omega
      have HV := Lib.hid (cont_no (ss := ss) (s := x) (fun j u hj => hgood.out j u (by have := (List.getElem?_eq_some_iff.1 hj).1; rw [HL.out] at this; exact this) hj))
      go_wp2
      go_ret
      exact ⟨⟨-1, rfl, by rw [HV.out]; rfl⟩, rfl⟩

theorem iContainsS_any (A : Option Addr) (n c : Nat) (ss : List ByteArray) (x : ByteArray) (w : World) (h : Rd w A n (ss.map Value.string)) (hn : n ≤ 1048576) :
    Calls Tryd.prog 62 #[.slice A n c, .string x] w fun e w' => e = .returned (.bool (hasB ss x)) ∧ w = w' := by
  have H := Lib.hid h
  clear h
  go_enter Tryd.func62, Tryd.ntmps62
  go_wp2_with fail
  refine (iIndexS_any A n c ss x w H.out hn).mono ?_
  rintro e w2 ⟨⟨i, rfl, hi⟩, rfl⟩
  have HI := Lib.hid hi
  clear hi
  go_wp2_with fail
  go_ret
  exact ⟨by rw [← HI.out]; rfl, rfl⟩

set_option maxHeartbeats 2000000 in
theorem iWords_any (A : Option Addr) (n c : Nat) (ss : List ByteArray) (w : World) (h : Rd w A n (ss.map Value.string)) (hn : n ≤ 1048576) (hnc : n ≤ c) (hs : ∀ s ∈ ss, s.size ≤ 9223372036854775807) :
    Calls Tryd.prog 48 #[.slice A n c] w fun e w' => e = .returned (.bool (wordsB ss)) ∧ w = w' := by
  have H := Lib.hid h
  have HL := Lib.hid (show ss.length = n by simpa using h.len)
  have HS := Lib.hid hs
  clear h hs
  go_enter Tryd.func48, Tryd.ntmps48
  go_wp2_with fail
  go_loop [7] (fun i => ∃ q : Nat, q ≤ n ∧ i = .int .i64 q ∧ Hid (∀ (j : Nat) (u : ByteArray), j < q → ss[j]? = some u → wordB u = true ∧ hasB (ss.take j) u = false)) (fun i => n - (intOf i).toNat)
  case atStart => exact ⟨0, Nat.zero_le _, rfl, fun j u hj => absurd hj (by omega)⟩
  case round =>
    obtain ⟨q, hq, rfl, hgood⟩ := hrel
    by_cases hlt : q < n
    · have HT := Lib.hid (H.out.take_ (k := q) (by omega))
      obtain ⟨b, off, rfl, hbl, hc⟩ := H.out.ex (by omega)
      obtain ⟨y, hy⟩ : ∃ y, ss[q]? = some y := ⟨_, List.getElem?_eq_getElem (by rw [HL.out]; exact hlt)⟩
      have hcell := hc q (.string y) (by simp [hy])
      have HY := Lib.hid hy
      have hys := HS.out y (List.mem_of_getElem? hy)
      have n0 : (0 : Int) ≤ (q : Int) := Int.natCast_nonneg _
      have n1 : (q : Int) < (n : Int) := by omega
      have n2 : (q : Int) ≤ (c : Int) := by omega
      clear hc hy
      cases hw : wordB y
      · have HW := Lib.hid (wordsB_bad1 HY.out hw)
        go_wp2_with (first | (go_at_call 61; refine (iWordOk_any _ _ hys).mono ?_; rw [hw]; rintro e w' ⟨rfl, rfl⟩))
        go_ret
        exact ⟨by rw [HW.out]; rfl, rfl⟩
      · cases hct : hasB (ss.take q) y
        · have HG : Hid (wordB y = true ∧ hasB (ss.take q) y = false) := ⟨hw, hct⟩
          go_wp2_with (first | (go_at_call 61; refine (iWordOk_any _ _ hys).mono ?_; rw [hw]; rintro e w' ⟨rfl, rfl⟩) | (go_at_call 62; refine (iContainsS_any _ q _ (ss.take q) y _ (by rw [List.map_take]; exact HT.out) (by omega)).mono ?_; rw [hct]; rintro e w' ⟨rfl, rfl⟩))
          go_round
          case rel =>
            refine ⟨q + 1, by omega, by go_num, fun j u hj hu => ?_⟩
            rcases Nat.lt_or_ge j q with h1 | h1
            · exact hgood.out j u h1 hu
            · obtain rfl : j = q := by omega
              rw [HY.out] at hu
              obtain rfl := Option.some.inj hu
              exact HG.out
          case measure => simp [intOf]; omega
        · have HW := Lib.hid (wordsB_bad2 HY.out hct)
          go_wp2_with (first | (go_at_call 61; refine (iWordOk_any _ _ hys).mono ?_; rw [hw]; rintro e w' ⟨rfl, rfl⟩) | (go_at_call 62; refine (iContainsS_any _ q _ (ss.take q) y _ (by rw [List.map_take]; exact HT.out) (by omega)).mono ?_; rw [hct]; rintro e w' ⟨rfl, rfl⟩))
          go_ret
          exact ⟨by rw [HW.out]; rfl, rfl⟩
    · obtain rfl : q = n := by omega
      have HW := Lib.hid (wordsB_good (ss := ss) (fun j u hj => hgood.out j u (by have := (List.getElem?_eq_some_iff.1 hj).1; rw [HL.out] at this; exact this) hj))
      go_wp2_with fail
      go_ret
      exact ⟨by rw [HW.out]; rfl, rfl⟩

set_option maxHeartbeats 2000000 in
theorem sWords_any (A : Option Addr) (n c : Nat) (ss : List ByteArray) (w : World) (h : Rd w A n (ss.map Value.string)) (hn : n ≤ 1048576) (hs : ∀ s ∈ ss, s.size ≤ 9223372036854775807) :
    Calls Tryd.prog 46 #[.slice A n c] w fun e w' => e = .returned (.bool (wordsB ss)) ∧ Below w.heap.size w w' := by
  have H := Lib.hid h
  have HL := Lib.hid (show ss.length = n by simpa using h.len)
  have HS := Lib.hid hs
  clear h hs
  go_enter Tryd.func46, Tryd.ntmps46
  go_wp2_with fail
  go_loopw [3] (fun i wr => ∃ q : Nat, q ≤ n ∧ i = .int .i64 q ∧ Hid (∀ (j : Nat) (u : ByteArray), j < q → ss[j]? = some u → wordB u = true ∧ hasB (ss.take j) u = false) ∧ Below w.heap.size w wr) (fun i _ => n - (intOf i).toNat)
  case atStart => exact ⟨0, Nat.zero_le _, rfl, (fun j u hj => absurd hj (by omega)), Below.refl _ _⟩
  case round =>
    obtain ⟨q, hq, rfl, hgood, hbel⟩ := hrel
    have HBel := Lib.hid hbel
    clear hbel
    by_cases hlt : q < n
    · obtain ⟨b, off, rfl, hbl, hc0⟩ := H.out.ex (by omega)
      have HC := Lib.hid hc0
      obtain ⟨y, hy⟩ : ∃ y, ss[q]? = some y := ⟨_, List.getElem?_eq_getElem (by rw [HL.out]; exact hlt)⟩
      have hcell : wr.cell? ⟨b, off + q, none⟩ = some (.string y) := (HBel.out.cell (p := ⟨b, off + q, none⟩) hbl).trans (HC.out q (.string y) (by simp [hy]))
      have HY := Lib.hid hy
      have hys := HS.out y (List.mem_of_getElem? hy)
      have n0 : (0 : Int) ≤ (q : Int) := Int.natCast_nonneg _
      have n1 : (q : Int) < (n : Int) := by omega
      clear hc0 hy
      cases hw : wordB y
      · have HW := Lib.hid (wordsB_bad1 HY.out hw)
        go_wp2_with (first | (go_at_call 60; refine (sWordOk_any _ _ hys).mono ?_; rw [hw]; rintro e w' ⟨rfl, rfl⟩))
        go_ret
        exact ⟨by rw [HW.out]; rfl, HBel.out⟩
      · have HWy := Lib.hid hw
        go_wp2_with (first | (go_at_call 60; refine (sWordOk_any _ _ hys).mono ?_; rw [hw]; rintro e w' ⟨rfl, rfl⟩))
        clear hcell hw
        go_loopw [4] (fun i wr => ∃ t : Nat, t ≤ q ∧ i = .int .i64 t ∧ Hid (∀ (j : Nat) (u : ByteArray), j < t → ss[j]? = some u → ¬ y = u) ∧ Below w.heap.size w wr) (fun i _ => q - (intOf i).toNat)
        case atStart => exact ⟨0, Nat.zero_le _, rfl, (fun j u hj => absurd hj (by omega)), HBel.out⟩
        case round =>
          obtain ⟨t, ht, rfl, hne, hbel2⟩ := hrel
          have HBel2 := Lib.hid hbel2
          clear hbel2
          have hcell : wr.cell? ⟨b, off + q, none⟩ = some (.string y) := (HBel2.out.cell (p := ⟨b, off + q, none⟩) hbl).trans (HC.out q (.string y) (by simp [HY.out]))
          by_cases hltt : t < q
          · obtain ⟨x, hx⟩ : ∃ x, ss[t]? = some x := ⟨_, List.getElem?_eq_getElem (by rw [HL.out]; omega)⟩
            have hcell2 : wr.cell? ⟨b, off + t, none⟩ = some (.string x) := (HBel2.out.cell (p := ⟨b, off + t, none⟩) hbl).trans (HC.out t (.string x) (by simp [hx]))
            have HX := Lib.hid hx
            have m0 : (0 : Int) ≤ (t : Int) := Int.natCast_nonneg _
            have m1 : (t : Int) < (n : Int) := by omega
            clear hx
            by_cases hxy : y = x
            · have hb1 : (y.toList == x.toList) = true := (Lib.bytes_beq_iff y x).2 hxy
              have HW : Hid (wordsB ss = false) := by
                refine wordsB_bad2 HY.out (cont_yes (j := t) ?_)
                rw [List.getElem?_take, if_pos hltt, HX.out, hxy]
              clear hxy
              go_wp2
              go_quiet (fail)
              go_wp2
              go_ret
              exact ⟨by rw [HW.out]; rfl, Below.trans HBel2.out (by repeat (first | exact Below.refl _ _ | apply below_drewN | apply Below.drew))⟩
            · have hb1 : (y.toList == x.toList) = false := (Lib.bytes_beq_false_iff y x).2 hxy
              have HXY := Lib.hid hxy
              clear hxy
              go_wp2
              go_quiet (fail)
              go_wp2
              go_roundw
              case rel =>
                refine ⟨t + 1, by omega, by go_num, (fun j u hj hu => ?_), Below.trans HBel2.out (by repeat (first | exact Below.refl _ _ | apply below_drewN | apply Below.drew))⟩
                rcases Nat.lt_or_ge j t with h1 | h1
                · exact hne.out j u h1 hu
                · obtain rfl : j = t := by omega
                  rw [HX.out] at hu
                  obtain rfl := Option.some.inj hu
                  exact HXY.out
              case measure => simp [intOf]; omega
          · obtain rfl : t = q := by omega
            clear hcell
            go_wp2
            go_roundw
            case rel =>
              refine ⟨t + 1, by omega, by go_num, (fun j u hj hu => ?_), HBel2.out⟩
              rcases Nat.lt_or_ge j t with h1 | h1
              · exact hgood.out j u h1 hu
              · obtain rfl : j = t := by omega
                rw [HY.out] at hu
                obtain rfl := Option.some.inj hu
                refine ⟨HWy.out, cont_no fun i v hv => ?_⟩
                rw [List.getElem?_take] at hv
                split at hv
                · rename_i hi; exact hne.out i v hi hv
                · cases hv
            case measure => simp [intOf]; omega
    · obtain rfl : q = n := by omega
      have HW := Lib.hid (wordsB_good (ss := ss) (fun j u hj => hgood.out j u (by have := (List.getElem?_eq_some_iff.1 hj).1; rw [HL.out] at this; exact this) hj))
      go_wp2
      go_ret
      exact ⟨by rw [HW.out]; rfl, HBel.out⟩

end Go.Proofs.YtchkmcikpamdeaaDoor
