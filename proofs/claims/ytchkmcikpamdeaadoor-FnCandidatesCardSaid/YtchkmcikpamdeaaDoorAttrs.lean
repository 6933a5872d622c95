/-
  ascending, CutsOk, AttrOk of both packages.
-/
import Derived.Test.YtchkmcikpamdeaaDoorWords
import Derived.Test.YtchkmcikpamdeaaDoorSch
namespace Go.Proofs.YtchkmcikpamdeaaDoor
open Go.RowKit
set_option linter.unusedSimpArgs false
set_option linter.unusedVariables false

theorem ascB_bad {xs : List Int} {k : Nat} {x y : Int} (hx : xs[k]? = some x) (hy : xs[k + 1]? = some y) (h : ¬ x < y) : ascB xs = false := by
  have h1 := (List.getElem?_eq_some_iff.1 hy).1
  refine allB_bad (i := k) (by omega) ?_
  simp only [List.getD, hx, hy, Option.getD_some]
  exact decide_eq_false h
theorem ascB_good {xs : List Int} (h : ∀ (j : Nat) (x y : Int), xs[j]? = some x → xs[j + 1]? = some y → x < y) : ascB xs = true := by
  refine allB_good fun i hi => ?_
  have h1 : i < xs.length := by omega
  have h2 : i + 1 < xs.length := by omega
  have := h i _ _ (List.getElem?_eq_getElem h1) (List.getElem?_eq_getElem h2)
  simp only [List.getD, List.getElem?_eq_getElem h1, List.getElem?_eq_getElem h2, Option.getD_some]
  exact decide_eq_true this
theorem ascB_get {xs : List Int} (h : ascB xs = true) {j : Nat} {x y : Int} (hx : xs[j]? = some x) (hy : xs[j + 1]? = some y) : x < y := by
  have h1 := (List.getElem?_eq_some_iff.1 hy).1
  have := allB_iff.1 h j (by omega)
  simpa only [List.getD, hx, hy, Option.getD_some, decide_eq_true_eq] using this
def badC (xs : List Int) : Bool := xs.any fun x => !inB x (-9999) 9998
theorem badC_yes {xs : List Int} {q : Nat} {x : Int} (hx : xs[q]? = some x) (h : inB x (-9999) 9998 = false) : badC xs = true := by
  unfold badC; rw [List.any_eq_true]; exact ⟨x, List.mem_of_getElem? hx, by simp [h]⟩
theorem badC_no {xs : List Int} (h : ∀ (j : Nat) (x : Int), xs[j]? = some x → inB x (-9999) 9998 = true) : badC xs = false := by
  unfold badC; rw [List.any_eq_false]; intro x hx; obtain ⟨j, hj⟩ := List.getElem?_of_mem hx; simp [h j x hj]
theorem cutsB_eq (xs : List Int) : cutsB xs = (inB xs.length 1 3 && ascB xs && !badC xs) := by
  unfold cutsB badC; rw [List.not_any_eq_all_not]; simp

set_option maxHeartbeats 1000000 in
theorem iAscending_any (A : Option Addr) (n c : Nat) (xs : List Int) (w : World) (h : Rd w A n (xs.map (Value.int .i64))) (hn : n ≤ 1048576) :
    Calls Tryd.prog 36 #[.slice A n c] w fun e w' => e = .returned (.bool (ascB xs)) ∧ Below w.heap.size w w' := by
  have H := Lib.hid h
  have HL := Lib.hid (show xs.length = n by simpa using h.len)
  clear h
  go_enter Tryd.func36, Tryd.ntmps36
  go_wp2
  go_loopw [3] (fun i wr => ∃ k : Nat, k ≤ n ∧ i = .int .i64 ((k : Int) + 1) ∧ Hid (∀ (j : Nat) (x y : Int), j < k → xs[j]? = some x → xs[j + 1]? = some y → x < y) ∧ Below w.heap.size w wr) (fun i _ => n - (intOf i).toNat)
  case atStart => exact ⟨0, Nat.zero_le _, rfl, (fun j x y hj => absurd hj (by omega)), Below.refl _ _⟩
  case round =>
    obtain ⟨k, hk, rfl, hgood, hbel⟩ := hrel
    by_cases hlt : k + 1 < n
    · obtain ⟨b, off, rfl, hbl, hc⟩ := H.out.ex (by omega)
      obtain ⟨x, hx⟩ : ∃ x, xs[k]? = some x := ⟨_, List.getElem?_eq_getElem (by rw [HL.out]; omega)⟩
      obtain ⟨y, hy⟩ : ∃ y, xs[k + 1]? = some y := ⟨_, List.getElem?_eq_getElem (by rw [HL.out]; omega)⟩
      have hcell : wr.cell? ⟨b, off + k, none⟩ = some (.int .i64 x) := (hbel.cell (p := ⟨b, off + k, none⟩) hbl).trans (hc k _ (by simp [hx]))
      have hcell' : wr.cell? ⟨b, off + (k + 1), none⟩ = some (.int .i64 y) := (hbel.cell (p := ⟨b, off + (k + 1), none⟩) hbl).trans (hc (k + 1) _ (by simp [hy]))
      have HX := Lib.hid hx; have HY := Lib.hid hy; have HBel := Lib.hid hbel
      have n0 : (0 : Int) ≤ (k : Int) := Int.natCast_nonneg _
      have n1 : (k : Int) < (n : Int) := by omega
      have n2 : (0 : Int) ≤ (k : Int) + 1 := by omega
      have n3 : (k : Int) + 1 < (n : Int) := by omega
      have n4 : ((k : Int) + 1).toNat = k + 1 := by omega
      have n5 : IntKind.i64.wrap (k : Int) = k := IntWalk.i64_in _ (by omega)
      clear hc hx hy hbel
      by_cases hxy : x < y
      · have HXY := Lib.hid hxy
        go_wp2
        go_quiet (fail)
        clear n4 n5
        go_wp2
        go_roundw
        case rel =>
          refine ⟨k + 1, by omega, by go_num, (fun j u v hj hu hv => ?_), Below.trans HBel.out (by repeat (first | exact Below.refl _ _ | apply below_drewN | apply Below.drew))⟩
          rcases Nat.lt_or_ge j k with h1 | h1
          · exact hgood.out j u v h1 hu hv
          · obtain rfl : j = k := by omega
            rw [HX.out] at hu; rw [HY.out] at hv
            obtain rfl := Option.some.inj hu
            obtain rfl := Option.some.inj hv
            exact HXY.out
        case measure => simp [intOf]; omega
      · have hyx : y ≤ x := by omega
        have HW := Lib.hid (ascB_bad HX.out HY.out hxy)
        clear hxy
        go_wp2
        go_quiet (fail)
        clear n4 n5
        go_wp2
        go_ret
        exact ⟨by rw [HW.out]; rfl, Below.trans HBel.out (by repeat (first | exact Below.refl _ _ | apply below_drewN | apply Below.drew))⟩
    · have HW := Lib.hid (ascB_good (xs := xs) (fun j x y hx hy => hgood.out j x y (by have := (List.getElem?_eq_some_iff.1 hy).1; rw [HL.out] at this; omega) hx hy))
      have n3 : (n : Int) ≤ (k : Int) + 1 := by omega
      have HBel := Lib.hid hbel
      clear hbel hlt
      go_wp2
      go_ret
      exact ⟨by rw [HW.out]; rfl, HBel.out⟩

theorem isCut_any (x : Int) (w : World) : Calls Tryd.prog 69 #[.int .i64 x] w fun e w' => e = .returned (.bool (inB x (-9999) 9998)) ∧ w = w' := by
  go_enter Tryd.func69, Tryd.ntmps69
  go_wp2_with fail
  refine (within_any _ _ _ _).mono ?_
  rintro e w2 ⟨rfl, rfl⟩
  go_wp2_with fail
  go_ret
  exact ⟨rfl, rfl⟩
theorem iCutFn_any (x : Int) (w : World) : Calls Tryd.prog 68 #[.int .i64 x] w fun e w' => e = .returned (.bool (!inB x (-9999) 9998)) ∧ w = w' := by
  go_enter Tryd.func68, Tryd.ntmps68
  go_wp2_with fail
  refine (isCut_any _ _).mono ?_
  rintro e w2 ⟨rfl, rfl⟩
  go_wp2_with fail
  go_ret
  exact ⟨rfl, rfl⟩

set_option maxHeartbeats 1000000 in
theorem iCutIndex_any (A : Option Addr) (n c : Nat) (xs : List Int) (w : World) (h : Rd w A n (xs.map (Value.int .i64))) (hn : n ≤ 1048576) :
    Calls Tryd.prog 74 #[.slice A n c, .func (.func 68) #[] #[]] w fun e w' => (∃ i : Int, e = .returned (.int .i64 i) ∧ decide (0 ≤ i) = badC xs) ∧ w = w' := by
  have H := Lib.hid h
  have HL := Lib.hid (show xs.length = n by simpa using h.len)
  clear h
  go_enter Tryd.func74, Tryd.ntmps74
  go_wp2_with fail
  go_loop [8] (fun i => ∃ q : Nat, q ≤ n ∧ i = .int .i64 q ∧ Hid (∀ (j : Nat) (x : Int), j < q → xs[j]? = some x → inB x (-9999) 9998 = true)) (fun i => n - (intOf i).toNat)
  case atStart => exact ⟨0, Nat.zero_le _, rfl, fun j x hj => absurd hj (by omega)⟩
  case round =>
    obtain ⟨q, hq, rfl, hgood⟩ := hrel
    by_cases hlt : q < n
    · obtain ⟨b, off, rfl, hbl, hc⟩ := H.out.ex (by omega)
      obtain ⟨x, hx⟩ : ∃ x, xs[q]? = some x := ⟨_, List.getElem?_eq_getElem (by rw [HL.out]; exact hlt)⟩
      have hcell := hc q (.int .i64 x) (by simp [hx])
      have HXQ := Lib.hid hx
      clear hc hx
      cases hin : inB x (-9999) 9998
      · have HV := Lib.hid (badC_yes HXQ.out hin)
        go_wp2_with fail
        refine (iCutFn_any x w).mono ?_
        rw [hin]
        rintro e w2 ⟨rfl, rfl⟩
        go_wp2_with fail
        go_ret
        exact ⟨⟨q, rfl, by rw [HV.out]; simp⟩, rfl⟩
      · have HIN := Lib.hid hin
        go_wp2_with fail
        refine (iCutFn_any x w).mono ?_
        rw [hin]
        rintro e w2 ⟨rfl, rfl⟩
        go_wp2_with fail
        go_round
        case rel =>
          refine ⟨q + 1, by omega, by go_num, fun j y hj hy => ?_⟩
          rcases Nat.lt_or_ge j q with h1 | h1
          · exact hgood.out j y h1 hy
          · obtain rfl : j = q := by omega
            rw [HXQ.out] at hy
            obtain rfl := Option.some.inj hy
            exact HIN.out
        case measure => simp [intOf]; omega
    · obtain rfl : q = n := by omega
      have HV := Lib.hid (badC_no (xs := xs) (fun j x hj => hgood.out j x (by have := (List.getElem?_eq_some_iff.1 hj).1; rw [HL.out] at this; exact this) hj))
      go_wp2_with fail
      go_ret
      exact ⟨⟨-1, rfl, by rw [HV.out]; rfl⟩, rfl⟩

theorem iCutContains_any (A : Option Addr) (n c : Nat) (xs : List Int) (w : World) (h : Rd w A n (xs.map (Value.int .i64))) (hn : n ≤ 1048576) :
    Calls Tryd.prog 67 #[.slice A n c, .func (.func 68) #[] #[]] w fun e w' => e = .returned (.bool (badC xs)) ∧ w = w' := by
  have H := Lib.hid h
  clear h
  go_enter Tryd.func67, Tryd.ntmps67
  go_wp2_with fail
  refine (iCutIndex_any A n c xs w H.out hn).mono ?_
  rintro e w2 ⟨⟨i, rfl, hi⟩, rfl⟩
  have HI := Lib.hid hi
  clear hi
  go_wp2_with fail
  go_ret
  exact ⟨by rw [← HI.out]; rfl, rfl⟩

set_option maxHeartbeats 1000000 in
theorem iCutsOk_any (A : Option Addr) (n c : Nat) (xs : List Int) (w : World) (h : Rd w A n (xs.map (Value.int .i64))) (hn : n ≤ 1048576) :
    Calls Tryd.prog 63 #[.slice A n c] w fun e w' => e = .returned (.bool (cutsB xs)) ∧ Below w.heap.size w w' := by
  have H := Lib.hid h
  have hl : xs.length = n := by simpa using h.len
  have HB0 := Lib.hid (Below.refl w.heap.size w)
  clear h
  rw [cutsB_eq]
  cases h1 : inB xs.length 1 3
  · have HV : Hid ((false && ascB xs && !badC xs) = false) := rfl
    rw [hl] at h1
    go_enter Tryd.func63, Tryd.ntmps63
    go_wp2_with (first | (go_at_call 37; refine (within_any _ _ _ _).mono ?_; rw [h1]; rintro e w' ⟨rfl, rfl⟩))
    go_ret
    exact ⟨rfl, HB0.out⟩
  · rw [hl] at h1
    cases h2 : ascB xs
    · go_enter Tryd.func63, Tryd.ntmps63
      go_wp2_with (first | (go_at_call 37; refine (within_any _ _ _ _).mono ?_; rw [h1]; rintro e w' ⟨rfl, rfl⟩) | (go_at_call 36; refine (iAscending_any A n c xs _ H.out hn).mono ?_; rw [h2]; rintro e w2 ⟨rfl, b2⟩))
      go_ret
      exact ⟨rfl, b2⟩
    · cases h3 : badC xs
      all_goals
        go_enter Tryd.func63, Tryd.ntmps63
        go_wp2_with (first | (go_at_call 37; refine (within_any _ _ _ _).mono ?_; rw [h1]; rintro e w' ⟨rfl, rfl⟩) | (go_at_call 36; refine (iAscending_any A n c xs _ H.out hn).mono ?_; rw [h2]; rintro e w2 ⟨rfl, b2⟩; have HB2 := Lib.hid b2; have HR2 := Lib.hid (H.out.below b2 (Nat.le_refl _)); clear b2) | (go_at_call 67; refine (iCutContains_any A n c xs _ HR2.out hn).mono ?_; rw [h3]; rintro e w3 ⟨rfl, rfl⟩))
        go_ret
        exact ⟨rfl, HB2.out⟩

set_option maxHeartbeats 2000000 in
theorem iAttrOk_any (a : AD) (h : AH) (w : World) (r : RdA w a h) (hc : a.cuts.length ≤ 1048576) (hv : a.vals.length ≤ 1048576) (hcap : h.2.2.1 ≤ h.2.2.2) (hs : a.nm.size ≤ 9223372036854775807) (hvs : ∀ s ∈ a.vals, s.size ≤ 9223372036854775807) :
    Calls Tryd.prog 49 #[.agg #[.string a.nm, .slice h.1.1 h.1.2.1 h.1.2.2, .slice h.2.1 h.2.2.1 h.2.2.2]] w fun e w' => e = .returned (.bool (attrB a)) ∧ Below w.heap.size w w' := by
  obtain ⟨l1, l2⟩ := rdA_len r
  obtain ⟨⟨ca, cn, cc⟩, ⟨va, vn, vc⟩⟩ := h
  simp only at l1 l2 hcap
  rw [l1] at hc; rw [l2] at hv
  have HL1 := Lib.hid l1; have HL2 := Lib.hid l2
  clear l1 l2
  have HVS := Lib.hid hvs
  have HB := Lib.hid (below_alloc1 (w := w) (.cells #[.string a.nm, .slice ca cn cc, .slice va vn vc] 52))
  have R := Lib.hid (r.below HB.out (Nat.le_refl _))
  clear r hvs
  cases hw : wordB a.nm
  · have HV : Hid (attrB a = false) := by unfold Hid attrB; rw [hw]; rfl
    go_enter Tryd.func49, Tryd.ntmps49
    go_wp2_with (first | (go_at_call 61; refine (iWordOk_any _ _ hs).mono ?_; rw [hw]; rintro e w' ⟨rfl, rfl⟩))
    go_ret
    exact ⟨by rw [HV.out]; rfl, HB.out⟩
  · by_cases hz : cn = 0
    · subst hz
      cases h1 : inB vn 2 4
      · have HV : Hid (attrB a = false) := by unfold Hid attrB; rw [hw, if_pos HL1.out, HL2.out, h1]; rfl
        go_enter Tryd.func49, Tryd.ntmps49
        go_wp2_with (first | (go_at_call 61; refine (iWordOk_any _ _ hs).mono ?_; rw [hw]; rintro e w' ⟨rfl, rfl⟩) | (go_at_call 37; refine (within_any _ _ _ _).mono ?_; rw [h1]; rintro e w' ⟨rfl, rfl⟩))
        go_ret
        exact ⟨by rw [HV.out]; rfl, HB.out⟩
      · cases h2 : wordsB a.vals
        all_goals
          have HV : Hid (attrB a = wordsB a.vals) := by unfold Hid attrB; rw [hw, if_pos HL1.out, HL2.out, h1]; simp
          go_enter Tryd.func49, Tryd.ntmps49
          go_wp2_with (first | (go_at_call 61; refine (iWordOk_any _ _ hs).mono ?_; rw [hw]; rintro e w' ⟨rfl, rfl⟩) | (go_at_call 37; refine (within_any _ _ _ _).mono ?_; rw [h1]; rintro e w' ⟨rfl, rfl⟩) | (go_at_call 48; refine (iWords_any va vn vc a.vals _ R.out.vals (by omega) hcap HVS.out).mono ?_; rw [h2]; rintro e w' ⟨rfl, rfl⟩))
          go_ret
          exact ⟨by rw [HV.out, h2]; rfl, HB.out⟩
    · by_cases hv0 : vn = 0
      · subst hv0
        cases h2 : cutsB a.cuts
        all_goals
          have HV : Hid (attrB a = cutsB a.cuts) := by unfold Hid attrB; rw [hw, if_neg (by rw [HL1.out]; exact hz), decide_eq_true HL2.out]; simp
          go_enter Tryd.func49, Tryd.ntmps49
          go_wp2_with (first | (go_at_call 61; refine (iWordOk_any _ _ hs).mono ?_; rw [hw]; rintro e w' ⟨rfl, rfl⟩) | (go_at_call 63; refine (iCutsOk_any ca cn cc a.cuts _ R.out.cuts (by omega)).mono ?_; rw [h2]; rintro e w2 ⟨rfl, b2⟩; have HB2 := Lib.hid (HB.out.trans (b2.mono HB.out.size)); clear b2))
          go_ret
          exact ⟨by rw [HV.out, h2]; rfl, HB2.out⟩
      · have HV : Hid (attrB a = false) := by unfold Hid attrB; rw [hw, if_neg (by rw [HL1.out]; exact hz), decide_eq_false (by rw [HL2.out]; exact hv0)]; rfl
        go_enter Tryd.func49, Tryd.ntmps49
        go_wp2_with (first | (go_at_call 61; refine (iWordOk_any _ _ hs).mono ?_; rw [hw]; rintro e w' ⟨rfl, rfl⟩))
        go_ret
        exact ⟨by rw [HV.out]; rfl, HB.out⟩

theorem attrB_cuts {a : AD} (hw : wordB a.nm = true) (hz : ¬ a.cuts.length = 0) (hv : a.vals.length = 0) (h3 : a.cuts.length ≤ 3) : attrB a = (ascB a.cuts && !badC a.cuts) := by
  unfold attrB; rw [hw, if_neg hz, decide_eq_true hv, cutsB_eq, inB_yes (by omega) (by omega)]; simp

set_option maxHeartbeats 4000000 in
theorem sAttrOk_any (a : AD) (h : AH) (w : World) (r : RdA w a h) (hc : a.cuts.length ≤ 1048576) (hv : a.vals.length ≤ 1048576) (hcap : h.2.2.1 ≤ h.2.2.2) (hs : a.nm.size ≤ 9223372036854775807) (hvs : ∀ s ∈ a.vals, s.size ≤ 9223372036854775807) :
    Calls Tryd.prog 47 #[.agg #[.string a.nm, .slice h.1.1 h.1.2.1 h.1.2.2, .slice h.2.1 h.2.2.1 h.2.2.2]] w fun e w' => e = .returned (.bool (attrB a)) ∧ Below w.heap.size w w' := by
  obtain ⟨l1, l2⟩ := rdA_len r
  obtain ⟨⟨ca, cn, cc⟩, ⟨va, vn, vc⟩⟩ := h
  simp only at l1 l2 hcap
  rw [l1] at hc; rw [l2] at hv
  have HL1 := Lib.hid l1; have HL2 := Lib.hid l2
  clear l1 l2
  have HVS := Lib.hid hvs
  have HB := Lib.hid (below_alloc1 (w := w) (.cells #[.string a.nm, .slice ca cn cc, .slice va vn vc] 52))
  have R := Lib.hid (r.below HB.out (Nat.le_refl _))
  clear r hvs
  cases hw : wordB a.nm
  · have HV : Hid (attrB a = false) := by unfold Hid attrB; rw [hw]; rfl
    go_enter Tryd.func47, Tryd.ntmps47
    go_wp2_with (first | (go_at_call 60; refine (sWordOk_any _ _ hs).mono ?_; rw [hw]; rintro e w' ⟨rfl, rfl⟩))
    go_ret
    exact ⟨by rw [HV.out]; rfl, HB.out⟩
  · by_cases hz : cn = 0
    · subst hz
      cases h1 : inB vn 2 4
      · have HV : Hid (attrB a = false) := by unfold Hid attrB; rw [hw, if_pos HL1.out, HL2.out, h1]; rfl
        go_enter Tryd.func47, Tryd.ntmps47
        go_wp2_with (first | (go_at_call 60; refine (sWordOk_any _ _ hs).mono ?_; rw [hw]; rintro e w' ⟨rfl, rfl⟩) | (go_at_call 34; refine (l1In_any _ _ _ _).mono ?_; rw [h1]; rintro e w' ⟨rfl, rfl⟩))
        go_ret
        exact ⟨by rw [HV.out]; rfl, HB.out⟩
      · cases h2 : wordsB a.vals
        all_goals
          have HV : Hid (attrB a = wordsB a.vals) := by unfold Hid attrB; rw [hw, if_pos HL1.out, HL2.out, h1]; simp
          go_enter Tryd.func47, Tryd.ntmps47
          go_wp2_with (first | (go_at_call 60; refine (sWordOk_any _ _ hs).mono ?_; rw [hw]; rintro e w' ⟨rfl, rfl⟩) | (go_at_call 34; refine (l1In_any _ _ _ _).mono ?_; rw [h1]; rintro e w' ⟨rfl, rfl⟩) | (go_at_call 46; refine (sWords_any va vn vc a.vals _ R.out.vals (by omega) HVS.out).mono ?_; rw [h2]; rintro e w2 ⟨rfl, b2⟩; have HB2 := Lib.hid (HB.out.trans (b2.mono HB.out.size)); clear b2))
          go_ret
          exact ⟨by rw [HV.out, h2]; rfl, HB2.out⟩
    · by_cases hv0 : vn = 0
      · subst hv0
        by_cases h3 : cn ≤ 3
        · have HAB := Lib.hid (attrB_cuts hw (by rw [HL1.out]; exact hz) HL2.out (by rw [HL1.out]; exact h3))
          have C1 : Hid ((w.alloc (.cells #[.string a.nm, .slice ca cn cc, .slice va 0 vc] 52)).cell? ⟨w.heap.size, 1, none⟩ = some (.slice ca cn cc)) := Lib.hid (by simp [go_sem])
          have hzz : w.heap.size < (w.alloc (.cells #[.string a.nm, .slice ca cn cc, .slice va 0 vc] 52)).heap.size := by simp
          go_enter Tryd.func47, Tryd.ntmps47
          go_wp2_with (first | (go_at_call 60; refine (sWordOk_any _ _ hs).mono ?_; rw [hw]; rintro e w' ⟨rfl, rfl⟩))
          obtain ⟨W1, hW1⟩ : ∃ W1, W1 = (w.alloc (.cells #[.string a.nm, .slice ca cn cc, .slice va 0 vc] 52)) := ⟨_, rfl⟩
          rw [← hW1] at HB R C1 hzz ⊢
          clear hW1
          go_loopw [3] (fun i wr => ∃ k : Nat, k ≤ cn ∧ i = .int .i64 k ∧ Hid (∀ (j : Nat) (x : Int), j < k → a.cuts[j]? = some x → inB x (-9999) 9998 = true ∧ ∀ y, 0 < j → a.cuts[j - 1]? = some y → y < x) ∧ Below W1.heap.size W1 wr) (fun i _ => cn - (intOf i).toNat)
          case atStart => exact ⟨0, Nat.zero_le _, rfl, (fun j x hj => absurd hj (by omega)), Below.refl _ _⟩
          case round =>
            obtain ⟨k, hk, rfl, hgood, hbel⟩ := hrel
            have c1 : wr.cell? ⟨w.heap.size, 1, none⟩ = some (.slice ca cn cc) := (hbel.cell (p := ⟨w.heap.size, 1, none⟩) hzz).trans C1.out
            by_cases hlt : k < cn
            · obtain ⟨b, off, rfl, hbl, hc⟩ := R.out.cuts.ex (show 0 < cn by omega)
              obtain ⟨x, hx⟩ : ∃ x, a.cuts[k]? = some x := ⟨_, List.getElem?_eq_getElem (by rw [HL1.out]; exact hlt)⟩
              have hcell : wr.cell? ⟨b, off + k, none⟩ = some (.int .i64 x) := (hbel.cell (p := ⟨b, off + k, none⟩) hbl).trans (hc k _ (by simp [hx]))
              have HX := Lib.hid hx
              have HBel := Lib.hid hbel
              have n0 : (0 : Int) ≤ (k : Int) := Int.natCast_nonneg _
              have n1 : (k : Int) < (cn : Int) := by omega
              cases hin : inB x (-9999) 9998
              · have HV : Hid (attrB a = false) := by unfold Hid; rw [HAB.out, badC_yes HX.out hin]; simp
                clear hc hx hbel
                go_wp2_with fail
                go_quiet ((go_at_call 34; exact Calls.quiet_of_same (l1In_q hin _)))
                go_wp2_with fail
                go_ret
                exact ⟨by rw [HV.out]; rfl, HB.out.trans ((Below.trans HBel.out (by repeat (first | exact Below.refl _ _ | apply below_drewN | apply Below.drew))).mono HB.out.size)⟩
              · have HIN := Lib.hid hin
                rcases Nat.eq_zero_or_pos k with hk0 | hk0
                · subst hk0
                  simp only [Nat.add_zero] at hcell
                  clear hc hx hbel
                  go_wp2_with fail
                  go_quiet ((go_at_call 34; exact Calls.quiet_of_same (l1In_q hin _)))
                  go_wp2_with fail
                  go_roundw
                  case rel =>
                    refine ⟨1, by omega, by go_num, (fun j u hj hu => ?_), Below.trans HBel.out (by repeat (first | exact Below.refl _ _ | apply below_drewN | apply Below.drew))⟩
                    obtain rfl : j = 0 := by omega
                    rw [HX.out] at hu
                    obtain rfl := Option.some.inj hu
                    exact ⟨HIN.out, fun y h => absurd h (by omega)⟩
                  case measure => simp [intOf]; omega
                · obtain ⟨k', rfl⟩ : ∃ k', k = k' + 1 := ⟨k - 1, by omega⟩
                  obtain ⟨y, hy⟩ : ∃ y, a.cuts[k']? = some y := ⟨_, List.getElem?_eq_getElem (by rw [HL1.out]; omega)⟩
                  have hcell' : wr.cell? ⟨b, off + k', none⟩ = some (.int .i64 y) := (hbel.cell (p := ⟨b, off + k', none⟩) hbl).trans (hc k' _ (by simp [hy]))
                  have HY := Lib.hid hy
                  rw [Int.natCast_add] at n0 n1
                  rw [Int.natCast_add]
                  have hg : (0 : Int) < (k' : Int) + 1 := by omega
                  have g0 : (0 : Int) ≤ (k' : Int) := Int.natCast_nonneg _
                  have g1 : (k' : Int) < (cn : Int) := by omega
                  have n4 : ((k' : Int) + 1).toNat = k' + 1 := by omega
                  have n5 : IntKind.i64.wrap (k' : Int) = k' := IntWalk.i64_in _ (by omega)
                  by_cases hyx : y < x
                  · have HYX := Lib.hid hyx
                    clear hc hx hy hbel hk0
                    go_wp2_with fail
                    go_quiet ((go_at_call 34; exact Calls.quiet_of_same (l1In_q hin _)))
                    clear n4 n5
                    go_wp2_with fail
                    go_roundw
                    case rel =>
                      refine ⟨k' + 2, by omega, by go_num, (fun j u hj hu => ?_), Below.trans HBel.out (by repeat (first | exact Below.refl _ _ | apply below_drewN | apply Below.drew))⟩
                      rcases Nat.lt_or_ge j (k' + 1) with h1 | h1
                      · exact hgood.out j u h1 hu
                      · obtain rfl : j = k' + 1 := by omega
                        rw [HX.out] at hu
                        obtain rfl := Option.some.inj hu
                        refine ⟨HIN.out, fun v _ hv => ?_⟩
                        rw [show k' + 1 - 1 = k' from rfl, HY.out] at hv
                        obtain rfl := Option.some.inj hv
                        exact HYX.out
                    case measure => simp [intOf]; omega
                  · have HV : Hid (attrB a = false) := by unfold Hid; rw [HAB.out, ascB_bad HY.out HX.out hyx]; rfl
                    have hxy : x ≤ y := by omega
                    clear hc hx hy hbel hk0 hyx
                    go_wp2_with fail
                    go_quiet ((go_at_call 34; exact Calls.quiet_of_same (l1In_q hin _)))
                    clear n4 n5
                    go_wp2_with fail
                    go_ret
                    exact ⟨by rw [HV.out]; rfl, HB.out.trans ((Below.trans HBel.out (by repeat (first | exact Below.refl _ _ | apply below_drewN | apply Below.drew))).mono HB.out.size)⟩
            · obtain rfl : k = cn := by omega
              have HV : Hid (attrB a = true) := by
                unfold Hid
                rw [HAB.out, ascB_good (fun j x y hx hy => (hgood.out (j + 1) y (by have := (List.getElem?_eq_some_iff.1 hy).1; rw [HL1.out] at this; exact this) hy).2 x (by omega) hx), badC_no (fun j x hx => (hgood.out j x (by have := (List.getElem?_eq_some_iff.1 hx).1; rw [HL1.out] at this; exact this) hx).1)]
                rfl
              have HBel := Lib.hid hbel
              clear hbel
              go_wp2_with fail
              go_ret
              exact ⟨by rw [HV.out]; rfl, HB.out.trans (HBel.out.mono HB.out.size)⟩
        · have HV : Hid (attrB a = false) := by unfold Hid attrB; rw [hw, if_neg (by rw [HL1.out]; exact hz), decide_eq_true HL2.out, cutsB_eq, HL1.out, inB_no (by omega)]; rfl
          go_enter Tryd.func47, Tryd.ntmps47
          go_wp2_with (first | (go_at_call 60; refine (sWordOk_any _ _ hs).mono ?_; rw [hw]; rintro e w' ⟨rfl, rfl⟩))
          go_ret
          exact ⟨by rw [HV.out]; rfl, HB.out⟩
      · have HV : Hid (attrB a = false) := by unfold Hid attrB; rw [hw, if_neg (by rw [HL1.out]; exact hz), decide_eq_false (by rw [HL2.out]; exact hv0)]; rfl
        go_enter Tryd.func47, Tryd.ntmps47
        go_wp2_with (first | (go_at_call 60; refine (sWordOk_any _ _ hs).mono ?_; rw [hw]; rintro e w' ⟨rfl, rfl⟩))
        go_ret
        exact ⟨by rw [HV.out]; rfl, HB.out⟩

end Go.Proofs.YtchkmcikpamdeaaDoor
