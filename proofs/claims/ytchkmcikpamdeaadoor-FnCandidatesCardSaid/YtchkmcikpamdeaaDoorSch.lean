/-
  Schemas in memory; the law file's helpers over attributes and schemas: measured.
-/
import Derived.Test.YtchkmcikpamdeaaDoorSchM
import Derived.Test.YtchkmcikpamdeaaDoorStrs
import Derived.Test.YtchkmcikpamdeaaDoorSS
namespace Go.Proofs.YtchkmcikpamdeaaDoor
open Go.RowKit
set_option linter.unusedSimpArgs false
set_option linter.unusedVariables false

abbrev AH := Hd × Hd
def acells (a : AD) (h : AH) : List Value := [.string a.nm, hdV h.1, hdV h.2]
def ascells : List AD → List AH → List Value
  | a :: ats, h :: hs => .string a.nm :: hdV h.1 :: hdV h.2 :: ascells ats hs
  | _, _ => []
theorem ascells_len : ∀ (ats : List AD) (hs : List AH), ats.length = hs.length → (ascells ats hs).length = ats.length * 3
  | [], [], _ => rfl
  | a :: ats, h :: hs, e => by simp only [ascells, List.length_cons]; rw [ascells_len ats hs (by simpa using e)]; omega
theorem ascells_get : ∀ {ats : List AD} {hs : List AH} {k : Nat} {a : AD} {h : AH}, ats[k]? = some a → hs[k]? = some h →
    (ascells ats hs)[k * 3]? = some (.string a.nm) ∧ (ascells ats hs)[k * 3 + 1]? = some (hdV h.1) ∧ (ascells ats hs)[k * 3 + 2]? = some (hdV h.2)
  | [], _, k, a, h, h1, _ => by simp at h1
  | _ :: _, [], k, a, h, _, h2 => by simp at h2
  | a' :: ats, h' :: hs, 0, a, h, h1, h2 => by
    simp only [List.getElem?_cons_zero, Option.some.injEq] at h1 h2
    subst h1 h2; exact ⟨rfl, rfl, rfl⟩
  | a' :: ats, h' :: hs, k + 1, a, h, h1, h2 => by
    simp only [List.getElem?_cons_succ] at h1 h2
    have e : (k + 1) * 3 = k * 3 + 3 := by omega
    rw [e]
    exact ascells_get h1 h2
theorem ascells_snoc : ∀ (ats : List AD) (hs : List AH) (a : AD) (h : AH), ats.length = hs.length → ascells (ats ++ [a]) (hs ++ [h]) = ascells ats hs ++ acells a h
  | [], [], a, h, _ => rfl
  | a' :: ats, h' :: hs, a, h, e => by simp only [List.cons_append, ascells]; rw [ascells_snoc ats hs a h (by simpa using e)]

/-- The rows of an attribute. -/
structure RdA (w : World) (a : AD) (h : AH) : Prop where
  cuts : Rd w h.1.1 h.1.2.1 (a.cuts.map (Value.int .i64))
  vals : Rd w h.2.1 h.2.2.1 (a.vals.map Value.string)
theorem RdA.below {w w' : World} {B : Nat} {a : AD} {h : AH} (r : RdA w a h) (hb : Below B w w') (hB : w.heap.size ≤ B) : RdA w' a h := ⟨r.cuts.below hb hB, r.vals.below hb hB⟩
/-- A slice of attributes. -/
structure RdAS (w : World) (A : Option Addr) (n : Nat) (hs : List AH) (ats : List AD) : Prop where
  hd : Rd w A (n * 3) (ascells ats hs)
  len : ats.length = n
  hlen : hs.length = n
  row : ∀ (j : Nat) (h : AH) (a : AD), hs[j]? = some h → ats[j]? = some a → RdA w a h
theorem RdAS.below {w w' : World} {B : Nat} {A : Option Addr} {n : Nat} {hs : List AH} {ats : List AD} (r : RdAS w A n hs ats) (hb : Below B w w') (hB : w.heap.size ≤ B) : RdAS w' A n hs ats :=
  ⟨r.hd.below hb hB, r.len, r.hlen, fun j h a h1 h2 => (r.row j h a h1 h2).below hb hB⟩
theorem RdAS.get {w : World} {A : Option Addr} {n k : Nat} {hs : List AH} {ats : List AD} (r : RdAS w A n hs ats) (hk : k < n) :
    ∃ (h : AH) (a : AD) (b off : Nat), hs[k]? = some h ∧ ats[k]? = some a ∧ RdA w a h ∧ A = some ⟨b, off, none⟩ ∧ b < w.heap.size ∧
      w.cell? ⟨b, off + k * 3, none⟩ = some (.string a.nm) ∧ w.cell? ⟨b, off + k * 3 + 1, none⟩ = some (.slice h.1.1 h.1.2.1 h.1.2.2) ∧ w.cell? ⟨b, off + k * 3 + 2, none⟩ = some (.slice h.2.1 h.2.2.1 h.2.2.2) := by
  have h1 : k < hs.length := by rw [r.hlen]; exact hk
  have h2 : k < ats.length := by rw [r.len]; exact hk
  obtain ⟨b, off, hA, hlt, hc⟩ := r.hd.ex (by omega)
  obtain ⟨g1, g2, g3⟩ := ascells_get (List.getElem?_eq_getElem h2) (List.getElem?_eq_getElem h1)
  exact ⟨hs[k], ats[k], b, off, List.getElem?_eq_getElem h1, List.getElem?_eq_getElem h2, r.row k _ _ (List.getElem?_eq_getElem h1) (List.getElem?_eq_getElem h2), hA, hlt, hc _ _ g1, by rw [Nat.add_assoc]; exact hc _ _ g2, by rw [Nat.add_assoc]; exact hc _ _ g3⟩

/-- The sizes: an attribute's, the first k attributes'. -/
def atot (a : AD) : Nat := a.nm.size + a.cuts.length + (a.vals.length + bytesOf a.vals)
def asTo (ats : List AD) (k : Nat) : Nat := ((ats.map atot).take k).sum
def asTot (ats : List AD) : Nat := (ats.map atot).sum
theorem asTo_succ {ats : List AD} {k : Nat} {a : AD} (h : ats[k]? = some a) : asTo ats (k + 1) = asTo ats k + atot a := by
  obtain ⟨h1, h2⟩ := List.getElem?_eq_some_iff.1 h
  unfold asTo
  rw [sum_set _ _ (by simpa using h1)]
  simp [h2]
theorem asTo_le (ats : List AD) (k : Nat) : asTo ats k ≤ asTot ats := sum_take_le _ _
theorem asTo_all {ats : List AD} {n : Nat} (h : ats.length = n) : asTo ats n = asTot ats := by unfold asTo asTot; rw [List.take_of_length_le (by simp [h])]
theorem asTo_zero (ats : List AD) : asTo ats 0 = 0 := by simp [asTo]
theorem attr_le {ats : List AD} {k : Nat} {a : AD} (h : ats[k]? = some a) : atot a ≤ asTot ats := by have h1 := asTo_succ h; have h2 := asTo_le ats (k + 1); omega
def ADok (a : AD) : Prop := a.nm.size ≤ 9223372036854775807 ∧ ∀ s ∈ a.vals, s.size ≤ 9223372036854775807
def AHok (h : AH) : Prop := h.1.2.1 ≤ 9223372036854775807 ∧ h.2.2.1 ≤ 9223372036854775807
theorem same_set {W : World} {lo hi b off : Nat} {u : Value} (h : b < lo ∨ hi ≤ b) : Same lo hi W (W.setCell ⟨b, off, none⟩ u) := fun k h1 h2 => heap_setCell_other W ⟨b, off, none⟩ k u (by simp; omega)
theorem rdA_len {w : World} {a : AD} {h : AH} (r : RdA w a h) : a.cuts.length = h.1.2.1 ∧ a.vals.length = h.2.2.1 := ⟨by simpa using r.cuts.len, by simpa using r.vals.len⟩

set_option maxHeartbeats 1000000 in
theorem szAttr_any (a : AD) (h : AH) (left : Int) (w : World) (r : RdA w a h) (ho : ADok a) (hh : AHok h) (h0 : 0 ≤ left) (h1 : left ≤ 1048576) :
    Calls Tryd.prog 38 #[.agg #[.string a.nm, .slice h.1.1 h.1.2.1 h.1.2.2, .slice h.2.1 h.2.2.1 h.2.2.2], .int .i64 left] w fun e w' => e = .returned (.int .i64 (szI left (atot a))) ∧ Below w.heap.size w w' := by
  obtain ⟨e1, e2⟩ := rdA_len r
  obtain ⟨o1, o2⟩ := ho
  obtain ⟨p1, p2⟩ := hh
  have R := Lib.hid r
  have HO := Lib.hid o2
  have e3 : (atot a : Int) = a.nm.size + h.1.2.1 + (h.2.2.1 + (bytesOf a.vals : Nat)) := by unfold atot; omega
  have hb := below_alloc1 (w := w) (.cells #[.string a.nm, .slice h.1.1 h.1.2.1 h.1.2.2, .slice h.2.1 h.2.2.1 h.2.2.2] 68)
  have HB := Lib.hid hb
  have RV := Lib.hid (r.vals.below hb (Nat.le_refl _))
  obtain ⟨u, hu⟩ : ∃ u, bytesOf a.vals = u := ⟨_, rfl⟩
  have HU := Lib.hid hu
  rw [hu] at e3
  clear r o2 hb hu
  by_cases c1 : (a.nm.size : Int) ≤ left
  · by_cases c2 : (h.1.2.1 : Int) ≤ left - a.nm.size
    · have HT := Lib.hid (szI_yes c2)
      by_cases c3 : (h.2.2.1 : Int) + (u : Int) ≤ left - a.nm.size - h.1.2.1
      · have HT3 : Hid (szI (left - a.nm.size - h.1.2.1) ((h.2.2.1 : Int) + (bytesOf a.vals : Int)) = left - a.nm.size - h.1.2.1 - ((h.2.2.1 : Int) + (u : Int))) := by unfold Hid; rw [HU.out]; exact szI_yes c3
        have HS : Hid (szI left (atot a) = left - a.nm.size - h.1.2.1 - ((h.2.2.1 : Int) + (u : Int))) := by unfold Hid; rw [szI_yes (by omega), e3]; omega
        clear e3 e1 e2
        go_enter Tryd.func38, Tryd.ntmps38
        go_wp2_with fail
        refine (szIntS_any h.1.1 h.1.2.1 h.1.2.2 (left - a.nm.size) (by omega) (by omega) (by omega) _).mono ?_
        rw [HT.out]
        rintro e w1 ⟨rfl, rfl⟩
        go_wp2_with fail
        refine (szStringS_any h.2.1 h.2.2.1 h.2.2.2 a.vals (left - a.nm.size - h.1.2.1) _ (by omega) (by omega) (by omega) RV.out HO.out).mono ?_
        rw [HT3.out]
        rintro e w1 ⟨rfl, rfl⟩
        go_wp2_with fail
        go_ret
        exact ⟨by rw [HS.out]; rfl, HB.out⟩
      · have HT3 : Hid (szI (left - a.nm.size - h.1.2.1) ((h.2.2.1 : Int) + (bytesOf a.vals : Int)) = -1) := by unfold Hid; rw [HU.out]; exact szI_no (by omega)
        have HS : Hid (szI left (atot a) = -1) := szI_no (by omega)
        clear e3 e1 e2
        go_enter Tryd.func38, Tryd.ntmps38
        go_wp2_with fail
        refine (szIntS_any h.1.1 h.1.2.1 h.1.2.2 (left - a.nm.size) (by omega) (by omega) (by omega) _).mono ?_
        rw [HT.out]
        rintro e w1 ⟨rfl, rfl⟩
        go_wp2_with fail
        refine (szStringS_any h.2.1 h.2.2.1 h.2.2.2 a.vals (left - a.nm.size - h.1.2.1) _ (by omega) (by omega) (by omega) RV.out HO.out).mono ?_
        rw [HT3.out]
        rintro e w1 ⟨rfl, rfl⟩
        go_wp2_with fail
        go_ret
        exact ⟨by rw [HS.out]; rfl, HB.out⟩
    · have HT := Lib.hid (szI_no (left := left - a.nm.size) (n := h.1.2.1) (by omega))
      have HS : Hid (szI left (atot a) = -1) := szI_no (by omega)
      clear e3 e1 e2
      go_enter Tryd.func38, Tryd.ntmps38
      go_wp2_with fail
      refine (szIntS_any h.1.1 h.1.2.1 h.1.2.2 (left - a.nm.size) (by omega) (by omega) (by omega) _).mono ?_
      rw [HT.out]
      rintro e w1 ⟨rfl, rfl⟩
      go_wp2_with fail
      go_ret
      exact ⟨by rw [HS.out]; rfl, HB.out⟩
  · have HS : Hid (szI left (atot a) = -1) := szI_no (by omega)
    have c1' : left < (a.nm.size : Int) := by omega
    clear e3 e1 e2
    go_enter Tryd.func38, Tryd.ntmps38
    go_wp2_with fail
    go_ret
    exact ⟨by rw [HS.out]; rfl, HB.out⟩

set_option maxHeartbeats 1000000 in
theorem szAttrS_any (A : Option Addr) (n c : Nat) (hs : List AH) (ats : List AD) (left : Int) (w : World) (r : RdAS w A n hs ats) (ho : ∀ a ∈ ats, ADok a) (hh : ∀ h ∈ hs, AHok h) (h0 : 0 ≤ left) (h1 : left ≤ 1048576) (hn : n ≤ 9223372036854775807) :
    Calls Tryd.prog 19 #[.slice A n c, .int .i64 left] w fun e w' => e = .returned (.int .i64 (szI left ((n : Int) + (asTot ats : Int)))) ∧ Below w.heap.size w w' := by
  have R := Lib.hid r
  have HO := Lib.hid ho; have HH := Lib.hid hh
  clear r ho hh
  by_cases hl : left < n
  · have HS := Lib.hid (szI_no (left := left) (n := (n : Int) + (asTot ats : Int)) (by omega))
    go_enter Tryd.func19, Tryd.ntmps19
    go_wp2
    go_ret
    exact ⟨by rw [HS.out]; rfl, Below.refl _ _⟩
  · have hl' : (n : Int) ≤ left := by omega
    clear hl
    go_enter Tryd.func19, Tryd.ntmps19
    go_wp2
    go_loopw [1, 5] (fun ll i wr => ∃ k : Nat, k ≤ n ∧ i = .int .i64 k ∧ (n : Int) + (asTo ats k : Int) ≤ left ∧ ll = .int .i64 (left - ((n : Int) + (asTo ats k : Int))) ∧ Below w.heap.size w wr) (fun _ i _ => n - (intOf i).toNat)
    case atStart => exact ⟨0, Nat.zero_le _, rfl, by rw [asTo_zero]; omega, by rw [asTo_zero]; simp, Below.refl _ _⟩
    case round =>
      obtain ⟨k, hk, rfl, hle, rfl, hbel⟩ := hrel
      by_cases hlt : k < n
      · obtain ⟨h, a, b, off, hh, ha, hra, rfl, hbl, d0, d1, d2⟩ := R.out.get hlt
        have f0 : wr.cell? ⟨b, off + k * 3, none⟩ = some (.string a.nm) := (hbel.cell (p := ⟨b, off + k * 3, none⟩) hbl).trans d0
        have f1 : wr.cell? ⟨b, off + k * 3 + 1, none⟩ = some (.slice h.1.1 h.1.2.1 h.1.2.2) := (hbel.cell (p := ⟨b, off + k * 3 + 1, none⟩) hbl).trans d1
        have f2 : wr.cell? ⟨b, off + k * 3 + 2, none⟩ = some (.slice h.2.1 h.2.2.1 h.2.2.2) := (hbel.cell (p := ⟨b, off + k * 3 + 2, none⟩) hbl).trans d2
        have HRA := Lib.hid (hra.below hbel (Nat.le_refl _))
        have HAO := Lib.hid (HO.out a (List.mem_of_getElem? ha)); have HHO := Lib.hid (HH.out h (List.mem_of_getElem? hh))
        have hup := asTo_succ ha
        have hup2 := asTo_le ats (k + 1)
        have HBel := Lib.hid hbel
        obtain ⟨u, hu⟩ : ∃ u, asTo ats k = u := ⟨_, rfl⟩
        rw [hu] at hup hle ⊢
        have HUP := Lib.hid hup
        by_cases hq : left - ((n : Int) + (u : Int)) < (atot a : Int)
        · have HT := Lib.hid (szI_no hq)
          have HS := Lib.hid (szI_no (left := left) (n := (n : Int) + (asTot ats : Int)) (by omega))
          clear hra hbel hh ha d0 d1 d2 hup hup2 hu
          go_wp2_with fail
          refine (szAttr_any a h _ _ HRA.out HAO.out HHO.out (by omega) (by omega)).mono ?_
          rw [HT.out]
          rintro e w' ⟨rfl, b2⟩
          have HB2 := Lib.hid (HBel.out.trans (b2.mono HBel.out.size))
          clear b2
          go_wp2_with fail
          go_ret
          exact ⟨by rw [HS.out]; rfl, HB2.out⟩
        · have HT := Lib.hid (szI_yes (left := left - ((n : Int) + (u : Int))) (n := (atot a : Int)) (by omega))
          clear hra hbel hh ha d0 d1 d2 hup hup2 hu
          go_wp2_with fail
          refine (szAttr_any a h _ _ HRA.out HAO.out HHO.out (by omega) (by omega)).mono ?_
          rw [HT.out]
          rintro e w' ⟨rfl, b2⟩
          have HB2 := Lib.hid (HBel.out.trans (b2.mono HBel.out.size))
          clear b2
          go_wp2_with fail
          go_roundw
          case rel => exact ⟨k + 1, by omega, by go_num, by rw [HUP.out]; omega, by rw [HUP.out]; congr 1; omega, HB2.out⟩
          case measure => simp [intOf]; omega
      · obtain rfl : k = n := by omega
        have HS := Lib.hid (szI_yes (left := left) (n := (k : Int) + (asTot ats : Int)) (by rw [← asTo_all R.out.len]; exact hle))
        have HU := Lib.hid (asTo_all R.out.len)
        have HBel := Lib.hid hbel
        clear hbel
        rw [HU.out] at hle
        go_wp2
        go_ret
        exact ⟨by rw [HS.out, HU.out]; rfl, HBel.out⟩

set_option maxHeartbeats 1000000 in
theorem szSchema_any (A C : Option Addr) (n c m d : Nat) (hs : List AH) (ats : List AD) (cs : List ByteArray) (left : Int) (w : World) (r : RdAS w A n hs ats) (rc : Rd w C m (cs.map Value.string)) (ho : ∀ a ∈ ats, ADok a) (hh : ∀ h ∈ hs, AHok h) (hc : ∀ s ∈ cs, s.size ≤ 9223372036854775807) (h0 : 0 ≤ left) (h1 : left ≤ 1048576) (hn : n ≤ 9223372036854775807) (hm : m ≤ 9223372036854775807) :
    Calls Tryd.prog 5 #[.agg #[.slice A n c, .slice C m d], .int .i64 left] w fun e w' => e = .returned (.int .i64 (szI left ((n : Int) + (asTot ats : Int) + ((m : Int) + (bytesOf cs : Int))))) ∧ Below w.heap.size w w' := by
  have hb := below_alloc1 (w := w) (.cells #[.slice A n c, .slice C m d] 25)
  have HB := Lib.hid hb
  have R := Lib.hid (r.below hb (Nat.le_refl _)); have RC := Lib.hid (rc.below hb (Nat.le_refl _))
  have HC := Lib.hid hc
  clear r rc hb hc
  obtain ⟨u, hu⟩ : ∃ u, asTot ats = u := ⟨_, rfl⟩
  obtain ⟨v, hv⟩ : ∃ v, bytesOf cs = v := ⟨_, rfl⟩
  by_cases c1 : (n : Int) + (u : Int) ≤ left
  · have HT := Lib.hid (szI_yes c1)
    by_cases c2 : (m : Int) + (v : Int) ≤ left - ((n : Int) + (u : Int))
    · have HT2 := Lib.hid (szI_yes c2)
      have HS : Hid (szI left ((n : Int) + (asTot ats : Int) + ((m : Int) + (bytesOf cs : Int))) = left - ((n : Int) + (u : Int)) - ((m : Int) + (v : Int))) := by unfold Hid; rw [hu, hv, szI_yes (by omega)]; omega
      go_enter Tryd.func5, Tryd.ntmps5
      go_wp2_with fail
      refine (szAttrS_any A n c hs ats left _ R.out ho hh h0 h1 hn).mono ?_
      rw [hu, HT.out]
      rintro e w1 ⟨rfl, b1⟩
      obtain ⟨bc, bf, bz⟩ := bcell b1
      have c01 : w1.cell? ⟨w.heap.size, 1, none⟩ = some (.slice C m d) := by rw [bc _ _ (by simp)]; simp [go_sem]
      have RC1 := Lib.hid (RC.out.below b1 (Nat.le_refl _))
      have HB1 := Lib.hid (HB.out.trans (b1.mono HB.out.size))
      clear b1 bc bf bz
      go_wp2_with fail
      refine (szStringS_any C m d cs _ _ (by omega) (by omega) hm RC1.out HC.out).mono ?_
      rw [hv, HT2.out]
      rintro e w2 ⟨rfl, rfl⟩
      go_wp2_with fail
      go_ret
      exact ⟨by rw [HS.out]; rfl, HB1.out⟩
    · have HT2 := Lib.hid (szI_no (left := left - ((n : Int) + (u : Int))) (n := (m : Int) + (v : Int)) (by omega))
      have HS : Hid (szI left ((n : Int) + (asTot ats : Int) + ((m : Int) + (bytesOf cs : Int))) = -1) := by unfold Hid; rw [hu, hv]; exact szI_no (by omega)
      go_enter Tryd.func5, Tryd.ntmps5
      go_wp2_with fail
      refine (szAttrS_any A n c hs ats left _ R.out ho hh h0 h1 hn).mono ?_
      rw [hu, HT.out]
      rintro e w1 ⟨rfl, b1⟩
      obtain ⟨bc, bf, bz⟩ := bcell b1
      have c01 : w1.cell? ⟨w.heap.size, 1, none⟩ = some (.slice C m d) := by rw [bc _ _ (by simp)]; simp [go_sem]
      have RC1 := Lib.hid (RC.out.below b1 (Nat.le_refl _))
      have HB1 := Lib.hid (HB.out.trans (b1.mono HB.out.size))
      clear b1 bc bf bz
      go_wp2_with fail
      refine (szStringS_any C m d cs _ _ (by omega) (by omega) hm RC1.out HC.out).mono ?_
      rw [hv, HT2.out]
      rintro e w2 ⟨rfl, rfl⟩
      go_wp2_with fail
      go_ret
      exact ⟨by rw [HS.out]; rfl, HB1.out⟩
  · have HT := Lib.hid (szI_no (left := left) (n := (n : Int) + (u : Int)) (by omega))
    have HS : Hid (szI left ((n : Int) + (asTot ats : Int) + ((m : Int) + (bytesOf cs : Int))) = -1) := by unfold Hid; rw [hu, hv]; exact szI_no (by omega)
    go_enter Tryd.func5, Tryd.ntmps5
    go_wp2_with fail
    refine (szAttrS_any A n c hs ats left _ R.out ho hh h0 h1 hn).mono ?_
    rw [hu, HT.out]
    rintro e w1 ⟨rfl, b1⟩
    have HB1 := Lib.hid (HB.out.trans (b1.mono HB.out.size))
    clear b1
    go_wp2_with fail
    go_ret
    exact ⟨by rw [HS.out]; rfl, HB1.out⟩

end Go.Proofs.YtchkmcikpamdeaaDoor
