/-
  SchemaOk and the number of bins, in both packages.
-/
import Derived.Test.YtchkmcikpamdeaaDoorAttrs
import Derived.Test.YtchkmcikpamdeaaDoorSchW
namespace Go.Proofs.YtchkmcikpamdeaaDoor
open Go.RowKit
set_option linter.unusedSimpArgs false
set_option linter.unusedVariables false

/-- What the walks ask of a schema by value: its reading, its sizes, its capacities. -/
structure Sch (w : World) (A C : Option Addr) (n m d : Nat) (hs : List AH) (ats : List AD) (cs : List ByteArray) : Prop where
  rd : RdSch w A C n m hs ats cs
  hn : n ≤ 1048576
  hb : asTot ats ≤ 1048576
  hm : m ≤ 1048576
  cap : ∀ h ∈ hs, h.2.2.1 ≤ h.2.2.2
  md : m ≤ d
  ok : ∀ a ∈ ats, ADok a
  cok : ∀ s ∈ cs, s.size ≤ 9223372036854775807
theorem Sch.below {w w' : World} {B : Nat} {A C : Option Addr} {n m d : Nat} {hs : List AH} {ats : List AD} {cs : List ByteArray} (r : Sch w A C n m d hs ats cs) (hb : Below B w w') (hB : w.heap.size ≤ B) : Sch w' A C n m d hs ats cs :=
  ⟨r.rd.below hb hB, r.hn, r.hb, r.hm, r.cap, r.md, r.ok, r.cok⟩
theorem Sch.lenA {w : World} {A C : Option Addr} {n m d : Nat} {hs : List AH} {ats : List AD} {cs : List ByteArray} (r : Sch w A C n m d hs ats cs) : ats.length = n := r.rd.at_.len
theorem Sch.lenC {w : World} {A C : Option Addr} {n m d : Nat} {hs : List AH} {ats : List AD} {cs : List ByteArray} (r : Sch w A C n m d hs ats cs) : cs.length = m := by simpa using r.rd.cl.len
/-- An attribute of it, with all that AttrOk asks. -/
structure AttrC (w : World) (a : AD) (h : AH) : Prop where
  rd : RdA w a h
  c : a.cuts.length ≤ 1048576
  v : a.vals.length ≤ 1048576
  cap : h.2.2.1 ≤ h.2.2.2
  s : a.nm.size ≤ 9223372036854775807
  vs : ∀ s ∈ a.vals, s.size ≤ 9223372036854775807
theorem AttrC.below {w w' : World} {B : Nat} {a : AD} {h : AH} (r : AttrC w a h) (hb : Below B w w') (hB : w.heap.size ≤ B) : AttrC w' a h := ⟨r.rd.below hb hB, r.c, r.v, r.cap, r.s, r.vs⟩
theorem Sch.get {w : World} {A C : Option Addr} {n m d k : Nat} {hs : List AH} {ats : List AD} {cs : List ByteArray} (r : Sch w A C n m d hs ats cs) (hk : k < n) :
    ∃ (h : AH) (a : AD) (b off : Nat), ats[k]? = some a ∧ AttrC w a h ∧ A = some ⟨b, off, none⟩ ∧ b < w.heap.size ∧
      w.cell? ⟨b, off + k * 3, none⟩ = some (.string a.nm) ∧ w.cell? ⟨b, off + k * 3 + 1, none⟩ = some (.slice h.1.1 h.1.2.1 h.1.2.2) ∧ w.cell? ⟨b, off + k * 3 + 2, none⟩ = some (.slice h.2.1 h.2.2.1 h.2.2.2) := by
  obtain ⟨h, a, b, off, hh, ha, hra, hA, hbl, d0, d1, d2⟩ := r.rd.at_.get hk
  have hat := Nat.le_trans (attr_le ha) r.hb
  have hok := r.ok a (List.mem_of_getElem? ha)
  exact ⟨h, a, b, off, ha, ⟨hra, by unfold atot at hat; omega, by unfold atot at hat; omega, r.cap h (List.mem_of_getElem? hh), hok.1, hok.2⟩, hA, hbl, d0, d1, d2⟩
theorem iAttrOk_c {a : AD} {h : AH} {w : World} (r : AttrC w a h) : Calls Tryd.prog 49 #[.agg #[.string a.nm, .slice h.1.1 h.1.2.1 h.1.2.2, .slice h.2.1 h.2.2.1 h.2.2.2]] w fun e w' => e = .returned (.bool (attrB a)) ∧ Below w.heap.size w w' :=
  iAttrOk_any a h w r.rd r.c r.v r.cap r.s r.vs
theorem sAttrOk_c {a : AD} {h : AH} {w : World} (r : AttrC w a h) : Calls Tryd.prog 47 #[.agg #[.string a.nm, .slice h.1.1 h.1.2.1 h.1.2.2, .slice h.2.1 h.2.2.1 h.2.2.2]] w fun e w' => e = .returned (.bool (attrB a)) ∧ Below w.heap.size w w' :=
  sAttrOk_any a h w r.rd r.c r.v r.cap r.s r.vs
theorem schB_attr {ats : List AD} {cs : List ByteArray} {k : Nat} {a : AD} (ha : ats[k]? = some a) (h : attrB a = false) : schB ats cs = false := by
  have : ats.all attrB = false := by rw [List.all_eq_false]; exact ⟨a, List.mem_of_getElem? ha, by simp [h]⟩
  unfold schB; rw [this, Bool.and_false, Bool.false_and]
theorem schB_names {ats : List AD} {cs : List ByteArray} (h : wordsB (ats.map AD.nm) = false) : schB ats cs = false := by unfold schB; rw [h, Bool.and_false]
theorem schB_good {ats : List AD} {cs : List ByteArray} (h1 : inB ats.length 1 5 = true) (h2 : inB cs.length 2 3 = true) (h3 : wordsB cs = true) (h4 : ∀ (k : Nat) (a : AD), ats[k]? = some a → attrB a = true) : schB ats cs = wordsB (ats.map AD.nm) := by
  have : ats.all attrB = true := by rw [List.all_eq_true]; intro a ha; obtain ⟨k, hk⟩ := List.getElem?_of_mem ha; exact h4 k a hk
  unfold schB; rw [h1, h2, h3, this]; rfl
theorem attrB_word {a : AD} (h : attrB a = true) : wordB a.nm = true := by unfold attrB at h; rw [Bool.and_eq_true] at h; exact h.1
theorem nm_get {ats : List AD} {k : Nat} {a : AD} (h : ats[k]? = some a) : (ats.map AD.nm)[k]? = some a.nm := by simp [h]
theorem nm_get' {ats : List AD} {k : Nat} {s : ByteArray} (h : (ats.map AD.nm)[k]? = some s) : ∃ a, ats[k]? = some a ∧ s = a.nm := by
  simp only [List.getElem?_map, Option.map_eq_some_iff] at h
  obtain ⟨a, h1, h2⟩ := h
  exact ⟨a, h1, h2.symm⟩
theorem own_cap {w : World} {base : Nat} {e : TypeId} {size n c : Nat} {A : Option Addr} {xs : List Value} (h : w.ownsRow base e size (.slice A n c) n xs) : n ≤ c := by
  rcases h.2 with ⟨hv, h0⟩ | ⟨g, cap, cur, hv, _, _, hc, _⟩
  · omega
  · injection hv with _ _ e; omega

set_option maxHeartbeats 4000000 in
theorem sSchemaOk_any (A C : Option Addr) (n c m d : Nat) (hs : List AH) (ats : List AD) (cs : List ByteArray) (w : World) (r : Sch w A C n m d hs ats cs) :
    Calls Tryd.prog 33 #[.agg #[.slice A n c, .slice C m d]] w fun e w' => e = .returned (.bool (schB ats cs)) ∧ Below w.heap.size w w' := by
  have HB := Lib.hid (below_alloc1 (w := w) (.cells #[.slice A n c, .slice C m d] 32))
  have R := Lib.hid (r.below HB.out (Nat.le_refl _))
  have HL := Lib.hid r.lenA; have HC := Lib.hid r.lenC
  have hn := r.hn; have hm := r.hm
  clear r
  cases h1 : inB n 1 5
  · have HV : Hid (schB ats cs = false) := by unfold Hid schB; rw [HL.out, h1]; rfl
    go_enter Tryd.func33, Tryd.ntmps33
    go_wp2_with (first | (go_at_call 34; refine (l1In_any _ _ _ _).mono ?_; (first | rw [h1] | rw [h2]); rintro e w' ⟨rfl, rfl⟩))
    go_ret
    exact ⟨by rw [HV.out]; rfl, HB.out⟩
  · have H1 := Lib.hid h1
    cases h2 : inB m 2 3
    · have HV : Hid (schB ats cs = false) := by unfold Hid schB; rw [HL.out, HC.out, h1, h2]; rfl
      go_enter Tryd.func33, Tryd.ntmps33
      go_wp2_with (first | (go_at_call 34; refine (l1In_any _ _ _ _).mono ?_; (first | rw [h1] | rw [h2]); rintro e w' ⟨rfl, rfl⟩))
      go_ret
      exact ⟨by rw [HV.out]; rfl, HB.out⟩
    · have H2 := Lib.hid h2
      cases h3 : wordsB cs
      · have HV : Hid (schB ats cs = false) := by unfold Hid schB; rw [HL.out, HC.out, h1, h2, h3]; rfl
        go_enter Tryd.func33, Tryd.ntmps33
        go_wp2_with (first | (go_at_call 34; refine (l1In_any _ _ _ _).mono ?_; (first | rw [h1] | rw [h2]); rintro e w' ⟨rfl, rfl⟩) | (go_at_call 46; refine (sWords_any C m d cs _ R.out.rd.cl hm R.out.cok).mono ?_; rw [h3]; rintro e w2 ⟨rfl, b2⟩; have HB2 := Lib.hid (HB.out.trans (b2.mono HB.out.size)); have HBx := Lib.hid b2; clear b2))
        go_ret
        exact ⟨by rw [HV.out]; rfl, HB2.out⟩
      · have H3 := Lib.hid h3
        have C0 : Hid ((w.alloc (.cells #[.slice A n c, .slice C m d] 32)).cell? ⟨w.heap.size, 0, none⟩ = some (.slice A n c)) := Lib.hid (by simp [go_sem])
        have hzz : w.heap.size < (w.alloc (.cells #[.slice A n c, .slice C m d] 32)).heap.size := by simp
        go_enter Tryd.func33, Tryd.ntmps33
        go_wp2_with (first | (go_at_call 34; refine (l1In_any _ _ _ _).mono ?_; (first | rw [h1] | rw [h2]); rintro e w' ⟨rfl, rfl⟩) | (go_at_call 46; refine (sWords_any C m d cs _ R.out.rd.cl hm R.out.cok).mono ?_; rw [h3]; rintro e w2 ⟨rfl, b2⟩; have HB2 := Lib.hid (HB.out.trans (b2.mono HB.out.size)); have HBx := Lib.hid b2; clear b2))
        have c0' : w2.cell? ⟨w.heap.size, 0, none⟩ = some (.slice A n c) := (HBx.out.cell (p := ⟨w.heap.size, 0, none⟩) hzz).trans C0.out
        go_wp2_with fail
        obtain ⟨W1, hW1⟩ : ∃ W1, W1 = (w.alloc (.cells #[.slice A n c, .slice C m d] 32)) := ⟨_, rfl⟩
        rw [← hW1] at HB R C0 hzz HBx
        clear hW1 c0' h1 h2 h3
        go_loopw [3] (fun i wr => ∃ k : Nat, k ≤ n ∧ i = .int .i64 k ∧ Hid (∀ (j : Nat) (a : AD), j < k → ats[j]? = some a → attrB a = true ∧ hasB ((ats.map AD.nm).take j) a.nm = false) ∧ Below W1.heap.size W1 wr) (fun i _ => n - (intOf i).toNat)
        case atStart => exact ⟨0, Nat.zero_le _, rfl, (fun j a hj => absurd hj (by omega)), HBx.out⟩
        case round =>
          obtain ⟨k, hk, rfl, hgood, hbel⟩ := hrel
          have HBel := Lib.hid hbel
          clear hbel
          have c0 : wr.cell? ⟨w.heap.size, 0, none⟩ = some (.slice A n c) := (HBel.out.cell (p := ⟨w.heap.size, 0, none⟩) hzz).trans C0.out
          by_cases hlt : k < n
          · obtain ⟨h, a, b, off, ha, hra, rfl, hbl, d0, d1, d2⟩ := R.out.get hlt
            have f0 : wr.cell? ⟨b, off + k * 3, none⟩ = some (.string a.nm) := (HBel.out.cell (p := ⟨b, off + k * 3, none⟩) hbl).trans d0
            have f1 : wr.cell? ⟨b, off + k * 3 + 1, none⟩ = some (.slice h.1.1 h.1.2.1 h.1.2.2) := (HBel.out.cell (p := ⟨b, off + k * 3 + 1, none⟩) hbl).trans d1
            have f2 : wr.cell? ⟨b, off + k * 3 + 2, none⟩ = some (.slice h.2.1 h.2.2.1 h.2.2.2) := (HBel.out.cell (p := ⟨b, off + k * 3 + 2, none⟩) hbl).trans d2
            have HAC := Lib.hid (hra.below HBel.out (Nat.le_refl _))
            have HA := Lib.hid ha
            have D0 := Lib.hid d0
            have n0 : (0 : Int) ≤ (k : Int) := Int.natCast_nonneg _
            have n1 : (k : Int) < (n : Int) := by omega
            clear ha hra d0 d1 d2
            cases hab : attrB a
            · have HV := Lib.hid (schB_attr (cs := cs) HA.out hab)
              go_wp2_with fail
              refine (sAttrOk_c HAC.out).mono ?_
              rw [hab]
              rintro e w3 ⟨rfl, b3⟩
              have HB3 := Lib.hid (HB.out.trans ((HBel.out.trans (b3.mono HBel.out.size)).mono HB.out.size))
              clear b3
              go_wp2_with fail
              go_ret
              exact ⟨by rw [HV.out]; rfl, HB3.out⟩
            · have HAB := Lib.hid hab
              go_wp2_with fail
              refine (sAttrOk_c HAC.out).mono ?_
              rw [hab]
              rintro e w3 ⟨rfl, b3⟩
              have HB3 := Lib.hid (HBel.out.trans (b3.mono HBel.out.size))
              clear b3 c0 f0 f1 f2 hab
              go_wp2_with fail
              go_loopw [4] (fun i wr => ∃ t : Nat, t ≤ k ∧ i = .int .i64 t ∧ Hid (∀ (j : Nat) (u : AD), j < t → ats[j]? = some u → ¬ a.nm = u.nm) ∧ Below W1.heap.size W1 wr) (fun i _ => k - (intOf i).toNat)
              case atStart => exact ⟨0, Nat.zero_le _, rfl, (fun j u hj => absurd hj (by omega)), HB3.out⟩
              case round =>
                obtain ⟨t, ht, rfl, hne, hbel2⟩ := hrel
                have HBel2 := Lib.hid hbel2
                clear hbel2
                have c0 : wr.cell? ⟨w.heap.size, 0, none⟩ = some (.slice (some ⟨b, off, none⟩) n c) := (HBel2.out.cell (p := ⟨w.heap.size, 0, none⟩) hzz).trans C0.out
                have f0 : wr.cell? ⟨b, off + k * 3, none⟩ = some (.string a.nm) := (HBel2.out.cell (p := ⟨b, off + k * 3, none⟩) hbl).trans D0.out
                by_cases hltt : t < k
                · obtain ⟨h', x, b', off', hx, hrx, hA', hbl', d0, d1, d2⟩ := R.out.get (show t < n by omega)
                  obtain ⟨rfl, rfl⟩ : b' = b ∧ off' = off := by injection hA' with e; injection e with e1 e2 _; exact ⟨e1.symm, e2.symm⟩
                  have g0 : wr.cell? ⟨b', off' + t * 3, none⟩ = some (.string x.nm) := (HBel2.out.cell (p := ⟨b', off' + t * 3, none⟩) hbl').trans d0
                  have HX := Lib.hid hx
                  have m0 : (0 : Int) ≤ (t : Int) := Int.natCast_nonneg _
                  have m1 : (t : Int) < (n : Int) := by omega
                  clear hx hrx hA' d0 d1 d2
                  by_cases hxy : a.nm = x.nm
                  · have hb1 : (a.nm.toList == x.nm.toList) = true := (Lib.bytes_beq_iff _ _).2 hxy
                    have HV : Hid (schB ats cs = false) := by
                      refine schB_names (wordsB_bad2 (nm_get HA.out) (cont_yes (j := t) ?_))
                      rw [List.getElem?_take, if_pos hltt, nm_get HX.out, hxy]
                    clear hxy
                    go_wp2
                    go_quiet (fail)
                    go_wp2
                    go_ret
                    exact ⟨by rw [HV.out]; rfl, HB.out.trans ((Below.trans HBel2.out (by repeat (first | exact Below.refl _ _ | apply below_drewN | apply Below.drew))).mono HB.out.size)⟩
                  · have hb1 : (a.nm.toList == x.nm.toList) = false := (Lib.bytes_beq_false_iff _ _).2 hxy
                    have HXY := Lib.hid hxy
                    clear hxy
                    go_wp2
                    go_quiet (fail)
                    go_wp2
                    go_roundw
                    case rel =>
                      refine ⟨t + 1, by omega, by go_num, (fun j u hj hu => ?_), Below.trans HBel2.out (by repeat (first | exact Below.refl _ _ | apply below_drewN | apply Below.drew))⟩
                      rcases Nat.lt_or_ge j t with h1 | h1
                      · exact hne.out j u h1 hu
                      · obtain rfl : j = t := by omega
                        rw [HX.out] at hu
                        obtain rfl := Option.some.inj hu
                        exact HXY.out
                    case measure => simp [intOf]; omega
                · obtain rfl : t = k := by omega
                  clear c0 f0
                  go_wp2
                  go_roundw
                  case rel =>
                    refine ⟨t + 1, by omega, by go_num, (fun j u hj hu => ?_), HBel2.out⟩
                    rcases Nat.lt_or_ge j t with h1 | h1
                    · exact hgood.out j u h1 hu
                    · obtain rfl : j = t := by omega
                      rw [HA.out] at hu
                      obtain rfl := Option.some.inj hu
                      refine ⟨HAB.out, cont_no fun i v hv => ?_⟩
                      rw [List.getElem?_take] at hv
                      split at hv
                      · rename_i hi
                        obtain ⟨z, hz, rfl⟩ := nm_get' hv
                        exact hne.out i z hi hz
                      · cases hv
                  case measure => simp [intOf]; omega
          · obtain rfl : k = n := by omega
            have HV : Hid (schB ats cs = true) := by
              have hlt' : ∀ (j : Nat) (a : AD), ats[j]? = some a → j < k := fun j a hj => by have := (List.getElem?_eq_some_iff.1 hj).1; rw [HL.out] at this; exact this
              unfold Hid
              rw [schB_good (by rw [HL.out]; exact H1.out) (by rw [HC.out]; exact H2.out) H3.out (fun j a hj => (hgood.out j a (hlt' j a hj) hj).1)]
              refine wordsB_good fun j s hj => ?_
              obtain ⟨a, ha, rfl⟩ := nm_get' hj
              have := hgood.out j a (hlt' j a ha) ha
              exact ⟨attrB_word this.1, this.2⟩
            go_wp2
            go_ret
            exact ⟨by rw [HV.out]; rfl, HB.out.trans (HBel.out.mono HB.out.size)⟩

set_option maxHeartbeats 4000000 in
theorem iSchemaOk_any (A C : Option Addr) (n c m d : Nat) (hs : List AH) (ats : List AD) (cs : List ByteArray) (w : World) (r : Sch w A C n m d hs ats cs) :
    Calls Tryd.prog 35 #[.agg #[.slice A n c, .slice C m d]] w fun e w' => e = .returned (.bool (schB ats cs)) ∧ Below w.heap.size w w' := by
  have HB := Lib.hid (below_alloc1 (w := w) (.cells #[.slice A n c, .slice C m d] 32))
  have R := Lib.hid (r.below HB.out (Nat.le_refl _))
  have HL := Lib.hid r.lenA; have HC := Lib.hid r.lenC
  have hn := r.hn; have hm := r.hm
  clear r
  cases h1 : inB n 1 5
  · have HV : Hid (schB ats cs = false) := by unfold Hid schB; rw [HL.out, h1]; rfl
    go_enter Tryd.func35, Tryd.ntmps35
    go_wp2_with (first | (go_at_call 37; refine (within_any _ _ _ _).mono ?_; (first | rw [h1] | rw [h2]); rintro e w' ⟨rfl, rfl⟩))
    go_ret
    exact ⟨by rw [HV.out]; rfl, HB.out⟩
  · have H1 := Lib.hid h1
    cases h2 : inB m 2 3
    · have HV : Hid (schB ats cs = false) := by unfold Hid schB; rw [HL.out, HC.out, h1, h2]; rfl
      go_enter Tryd.func35, Tryd.ntmps35
      go_wp2_with (first | (go_at_call 37; refine (within_any _ _ _ _).mono ?_; (first | rw [h1] | rw [h2]); rintro e w' ⟨rfl, rfl⟩))
      go_ret
      exact ⟨by rw [HV.out]; rfl, HB.out⟩
    · have H2 := Lib.hid h2
      cases h3 : wordsB cs
      · have HV : Hid (schB ats cs = false) := by unfold Hid schB; rw [HL.out, HC.out, h1, h2, h3]; rfl
        go_enter Tryd.func35, Tryd.ntmps35
        go_wp2_with (first | (go_at_call 37; refine (within_any _ _ _ _).mono ?_; (first | rw [h1] | rw [h2]); rintro e w' ⟨rfl, rfl⟩) | (go_at_call 48; refine (iWords_any C m d cs _ R.out.rd.cl hm R.out.md R.out.cok).mono ?_; rw [h3]; rintro e w' ⟨rfl, rfl⟩))
        go_ret
        exact ⟨by rw [HV.out]; rfl, HB.out⟩
      · have H3 := Lib.hid h3
        have C0 : Hid ((w.alloc (.cells #[.slice A n c, .slice C m d] 32)).cell? ⟨w.heap.size, 0, none⟩ = some (.slice A n c)) := Lib.hid (by simp [go_sem])
        have hzz : (w.alloc (.cells #[.slice A n c, .slice C m d] 32)).heap.size = w.heap.size + 1 := by simp
        obtain ⟨i0, hi0, hz0, hz1, hz2⟩ := info_parts info_StringS
        have HI := Lib.hid hi0; have HZ := Lib.hid hz0; have HZ1 := Lib.hid hz1; have HZ2 := Lib.hid hz2
        clear hi0 hz0 hz1 hz2
        have HE : Hid (((w.alloc (.cells #[.slice A n c, .slice C m d] 32)).alloc (.cells #[] 9)).ownsRow (w.heap.size + 1) 9 1 (.slice (some ⟨w.heap.size + 1, 0, none⟩) 0 0) 0 (((ats.map AD.nm).take 0).map Value.string)) := by
          have := World.ownsRow_lit (base := w.heap.size + 1) (e := 9) (size := 1) (w.alloc (.cells #[.slice A n c, .slice C m d] 32)) #[] 0 (by simp) (by simp [maxLen]) rfl
          unfold Hid; simpa using this
        have HBE := Lib.hid ((Below.refl (w.heap.size + 1) (w.alloc (.cells #[.slice A n c, .slice C m d] 32))).alloc (by simp) (.cells #[] 9))
        have c0' : ((w.alloc (.cells #[.slice A n c, .slice C m d] 32)).alloc (.cells #[] 9)).cell? ⟨w.heap.size, 0, none⟩ = some (.slice A n c) := by simp [go_sem, World.cell?_alloc_past]
        go_enter Tryd.func35, Tryd.ntmps35
        go_wp2_with (first | (go_at_call 37; refine (within_any _ _ _ _).mono ?_; (first | rw [h1] | rw [h2]); rintro e w' ⟨rfl, rfl⟩) | (go_at_call 48; refine (iWords_any C m d cs _ R.out.rd.cl hm R.out.md R.out.cok).mono ?_; rw [h3]; rintro e w' ⟨rfl, rfl⟩))
        obtain ⟨W1, hW1⟩ : ∃ W1, W1 = (w.alloc (.cells #[.slice A n c, .slice C m d] 32)) := ⟨_, rfl⟩
        rw [← hW1] at HB R C0 hzz HBE HE ⊢
        clear c0' h1 h2 h3 hW1
        go_loopw [3, 28] (fun out i wr => ∃ (k : Nat) (A' : Option Addr) (c' : Nat), k ≤ n ∧ i = .int .i64 k ∧ out = .slice A' k c' ∧ Hid (∀ (j : Nat) (a : AD), j < k → ats[j]? = some a → attrB a = true) ∧ wr.ownsRow (w.heap.size + 1) 9 1 (.slice A' k c') k (((ats.map AD.nm).take k).map Value.string) ∧ Below (w.heap.size + 1) W1 wr) (fun _ i _ => n - (intOf i).toNat)
        case atStart => exact ⟨0, _, _, Nat.zero_le _, rfl, rfl, (fun j a hj => absurd hj (by omega)), HE.out, HBE.out⟩
        case round =>
          clear HE HBE
          obtain ⟨k, A', c', hk, rfl, rfl, hgood, hown, hbel⟩ := hrel
          have HBel := Lib.hid hbel; have HOwn := Lib.hid hown
          have hsz : w.heap.size + 1 ≤ wr.heap.size := by have := hbel.size; omega
          clear hbel hown
          by_cases hlt : k < n
          · obtain ⟨h, a, b, off, ha, hra, rfl, hbl, d0, d1, d2⟩ := R.out.get hlt
            rw [hzz] at hbl
            have f0 : wr.cell? ⟨b, off + k * 3, none⟩ = some (.string a.nm) := (HBel.out.cell (p := ⟨b, off + k * 3, none⟩) hbl).trans d0
            have f1 : wr.cell? ⟨b, off + k * 3 + 1, none⟩ = some (.slice h.1.1 h.1.2.1 h.1.2.2) := (HBel.out.cell (p := ⟨b, off + k * 3 + 1, none⟩) hbl).trans d1
            have f2 : wr.cell? ⟨b, off + k * 3 + 2, none⟩ = some (.slice h.2.1 h.2.2.1 h.2.2.2) := (HBel.out.cell (p := ⟨b, off + k * 3 + 2, none⟩) hbl).trans d2
            have hb2 := HBel.out.alloc hsz (.cells #[.string a.nm, .slice h.1.1 h.1.2.1 h.1.2.2, .slice h.2.1 h.2.2.1 h.2.2.2] 52)
            have HAC := Lib.hid (hra.below hb2 (by omega))
            have HB2 := Lib.hid hb2
            have HOwn2 := Lib.hid (HOwn.out.alloc (.cells #[.string a.nm, .slice h.1.1 h.1.2.1 h.1.2.2, .slice h.2.1 h.2.2.1 h.2.2.2] 52))
            have HA := Lib.hid ha
            have G0 : Hid ((wr.alloc (.cells #[.string a.nm, .slice h.1.1 h.1.2.1 h.1.2.2, .slice h.2.1 h.2.2.1 h.2.2.2] 52)).cell? ⟨wr.heap.size, 0, none⟩ = some (.string a.nm)) := Lib.hid (by simp [go_sem])
            clear ha hra d0 d1 d2 hb2
            cases hab : attrB a
            · have HV := Lib.hid (schB_attr (cs := cs) HA.out hab)
              go_wp2_with fail
              refine (iAttrOk_c HAC.out).mono ?_
              rw [hab]
              rintro e w3 ⟨rfl, b3⟩
              have HB3 := Lib.hid (HB.out.trans ((HB2.out.trans (b3.mono (by simp; omega))).mono (by omega)))
              clear b3
              go_wp2_with fail
              go_ret
              exact ⟨by rw [HV.out]; rfl, HB3.out⟩
            · have HAB := Lib.hid hab
              have HTake : Hid (((ats.map AD.nm).take (k + 1)).map Value.string = ((ats.map AD.nm).take k).map Value.string ++ [.string a.nm]) := by
                unfold Hid
                obtain ⟨e1, e2⟩ := List.getElem?_eq_some_iff.1 (nm_get HA.out)
                rw [List.take_succ_eq_append_getElem e1, List.map_append, e2]; rfl
              go_wp2_with fail
              refine (iAttrOk_c HAC.out).mono ?_
              rw [hab]
              rintro e w3 ⟨rfl, b3⟩
              have g0 : w3.cell? ⟨wr.heap.size, 0, none⟩ = some (.string a.nm) := (b3.cell (p := ⟨wr.heap.size, 0, none⟩) (show wr.heap.size < _ by simp)).trans G0.out
              have HB3 := Lib.hid (HB2.out.trans (b3.mono (by simp; omega)))
              have HOwn3 := Lib.hid (own_below HOwn2.out b3 (Nat.le_refl _))
              have hs3 : w.heap.size + 1 ≤ w3.heap.size := by have := b3.size; simp at this; omega
              clear b3 f0 f1 f2 hab HOwn HOwn2 HBel HB2
              go_wp2_with (at_builtin; refine wpList_append_own _ rfl _ _ 23 rfl (w.heap.size + 1) 9 i0 (.string ByteArray.empty) 1 16 Tryd.underlying23 HI.out HZ.out HZ1.out HZ2.out rfl (by decide) (.slice A' k c') k (((ats.map AD.nm).take k).map Value.string) rfl (HOwn3.out.alloc _) ⟨w3.heap.size, 0, none⟩ 1 1 [.string a.nm] rfl rfl ?c1 ?c2 ?c3 ?c4 ?c5 ?_)
              case c1 => exact World.news_of_block (cs := #[.string a.nm]) (t := 9) (fr := (0, 0)) (heap_alloc_new w3 _)
              case c2 => simp [Value.oneCell']
              case c3 => unfold maxLen; omega
              case c4 => omega
              case c5 => simp; omega
              · intro v' w4 hown4 hgrow _
                obtain ⟨A3, c3, rfl⟩ := own_shape hown4
                have HOwn4 : Hid (w4.ownsRow (w.heap.size + 1) 9 1 (.slice A3 (k + 1) c3) (k + 1) (((ats.map AD.nm).take (k + 1)).map Value.string)) := by unfold Hid; rw [HTake.out]; simpa only [List.map_take, List.map_map] using hown4
                have HB4 : Hid (Below (w.heap.size + 1) W1 w4) := (HB3.out.alloc hs3 _).grown hgrow (by simp; omega) (fun j hj => (HOwn3.out.lt j hj).1)
                clear hown4 hgrow
                go_wp2_with fail
                go_roundw
                case rel =>
                  refine ⟨k + 1, A3, c3, by omega, by go_num, rfl, (fun j u hj hu => ?_), HOwn4.out, HB4.out⟩
                  rcases Nat.lt_or_ge j k with h1 | h1
                  · exact hgood.out j u h1 hu
                  · obtain rfl : j = k := by omega
                    rw [HA.out] at hu
                    obtain rfl := Option.some.inj hu
                    exact HAB.out
                case measure => simp [intOf]; omega
          · obtain rfl : k = n := by omega
            have hlt' : ∀ (j : Nat) (a : AD), ats[j]? = some a → j < k := fun j a hj => by have := (List.getElem?_eq_some_iff.1 hj).1; rw [HL.out] at this; exact this
            have HV : Hid (schB ats cs = wordsB (ats.map AD.nm)) := schB_good (by rw [HL.out]; exact H1.out) (by rw [HC.out]; exact H2.out) H3.out (fun j a hj => hgood.out j a (hlt' j a hj) hj)
            have HRd : Hid (Rd wr A' k ((ats.map AD.nm).map Value.string)) := by
              have := Rd.of_own HOwn.out
              rwa [List.take_of_length_le (by simp [HL.out])] at this
            have hcap := own_cap HOwn.out
            go_wp2_with fail
            refine (iWords_any A' k c' (ats.map AD.nm) _ HRd.out hn hcap (fun s hs => ?_)).mono ?_
            · obtain ⟨a, ha, rfl⟩ := List.mem_map.1 hs
              exact (R.out.ok a ha).1
            · rintro e w3 ⟨rfl, rfl⟩
              go_wp2_with fail
              go_ret
              exact ⟨by rw [HV.out]; rfl, HB.out.trans (HBel.out.mono (by omega))⟩

theorem binsI_pos {a : AD} {cn : Nat} (h : a.cuts.length = cn) (hp : 0 < cn) : binsI a = (cn : Int) + 1 := by unfold binsI; rw [h, if_pos hp]
theorem binsI_zero {a : AD} {vn : Nat} (h : a.cuts.length = 0) (hv : a.vals.length = vn) : binsI a = (vn : Int) := by unfold binsI; rw [h, if_neg (by omega), hv]
set_option maxHeartbeats 400000 in
theorem ibins_any (a : AD) (h : AH) (w : World) (r : AttrC w a h) : Calls Tryd.prog 32 #[.agg #[.string a.nm, .slice h.1.1 h.1.2.1 h.1.2.2, .slice h.2.1 h.2.2.1 h.2.2.2]] w fun e w' => e = .returned (.int .i64 (binsI a)) ∧ Below w.heap.size w w' := by
  obtain ⟨l1, l2⟩ := rdA_len r.rd
  have h1 := r.c; have h2 := r.v
  obtain ⟨⟨ca, cn, cc⟩, ⟨va, vn, vc⟩⟩ := h
  simp only at l1 l2
  rw [l1] at h1; rw [l2] at h2
  have HB := Lib.hid (below_alloc1 (w := w) (.cells #[.string a.nm, .slice ca cn cc, .slice va vn vc] 52))
  clear r
  by_cases hp : 0 < cn
  · have HV := Lib.hid (binsI_pos l1 hp)
    clear l1 l2
    have hp' : (0 : Int) < (cn : Int) := by omega
    go_enter Tryd.func32, Tryd.ntmps32
    go_wp2_with fail
    go_ret
    exact ⟨by rw [HV.out]; rfl, HB.out⟩
  · obtain rfl : cn = 0 := by omega
    have HV := Lib.hid (binsI_zero l1 l2)
    clear l1 l2
    go_enter Tryd.func32, Tryd.ntmps32
    go_wp2_with fail
    go_ret
    exact ⟨by rw [HV.out]; rfl, HB.out⟩
def sbI (a : AD) : Int := if attrB a then binsI a else 0

set_option maxHeartbeats 400000 in
theorem sBins_any (a : AD) (h : AH) (w : World) (r : AttrC w a h) (ha : attrB a = true) : Calls Tryd.prog 39 #[.agg #[.string a.nm, .slice h.1.1 h.1.2.1 h.1.2.2, .slice h.2.1 h.2.2.1 h.2.2.2]] w fun e w' => e = .returned (.int .i64 (binsI a)) ∧ Below w.heap.size w w' := by
  obtain ⟨l1, l2⟩ := rdA_len r.rd
  have h1 := r.c; have h2 := r.v
  have HB := Lib.hid (below_alloc1 (w := w) (.cells #[.string a.nm, .slice h.1.1 h.1.2.1 h.1.2.2, .slice h.2.1 h.2.2.1 h.2.2.2] 52))
  have R := Lib.hid (r.below HB.out (Nat.le_refl _))
  obtain ⟨⟨ca, cn, cc⟩, ⟨va, vn, vc⟩⟩ := h
  simp only at l1 l2
  rw [l1] at h1; rw [l2] at h2
  have C1 : Hid ((w.alloc (.cells #[.string a.nm, .slice ca cn cc, .slice va vn vc] 52)).cell? ⟨w.heap.size, 1, none⟩ = some (.slice ca cn cc)) := Lib.hid (by simp [go_sem])
  have C2 : Hid ((w.alloc (.cells #[.string a.nm, .slice ca cn cc, .slice va vn vc] 52)).cell? ⟨w.heap.size, 2, none⟩ = some (.slice va vn vc)) := Lib.hid (by simp [go_sem])
  clear r
  by_cases hp : 0 < cn
  · have HV := Lib.hid (binsI_pos l1 hp)
    clear l1 l2
    have hp' : (0 : Int) < (cn : Int) := by omega
    go_enter Tryd.func39, Tryd.ntmps39
    go_wp2_with fail
    refine (sAttrOk_c R.out).mono ?_
    rw [ha]
    rintro e w2 ⟨rfl, b2⟩
    have c1 : w2.cell? ⟨w.heap.size, 1, none⟩ = some (.slice ca cn cc) := (b2.cell (p := ⟨w.heap.size, 1, none⟩) (show w.heap.size < _ by simp)).trans C1.out
    have HB2 := Lib.hid (HB.out.trans (b2.mono (by simp)))
    clear b2
    go_wp2_with fail
    go_ret
    exact ⟨by rw [HV.out]; rfl, HB2.out⟩
  · obtain rfl : cn = 0 := by omega
    have HV := Lib.hid (binsI_zero l1 l2)
    clear l1 l2
    go_enter Tryd.func39, Tryd.ntmps39
    go_wp2_with fail
    refine (sAttrOk_c R.out).mono ?_
    rw [ha]
    rintro e w2 ⟨rfl, b2⟩
    have c1 : w2.cell? ⟨w.heap.size, 1, none⟩ = some (.slice ca 0 cc) := (b2.cell (p := ⟨w.heap.size, 1, none⟩) (show w.heap.size < _ by simp)).trans C1.out
    have c2 : w2.cell? ⟨w.heap.size, 2, none⟩ = some (.slice va vn vc) := (b2.cell (p := ⟨w.heap.size, 2, none⟩) (show w.heap.size < _ by simp)).trans C2.out
    have HB2 := Lib.hid (HB.out.trans (b2.mono (by simp)))
    clear b2
    go_wp2_with fail
    go_ret
    exact ⟨by rw [HV.out]; rfl, HB2.out⟩

end Go.Proofs.YtchkmcikpamdeaaDoor
