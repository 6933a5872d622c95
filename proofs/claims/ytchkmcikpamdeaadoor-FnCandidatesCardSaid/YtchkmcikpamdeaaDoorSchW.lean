/-
  Schemas copied and compared by the law file's helpers.
-/
import Derived.Test.YtchkmcikpamdeaaDoorSchTo
namespace Go.Proofs.YtchkmcikpamdeaaDoor
open Go.RowKit
set_option linter.unusedSimpArgs false
set_option linter.unusedVariables false
theorem OwN.wide {sz : Nat} {e : TypeId} {lo hi lo' hi' : Nat} {w : World} {A : Option Addr} {n c : Nat} {xs : List Value} (h : OwN sz e lo hi w A n c xs) (h1 : lo' ≤ lo) (h2 : hi ≤ hi') : OwN sz e lo' hi' w A n c xs :=
  ⟨own_base h.own h1, fun k hk => Nat.lt_of_lt_of_le (h.top k hk) h2⟩
theorem OwAS.wide {lo hi lo' hi' : Nat} {w : World} {A : Option Addr} {n c : Nat} {hs : List AH} {ats : List AD} (h : OwAS lo hi w A n c hs ats) (h1 : lo' ≤ lo) (h2 : hi ≤ hi') : OwAS lo' hi' w A n c hs ats :=
  ⟨h.hd.wide h1 h2, h.len, h.hlen, h.rows.wide h1 h2, h.off⟩
/-- A schema by value reads as its attributes and classes. -/
structure RdSch (w : World) (A C : Option Addr) (n m : Nat) (hs : List AH) (ats : List AD) (cs : List ByteArray) : Prop where
  at_ : RdAS w A n hs ats
  cl : Rd w C m (cs.map Value.string)
theorem RdSch.below {w w' : World} {B : Nat} {A C : Option Addr} {n m : Nat} {hs : List AH} {ats : List AD} {cs : List ByteArray} (r : RdSch w A C n m hs ats cs) (hb : Below B w w') (hB : w.heap.size ≤ B) : RdSch w' A C n m hs ats cs := ⟨r.at_.below hb hB, r.cl.below hb hB⟩
theorem OwSch.rd {lo hi : Nat} {w : World} {A C : Option Addr} {n c m d mid : Nat} {hs : List AH} {ats : List AD} {cs : List ByteArray} (h : OwSch lo hi w A C n c m d mid hs ats cs) : RdSch w A C n m hs ats cs := ⟨h.at_.rd, h.cl.rd⟩
theorem toAttrS_own (A : Option Addr) (n c : Nat) (hs : List AH) (ats : List AD) (w : World) (r : RdAS w A n hs ats) (hn : n ≤ 1048576) (hb : asTot ats ≤ 1048576) :
    Calls Tryd.prog 23 #[.slice A n c] w fun e w' => ∃ g hs', e = .returned (.slice (some ⟨g, 0, none⟩) n n) ∧ OwAS w.heap.size w'.heap.size w' (some ⟨g, 0, none⟩) n n hs' ats ∧ Below w.heap.size w w' :=
  (toAttrS_any A n c hs ats w r hn hb).mono fun e w' ⟨hs', h1, h2, h3⟩ => ⟨_, hs', h1, h2, h3⟩

set_option maxHeartbeats 2000000 in
theorem toSchema_any (A C : Option Addr) (n c m d : Nat) (hs : List AH) (ats : List AD) (cs : List ByteArray) (w : World) (r : RdSch w A C n m hs ats cs) (hn : n ≤ 1048576) (hb : asTot ats ≤ 1048576) (hm : m ≤ 1048576) :
    Calls Tryd.prog 7 #[.agg #[.slice A n c, .slice C m d]] w fun e w' => ∃ g1 g2 mid hs', e = .returned (.agg #[.slice (some ⟨g1, 0, none⟩) n n, .slice (some ⟨g2, 0, none⟩) m m]) ∧ OwSch w.heap.size w'.heap.size w' (some ⟨g1, 0, none⟩) (some ⟨g2, 0, none⟩) n n m m mid hs' ats cs ∧ Below w.heap.size w w' := by
  have hb0 : Below w.heap.size w (((w.alloc (.cells #[.slice A n c, .slice C m d] 25)).alloc (.cells #[.slice none 0 0, .slice none 0 0] 32)).alloc (.cells #[.slice none 0 0, .slice none 0 0] 32)) := by go_grown
  have HB0 := Lib.hid hb0
  have R := Lib.hid (r.at_.below hb0 (Nat.le_refl _)); have RC := Lib.hid (r.cl.below hb0 (Nat.le_refl _)); have R0 := Lib.hid r
  clear r hb0
  go_enter Tryd.func7, Tryd.ntmps7
  go_wp2_with fail
  refine (toAttrS_own A n c hs ats _ R.out hn hb).mono ?_
  rintro e w1 ⟨g1, hs', rfl, o1, b1⟩
  simp only [World.size_alloc] at o1 b1
  have bc : ∀ b o, b < w.heap.size + 1 + 1 + 1 → w1.cell? ⟨b, o, none⟩ = (((w.alloc (.cells #[.slice A n c, .slice C m d] 25)).alloc (.cells #[.slice none 0 0, .slice none 0 0] 32)).alloc (.cells #[.slice none 0 0, .slice none 0 0] 32)).cell? ⟨b, o, none⟩ := fun b o hb => b1.cell (p := ⟨b, o, none⟩) hb
  have bf : ∀ b o, b < w.heap.size + 1 + 1 + 1 → w1.frozen? ⟨b, o, none⟩ = (((w.alloc (.cells #[.slice A n c, .slice C m d] 25)).alloc (.cells #[.slice none 0 0, .slice none 0 0] 32)).alloc (.cells #[.slice none 0 0, .slice none 0 0] 32)).frozen? ⟨b, o, none⟩ := fun b o hb => b1.frozen (p := ⟨b, o, none⟩) hb
  have bz := b1.size
  simp only [World.size_alloc] at bz
  have cc1 : w1.cell? ⟨w.heap.size, 1, none⟩ = some (.slice C m d) := by rw [bc _ _ (by omega)]; simp [go_sem, World.cell?_alloc_past]
  have d10 : w1.cell? ⟨w.heap.size + 1, 0, none⟩ = some (.slice none 0 0) := by rw [bc _ _ (by omega)]; simp [go_sem, World.cell?_alloc_past]
  have d20 : w1.cell? ⟨w.heap.size + 1 + 1, 0, none⟩ = some (.slice none 0 0) := by rw [bc _ _ (by omega)]; simp [go_sem, World.cell?_alloc_past]
  have k10 : w1.frozen? ⟨w.heap.size + 1, 0, none⟩ = false := by rw [bf _ _ (by omega)]; simp [go_sem, World.cell?_alloc_past]
  have k20 : w1.frozen? ⟨w.heap.size + 1 + 1, 0, none⟩ = false := by rw [bf _ _ (by omega)]; simp [go_sem, World.cell?_alloc_past]
  have d11 : w1.cell? ⟨w.heap.size + 1, 1, none⟩ = some (.slice none 0 0) := by rw [bc _ _ (by omega)]; simp [go_sem, World.cell?_alloc_past]
  have d21 : w1.cell? ⟨w.heap.size + 1 + 1, 1, none⟩ = some (.slice none 0 0) := by rw [bc _ _ (by omega)]; simp [go_sem, World.cell?_alloc_past]
  have k11 : w1.frozen? ⟨w.heap.size + 1, 1, none⟩ = false := by rw [bf _ _ (by omega)]; simp [go_sem, World.cell?_alloc_past]
  have k21 : w1.frozen? ⟨w.heap.size + 1 + 1, 1, none⟩ = false := by rw [bf _ _ (by omega)]; simp [go_sem, World.cell?_alloc_past]
  have HO1 := Lib.hid o1; have HB1 := Lib.hid (HB0.out.trans (b1.mono (by omega))); have HBx := Lib.hid b1
  clear bc bf o1 b1
  have HBV : Hid (Below w.heap.size w (w1.setCell ⟨w.heap.size + 1 + 1, 0, none⟩ (.slice (some ⟨g1, 0, none⟩) n n))) := by have hb := HB1.out; unfold Hid; go_grown
  have RC1 : Hid (Rd (w1.setCell ⟨w.heap.size + 1 + 1, 0, none⟩ (.slice (some ⟨g1, 0, none⟩) n n)) C m (cs.map Value.string)) := by
    refine ⟨RC.out.len, fun hp => ?_⟩
    obtain ⟨b, off, hA, hlt, hc⟩ := R0.out.cl.ex hp
    exact ⟨b, off, hA, Nat.lt_of_lt_of_le hlt HBV.out.size, fun j u hu => (HBV.out.cell (p := ⟨b, off + j, none⟩) hlt).trans (hc j u hu)⟩
  go_wp2_with fail
  refine (toStringS_own C m d cs _ (w1.setCell ⟨w.heap.size + 1 + 1, 0, none⟩ (.slice (some ⟨g1, 0, none⟩) n n)) w1.heap.size RC1.out (by omega) (Below.refl _ _) (by simp)).mono ?_
  rintro e w2 ⟨g2, rfl, o2, b2⟩
  have bc : ∀ b o, b < w1.heap.size → w2.cell? ⟨b, o, none⟩ = (w1.setCell ⟨w.heap.size + 1 + 1, 0, none⟩ (.slice (some ⟨g1, 0, none⟩) n n)).cell? ⟨b, o, none⟩ := fun b o hb => b2.cell (p := ⟨b, o, none⟩) hb
  have bf : ∀ b o, b < w1.heap.size → w2.frozen? ⟨b, o, none⟩ = (w1.setCell ⟨w.heap.size + 1 + 1, 0, none⟩ (.slice (some ⟨g1, 0, none⟩) n n)).frozen? ⟨b, o, none⟩ := fun b o hb => b2.frozen (p := ⟨b, o, none⟩) hb
  have bz2 := b2.size
  simp only [World.size_setCell] at bz2
  have c10 : w2.cell? ⟨w.heap.size + 1, 0, none⟩ = some (.slice none 0 0) := by rw [bc _ _ (by omega)]; simp [go_sem, World.cell?_alloc_past, d10, d11, d20, d21]
  have f10 : w2.frozen? ⟨w.heap.size + 1, 0, none⟩ = false := by rw [bf _ _ (by omega)]; simp [go_sem, World.cell?_alloc_past, k10, k11, k20, k21]
  have f20 : w2.frozen? ⟨w.heap.size + 1 + 1, 0, none⟩ = false := by rw [bf _ _ (by omega)]; simp [go_sem, World.cell?_alloc_past, k10, k11, k20, k21]
  have c11 : w2.cell? ⟨w.heap.size + 1, 1, none⟩ = some (.slice none 0 0) := by rw [bc _ _ (by omega)]; simp [go_sem, World.cell?_alloc_past, d10, d11, d20, d21]
  have f11 : w2.frozen? ⟨w.heap.size + 1, 1, none⟩ = false := by rw [bf _ _ (by omega)]; simp [go_sem, World.cell?_alloc_past, k10, k11, k20, k21]
  have f21 : w2.frozen? ⟨w.heap.size + 1 + 1, 1, none⟩ = false := by rw [bf _ _ (by omega)]; simp [go_sem, World.cell?_alloc_past, k10, k11, k20, k21]
  have c20 : w2.cell? ⟨w.heap.size + 1 + 1, 0, none⟩ = some (.slice (some ⟨g1, 0, none⟩) n n) := by rw [bc _ _ (by omega)]; simp [go_sem, World.cell?_alloc_past, d10, d11, d20, d21]
  have c21 : w2.cell? ⟨w.heap.size + 1 + 1, 1, none⟩ = some (.slice none 0 0) := by rw [bc _ _ (by omega)]; simp [go_sem, World.cell?_alloc_past, d10, d11, d20, d21]
  have HO2 := Lib.hid (Ow.of o2)
  have HO3 := Lib.hid ((HO1.out.same (same_set (b := w.heap.size + 1 + 1) (off := 0) (u := .slice (some ⟨g1, 0, none⟩) n n) (by omega))).same (same_below b2 (Nat.le_refl _)))
  have HB2 := Lib.hid (HBV.out.trans (b2.mono (by omega)))
  clear bc bf o2 b2 cc1 d10 d11 d20 d21 k10 k11 k20 k21
  go_wp2_with fail
  refine bodyPost_ret (v := .agg #[.slice (some ⟨g1, 0, none⟩) n n, .slice (some ⟨g2, 0, none⟩) m m]) (by simp [results, Tryd.results7, go_sem, c10, c11, c20, c21]) rfl ⟨g1, g2, w1.heap.size, hs', rfl, ⟨?_, ?_, ?_⟩, ?_⟩
  · refine OwAS.wide (lo := w.heap.size + 1 + 1 + 1) ?_ (by omega) (Nat.le_refl _)
    exact ((HO3.out.same (same_set (by omega))).same (same_set (by omega))).same (same_set (by omega))
  · have h := ((HO2.out.same (same_set (b := w.heap.size + 1 + 1) (off := 1) (u := .slice (some ⟨g2, 0, none⟩) m m) (by omega))).same (same_set (b := w.heap.size + 1) (off := 0) (u := .slice (some ⟨g1, 0, none⟩) n n) (by omega))).same (same_set (b := w.heap.size + 1) (off := 1) (u := .slice (some ⟨g2, 0, none⟩) m m) (by omega))
    exact ⟨h.own, fun k hk => by have := h.top k hk; simpa only [World.size_setCell] using this⟩
  · exact ⟨by omega, by simpa only [World.size_setCell] using bz2⟩
  · have hB := HB2.out
    go_grown

set_option maxHeartbeats 1000000 in
theorem eqSchema_same (A C A' C' : Option Addr) (n c m d c' d' : Nat) (hs gs : List AH) (ats : List AD) (cs : List ByteArray) (w : World) (r : RdSch w A C n m hs ats cs) (r' : RdSch w A' C' n m gs ats cs) (hn : n ≤ 1048576) (hb : asTot ats ≤ 1048576) (hm : m ≤ 1048576) :
    Calls Tryd.prog 10 #[.agg #[.slice A n c, .slice C m d], .agg #[.slice A' n c', .slice C' m d']] w fun e w' => e = .returned (.bool true) ∧ Below w.heap.size w w' := by
  have hb0 : Below w.heap.size w ((w.alloc (.cells #[.slice A n c, .slice C m d] 32)).alloc (.cells #[.slice A' n c', .slice C' m d'] 32)) := by go_grown
  have HB0 := Lib.hid hb0
  have R := Lib.hid (r.below hb0 (Nat.le_refl _)); have R' := Lib.hid (r'.below hb0 (Nat.le_refl _))
  have HB := Lib.hid (Below.refl (w.heap.size + 1 + 1) ((w.alloc (.cells #[.slice A n c, .slice C m d] 32)).alloc (.cells #[.slice A' n c', .slice C' m d'] 32)))
  clear r r' hb0
  go_enter Tryd.func10, Tryd.ntmps10
  go_wp2_with fail
  refine (lift (eqAttrS_same A A' n c c' hs gs ats _ R.out.at_ R'.out.at_ hn hb) HB.out (by simp)).mono ?_
  rintro e w1 ⟨rfl, hb1⟩
  obtain ⟨bc, bf, bz⟩ := bcell hb1
  have c01 : w1.cell? ⟨w.heap.size, 1, none⟩ = some (.slice C m d) := by rw [bc _ _ (by omega)]; simp [go_sem, World.cell?_alloc_past]
  have c11 : w1.cell? ⟨w.heap.size + 1, 1, none⟩ = some (.slice C' m d') := by rw [bc _ _ (by omega)]; simp [go_sem, World.cell?_alloc_past]
  have HB1 := Lib.hid (HB0.out.trans (hb1.mono (by omega)))
  have RC := Lib.hid (R.out.cl.below hb1 (by simp)); have RC' := Lib.hid (R'.out.cl.below hb1 (by simp))
  have hz := HB1.out.size
  clear hb1 bc bf bz
  go_wp2_with fail
  refine (eqStringS_same C C' m d d' cs _ RC.out RC'.out (by omega)).mono ?_
  rintro e w2 ⟨rfl, hb2⟩
  have HB2 := Lib.hid (HB1.out.trans (hb2.mono hz))
  clear hb2
  go_wp2_with fail
  go_ret
  exact ⟨rfl, HB2.out⟩

end Go.Proofs.YtchkmcikpamdeaaDoor
