/-
  Attributes and schemas copied and compared by the law file's helpers; what a call owns of them.
-/
import Derived.Test.YtchkmcikpamdeaaDoorSch
import Derived.Test.YtchkmcikpamdeaaDoorObj
namespace Go.Proofs.YtchkmcikpamdeaaDoor
open Go.RowKit
set_option linter.unusedSimpArgs false
set_option linter.unusedVariables false

/-- A row of elements of sz cells each, in blocks from lo up to hi. -/
structure OwN (sz : Nat) (e : TypeId) (lo hi : Nat) (w : World) (A : Option Addr) (n c : Nat) (xs : List Value) : Prop where
  own : w.ownsRow lo e sz (.slice A n c) n xs
  top : ∀ k, (Value.slice A n c).ownBlock = some k → k < hi
theorem Rd.of_ownN {sz : Nat} {w : World} {base : Nat} {e : TypeId} {A : Option Addr} {c n : Nat} {xs : List Value} (h : w.ownsRow base e sz (.slice A n c) n xs) : Rd w A (n * sz) xs := by
  refine ⟨h.1, fun hn => ?_⟩
  rcases h.2 with ⟨h0, h1⟩ | ⟨g, cap, cur, hv, hg, hh, hr⟩
  · subst h1; simp at hn
  · injection hv with hA _ hc
    subst hA hc
    have hlt : g < w.heap.size := by
      rcases Nat.lt_or_ge g w.heap.size with hlt | hge
      · exact hlt
      · rw [Array.getElem?_eq_none hge] at hh; cases hh
    refine ⟨g, 0, rfl, hlt, fun j u hu => ?_⟩
    have hj : j < n * sz := by have := (List.getElem?_eq_some_iff.1 hu).1; rw [h.1] at this; exact this
    rw [Nat.zero_add, h.cellAt j hj, hu]
theorem OwN.rd {sz : Nat} {e : TypeId} {lo hi : Nat} {w : World} {A : Option Addr} {n c : Nat} {xs : List Value} (h : OwN sz e lo hi w A n c xs) : Rd w A (n * sz) xs := Rd.of_ownN h.own
theorem OwN.same {sz : Nat} {e : TypeId} {lo hi : Nat} {w w' : World} {A : Option Addr} {n c : Nat} {xs : List Value} (h : OwN sz e lo hi w A n c xs) (hs : Same lo hi w w') : OwN sz e lo hi w' A n c xs := by
  refine ⟨⟨h.own.1, ?_⟩, h.top⟩
  rcases h.own.2 with h2 | ⟨g, cap, cur, a, b, c', d⟩
  · exact .inl h2
  · exact .inr ⟨g, cap, cur, a, b, by rw [hs g b (h.top g (by rw [a]; rfl))]; exact c', d⟩
theorem OwN.of {sz : Nat} {e : TypeId} {lo : Nat} {w : World} {A : Option Addr} {n c : Nat} {xs : List Value} (h : w.ownsRow lo e sz (.slice A n c) n xs) : OwN sz e lo w.heap.size w A n c xs := ⟨h, fun k hk => (h.lt k hk).2⟩
theorem OwN.grown {sz : Nat} {e : TypeId} {lo hi : Nat} {w w' : World} {row : Option Nat} {A : Option Addr} {n c : Nat} {xs : List Value} (h : OwN sz e lo hi w A n c xs) (hg : w.grownBy w' row) (hne : ∀ g, (Value.slice A n c).ownBlock = some g → row ≠ some g) : OwN sz e lo hi w' A n c xs := by
  refine ⟨⟨h.own.1, ?_⟩, h.top⟩
  rcases h.own.2 with h2 | ⟨g, cap, cur, a, b, c', d⟩
  · exact .inl h2
  · have hl := (h.own.lt g (by rw [a]; rfl)).2
    exact .inr ⟨g, cap, cur, a, b, by rw [hg.block g hl (fun e => hne g (by rw [a]; rfl) e.symm)]; exact c', d⟩

/-- The blocks of an attribute's rows. -/
def hB (h : AH) (g : Nat) : Prop := (hdV h.1).ownBlock = some g ∨ (hdV h.2).ownBlock = some g
/-- An attribute whose rows a call owns. -/
structure OwA (lo hi : Nat) (w : World) (a : AD) (h : AH) : Prop where
  cuts : Ow 3 lo hi w h.1.1 h.1.2.1 h.1.2.2 (a.cuts.map (Value.int .i64))
  vals : Ow 9 lo hi w h.2.1 h.2.2.1 h.2.2.2 (a.vals.map Value.string)
  two : ∀ g, (hdV h.1).ownBlock = some g → (hdV h.2).ownBlock = some g → False
theorem OwA.rd {lo hi : Nat} {w : World} {a : AD} {h : AH} (o : OwA lo hi w a h) : RdA w a h := ⟨o.cuts.rd, o.vals.rd⟩
theorem OwA.same {lo hi : Nat} {w w' : World} {a : AD} {h : AH} (o : OwA lo hi w a h) (s : Same lo hi w w') : OwA lo hi w' a h := ⟨o.cuts.same s, o.vals.same s, o.two⟩
theorem OwA.wide {lo hi lo' hi' : Nat} {w : World} {a : AD} {h : AH} (o : OwA lo hi w a h) (h1 : lo' ≤ lo) (h2 : hi ≤ hi') : OwA lo' hi' w a h := ⟨o.cuts.wide h1 h2, o.vals.wide h1 h2, o.two⟩
theorem OwA.bd {lo hi : Nat} {w : World} {a : AD} {h : AH} (o : OwA lo hi w a h) {g : Nat} (hg : hB h g) : lo ≤ g ∧ g < hi := by
  rcases hg with hg | hg
  · exact ⟨(o.cuts.own.lt g hg).1, o.cuts.top g hg⟩
  · exact ⟨(o.vals.own.lt g hg).1, o.vals.top g hg⟩
/-- Attributes whose rows a call owns, no two rows in one block. -/
structure RowsA (lo hi : Nat) (w : World) (hs : List AH) (ats : List AD) : Prop where
  row : ∀ (j : Nat) (h : AH) (a : AD), hs[j]? = some h → ats[j]? = some a → OwA lo hi w a h
  apart : ∀ (i j : Nat) (x y : AH) (g : Nat), hs[i]? = some x → hs[j]? = some y → hB x g → hB y g → i = j
  top : ∀ (j : Nat) (x : AH) (g : Nat), hs[j]? = some x → hB x g → lo ≤ g ∧ g < hi
theorem snoc_getA {hs : List AH} {x y : AH} {j : Nat} (h : (hs ++ [x])[j]? = some y) : hs[j]? = some y ∨ (j = hs.length ∧ y = x) := by
  rcases Nat.lt_or_ge j hs.length with h1 | h1
  · left; rwa [List.getElem?_append_left h1] at h
  · right
    rw [List.getElem?_append_right h1] at h
    have : j - hs.length = 0 := by
      rcases Nat.eq_zero_or_pos (j - hs.length) with h2 | h2
      · exact h2
      · rw [List.getElem?_eq_none (by simp; omega)] at h; cases h
    rw [this] at h
    exact ⟨by omega, by simpa using h.symm⟩
section
variable {lo hi : Nat} {w w' : World} {hs : List AH} {ats : List AD}
theorem RowsA.nil (lo hi : Nat) (w : World) (ats : List AD) : RowsA lo hi w [] ats := ⟨by simp, by simp, by simp⟩
theorem RowsA.same (h : RowsA lo hi w hs ats) (s : Same lo hi w w') : RowsA lo hi w' hs ats := ⟨fun j a b h1 h2 => (h.row j a b h1 h2).same s, h.apart, h.top⟩
theorem RowsA.wide {lo' hi' : Nat} (h : RowsA lo hi w hs ats) (h1 : lo' ≤ lo) (h2 : hi ≤ hi') : RowsA lo' hi' w hs ats :=
  ⟨fun j a b e1 e2 => (h.row j a b e1 e2).wide h1 h2, h.apart, fun j x g e1 e2 => by have := h.top j x g e1 e2; omega⟩
theorem RowsA.snoc {lo' hi' : Nat} {x : AH} {a : AD} (h : RowsA lo hi w hs ats) (hv : ats[hs.length]? = some a) (ho : OwA lo' hi' w a x) (h1 : lo ≤ lo') (h2 : hi ≤ lo') (h3 : hi ≤ hi') : RowsA lo hi' w (hs ++ [x]) ats := by
  refine ⟨fun j y us e1 e2 => ?_, fun i j p q g e1 e2 e3 e4 => ?_, fun j y g e1 e2 => ?_⟩
  · rcases snoc_getA e1 with e | ⟨rfl, rfl⟩
    · exact (h.row j y us e e2).wide (Nat.le_refl _) h3
    · rw [hv] at e2; obtain rfl := Option.some.inj e2
      exact ho.wide h1 (Nat.le_refl _)
  · rcases snoc_getA e1 with e | ⟨rfl, rfl⟩ <;> rcases snoc_getA e2 with e' | ⟨rfl, rfl⟩
    · exact h.apart i j p q g e e' e3 e4
    · have := h.top i p g e e3; have := ho.bd e4; omega
    · have := h.top j q g e' e4; have := ho.bd e3; omega
    · rfl
  · rcases snoc_getA e1 with e | ⟨rfl, rfl⟩
    · have := h.top j y g e e2; omega
    · have := ho.bd e2; omega
end
/-- A slice of attributes that a call owns. -/
structure OwAS (lo hi : Nat) (w : World) (A : Option Addr) (n c : Nat) (hs : List AH) (ats : List AD) : Prop where
  hd : OwN 3 52 lo hi w A n c (ascells ats hs)
  len : ats.length = n
  hlen : hs.length = n
  rows : RowsA lo hi w hs ats
  off : ∀ (j : Nat) (y : AH) (g : Nat), hs[j]? = some y → (Value.slice A n c).ownBlock = some g → hB y g → False
section
variable {lo hi : Nat} {w w' : World} {A : Option Addr} {n c : Nat} {hs : List AH} {ats : List AD}
theorem OwAS.rd (h : OwAS lo hi w A n c hs ats) : RdAS w A n hs ats := ⟨h.hd.rd, h.len, h.hlen, fun j a b h1 h2 => (h.rows.row j a b h1 h2).rd⟩
theorem OwAS.same (h : OwAS lo hi w A n c hs ats) (s : Same lo hi w w') : OwAS lo hi w' A n c hs ats := ⟨h.hd.same s, h.len, h.hlen, h.rows.same s, h.off⟩
end
/-- A schema that a call owns: attributes in blocks below mid, classes above. -/
structure OwSch (lo hi : Nat) (w : World) (A C : Option Addr) (n c m d mid : Nat) (hs : List AH) (ats : List AD) (cs : List ByteArray) : Prop where
  at_ : OwAS lo mid w A n c hs ats
  cl : Ow 9 mid hi w C m d (cs.map Value.string)
  le : lo ≤ mid ∧ mid ≤ hi
theorem OwSch.same {lo hi : Nat} {w w' : World} {A C : Option Addr} {n c m d mid : Nat} {hs : List AH} {ats : List AD} {cs : List ByteArray} (h : OwSch lo hi w A C n c m d mid hs ats cs) (s : Same lo hi w w') : OwSch lo hi w' A C n c m d mid hs ats cs :=
  ⟨h.at_.same (fun k h1 h2 => s k h1 (Nat.lt_of_lt_of_le h2 h.le.2)), h.cl.same (fun k h1 h2 => s k (Nat.le_trans h.le.1 h1) h2), h.le⟩

/-- Copies that lie in blocks from B on, read from an earlier world on. -/
theorem toIntS_own (A : Option Addr) (n c : Nat) (xs : List Int) (w W0 : World) (B : Nat) (h : Rd w A n (xs.map (Value.int .i64))) (hn : n ≤ 1073741824) (hB : Below B W0 w) (hs : B ≤ W0.heap.size) :
    Calls Tryd.prog 51 #[.slice A n c] w fun e w' => ∃ g, e = .returned (.slice (some ⟨g, 0, none⟩) n n) ∧ w'.ownsRow B 3 1 (.slice (some ⟨g, 0, none⟩) n n) n (xs.map (Value.int .i64)) ∧ Below B W0 w' :=
  (toIntS_any A n c xs w h hn).mono fun e w' ⟨h1, h2, h3⟩ => ⟨_, h1, own_base h2 (Nat.le_trans hs hB.size), hB.trans (h3.mono (Nat.le_trans hs hB.size))⟩
theorem toStringS_own (A : Option Addr) (n c : Nat) (xs : List ByteArray) (w W0 : World) (B : Nat) (h : Rd w A n (xs.map Value.string)) (hn : n ≤ 1073741824) (hB : Below B W0 w) (hs : B ≤ W0.heap.size) :
    Calls Tryd.prog 24 #[.slice A n c] w fun e w' => ∃ g, e = .returned (.slice (some ⟨g, 0, none⟩) n n) ∧ w'.ownsRow B 9 1 (.slice (some ⟨g, 0, none⟩) n n) n (xs.map Value.string) ∧ Below B W0 w' :=
  (toStringS_any A n c xs w h hn).mono fun e w' ⟨h1, h2, h3⟩ => ⟨_, h1, own_base h2 (Nat.le_trans hs hB.size), hB.trans (h3.mono (Nat.le_trans hs hB.size))⟩

set_option maxHeartbeats 2000000 in
theorem toAttr_any (a : AD) (h : AH) (w : World) (r : RdA w a h) (hc : h.1.2.1 ≤ 1048576) (hv : h.2.2.1 ≤ 1048576) :
    Calls Tryd.prog 40 #[.agg #[.string a.nm, .slice h.1.1 h.1.2.1 h.1.2.2, .slice h.2.1 h.2.2.1 h.2.2.2]] w fun e w' => ∃ h' : AH, e = .returned (.agg #[.string a.nm, .slice h'.1.1 h'.1.2.1 h'.1.2.2, .slice h'.2.1 h'.2.2.1 h'.2.2.2]) ∧ OwA w.heap.size w'.heap.size w' a h' ∧ Below w.heap.size w w' := by
  have R := Lib.hid r
  clear r
  have HB0 : Hid (Below w.heap.size w (((w.alloc (.cells #[.string a.nm, .slice h.1.1 h.1.2.1 h.1.2.2, .slice h.2.1 h.2.2.1 h.2.2.2] 68)).alloc (.cells #[.string ByteArray.empty, .slice none 0 0, .slice none 0 0] 52)).alloc (.cells #[.string a.nm, .slice none 0 0, .slice none 0 0] 52))) := by unfold Hid; go_grown
  have HB3 := Lib.hid (Below.refl (w.heap.size + 1 + 1 + 1) (((w.alloc (.cells #[.string a.nm, .slice h.1.1 h.1.2.1 h.1.2.2, .slice h.2.1 h.2.2.1 h.2.2.2] 68)).alloc (.cells #[.string ByteArray.empty, .slice none 0 0, .slice none 0 0] 52)).alloc (.cells #[.string a.nm, .slice none 0 0, .slice none 0 0] 52)))
  go_enter Tryd.func40, Tryd.ntmps40
  go_wp2_with fail
  refine (toIntS_own h.1.1 h.1.2.1 h.1.2.2 a.cuts _ _ _ (R.out.cuts.below HB0.out (Nat.le_refl _)) (by omega) HB3.out (by simp)).mono ?_
  rintro e w1 ⟨g1, rfl, o1, b1⟩
  have bc : ∀ b o, b < w.heap.size + 1 + 1 + 1 → w1.cell? ⟨b, o, none⟩ = (((w.alloc (.cells #[.string a.nm, .slice h.1.1 h.1.2.1 h.1.2.2, .slice h.2.1 h.2.2.1 h.2.2.2] 68)).alloc (.cells #[.string ByteArray.empty, .slice none 0 0, .slice none 0 0] 52)).alloc (.cells #[.string a.nm, .slice none 0 0, .slice none 0 0] 52)).cell? ⟨b, o, none⟩ := fun b o hb => b1.cell (p := ⟨b, o, none⟩) hb
  have bf : ∀ b o, b < w.heap.size + 1 + 1 + 1 → w1.frozen? ⟨b, o, none⟩ = (((w.alloc (.cells #[.string a.nm, .slice h.1.1 h.1.2.1 h.1.2.2, .slice h.2.1 h.2.2.1 h.2.2.2] 68)).alloc (.cells #[.string ByteArray.empty, .slice none 0 0, .slice none 0 0] 52)).alloc (.cells #[.string a.nm, .slice none 0 0, .slice none 0 0] 52)).frozen? ⟨b, o, none⟩ := fun b o hb => b1.frozen (p := ⟨b, o, none⟩) hb
  have bz := b1.size
  simp only [World.size_setCell, World.size_alloc] at bz
  have cc0 : w1.cell? ⟨w.heap.size, 0, none⟩ = some (.string a.nm) := by rw [bc _ _ (by omega)]; simp [go_sem, World.cell?_alloc_past]
  have cc1 : w1.cell? ⟨w.heap.size, 1, none⟩ = some (.slice h.1.1 h.1.2.1 h.1.2.2) := by rw [bc _ _ (by omega)]; simp [go_sem, World.cell?_alloc_past]
  have cc2 : w1.cell? ⟨w.heap.size, 2, none⟩ = some (.slice h.2.1 h.2.2.1 h.2.2.2) := by rw [bc _ _ (by omega)]; simp [go_sem, World.cell?_alloc_past]
  have d10 : w1.cell? ⟨w.heap.size + 1, 0, none⟩ = some (.string ByteArray.empty) := by rw [bc _ _ (by omega)]; simp [go_sem, World.cell?_alloc_past]
  have d11 : w1.cell? ⟨w.heap.size + 1, 1, none⟩ = some (.slice none 0 0) := by rw [bc _ _ (by omega)]; simp [go_sem, World.cell?_alloc_past]
  have d12 : w1.cell? ⟨w.heap.size + 1, 2, none⟩ = some (.slice none 0 0) := by rw [bc _ _ (by omega)]; simp [go_sem, World.cell?_alloc_past]
  have d20 : w1.cell? ⟨w.heap.size + 1 + 1, 0, none⟩ = some (.string a.nm) := by rw [bc _ _ (by omega)]; simp [go_sem, World.cell?_alloc_past]
  have d21 : w1.cell? ⟨w.heap.size + 1 + 1, 1, none⟩ = some (.slice none 0 0) := by rw [bc _ _ (by omega)]; simp [go_sem, World.cell?_alloc_past]
  have d22 : w1.cell? ⟨w.heap.size + 1 + 1, 2, none⟩ = some (.slice none 0 0) := by rw [bc _ _ (by omega)]; simp [go_sem, World.cell?_alloc_past]
  have k10 : w1.frozen? ⟨w.heap.size + 1, 0, none⟩ = false := by rw [bf _ _ (by omega)]; simp [go_sem, World.cell?_alloc_past]
  have k11 : w1.frozen? ⟨w.heap.size + 1, 1, none⟩ = false := by rw [bf _ _ (by omega)]; simp [go_sem, World.cell?_alloc_past]
  have k12 : w1.frozen? ⟨w.heap.size + 1, 2, none⟩ = false := by rw [bf _ _ (by omega)]; simp [go_sem, World.cell?_alloc_past]
  have k20 : w1.frozen? ⟨w.heap.size + 1 + 1, 0, none⟩ = false := by rw [bf _ _ (by omega)]; simp [go_sem, World.cell?_alloc_past]
  have k21 : w1.frozen? ⟨w.heap.size + 1 + 1, 1, none⟩ = false := by rw [bf _ _ (by omega)]; simp [go_sem, World.cell?_alloc_past]
  have k22 : w1.frozen? ⟨w.heap.size + 1 + 1, 2, none⟩ = false := by rw [bf _ _ (by omega)]; simp [go_sem, World.cell?_alloc_past]
  have HO1 := Lib.hid o1; have HB1 := Lib.hid (HB0.out.trans (b1.mono (by omega)))
  clear bc bf o1 b1
  have HBV : Hid (Below w.heap.size w (w1.setCell ⟨w.heap.size + 1 + 1, 1, none⟩ (.slice (some ⟨g1, 0, none⟩) h.1.2.1 h.1.2.1))) := by have hb := HB1.out; unfold Hid; go_grown
  go_wp2_with fail
  refine (toStringS_own h.2.1 h.2.2.1 h.2.2.2 a.vals _ (w1.setCell ⟨w.heap.size + 1 + 1, 1, none⟩ (.slice (some ⟨g1, 0, none⟩) h.1.2.1 h.1.2.1)) w1.heap.size (R.out.vals.below HBV.out (Nat.le_refl _)) (by omega) (Below.refl _ _) (by simp)).mono ?_
  rintro e w2 ⟨g2, rfl, o2, b2⟩
  have bc : ∀ b o, b < w1.heap.size → w2.cell? ⟨b, o, none⟩ = (w1.setCell ⟨w.heap.size + 1 + 1, 1, none⟩ (.slice (some ⟨g1, 0, none⟩) h.1.2.1 h.1.2.1)).cell? ⟨b, o, none⟩ := fun b o hb => b2.cell (p := ⟨b, o, none⟩) hb
  have bf : ∀ b o, b < w1.heap.size → w2.frozen? ⟨b, o, none⟩ = (w1.setCell ⟨w.heap.size + 1 + 1, 1, none⟩ (.slice (some ⟨g1, 0, none⟩) h.1.2.1 h.1.2.1)).frozen? ⟨b, o, none⟩ := fun b o hb => b2.frozen (p := ⟨b, o, none⟩) hb
  have bz2 := b2.size
  simp only [World.size_setCell] at bz2
  have c10 : w2.cell? ⟨w.heap.size + 1, 0, none⟩ = some (.string ByteArray.empty) := by rw [bc _ _ (by omega)]; simp [go_sem, World.cell?_alloc_past, d10, d11, d12, d20, d21, d22]
  have c11 : w2.cell? ⟨w.heap.size + 1, 1, none⟩ = some (.slice none 0 0) := by rw [bc _ _ (by omega)]; simp [go_sem, World.cell?_alloc_past, d10, d11, d12, d20, d21, d22]
  have c12 : w2.cell? ⟨w.heap.size + 1, 2, none⟩ = some (.slice none 0 0) := by rw [bc _ _ (by omega)]; simp [go_sem, World.cell?_alloc_past, d10, d11, d12, d20, d21, d22]
  have c20 : w2.cell? ⟨w.heap.size + 1 + 1, 0, none⟩ = some (.string a.nm) := by rw [bc _ _ (by omega)]; simp [go_sem, World.cell?_alloc_past, d10, d11, d12, d20, d21, d22]
  have c21 : w2.cell? ⟨w.heap.size + 1 + 1, 1, none⟩ = some (.slice (some ⟨g1, 0, none⟩) h.1.2.1 h.1.2.1) := by rw [bc _ _ (by omega)]; simp [go_sem, World.cell?_alloc_past, d10, d11, d12, d20, d21, d22]
  have c22 : w2.cell? ⟨w.heap.size + 1 + 1, 2, none⟩ = some (.slice none 0 0) := by rw [bc _ _ (by omega)]; simp [go_sem, World.cell?_alloc_past, d10, d11, d12, d20, d21, d22]
  have f10 : w2.frozen? ⟨w.heap.size + 1, 0, none⟩ = false := by rw [bf _ _ (by omega)]; simp [go_sem, World.cell?_alloc_past, k10, k11, k12, k20, k21, k22]
  have f11 : w2.frozen? ⟨w.heap.size + 1, 1, none⟩ = false := by rw [bf _ _ (by omega)]; simp [go_sem, World.cell?_alloc_past, k10, k11, k12, k20, k21, k22]
  have f12 : w2.frozen? ⟨w.heap.size + 1, 2, none⟩ = false := by rw [bf _ _ (by omega)]; simp [go_sem, World.cell?_alloc_past, k10, k11, k12, k20, k21, k22]
  have f20 : w2.frozen? ⟨w.heap.size + 1 + 1, 0, none⟩ = false := by rw [bf _ _ (by omega)]; simp [go_sem, World.cell?_alloc_past, k10, k11, k12, k20, k21, k22]
  have f21 : w2.frozen? ⟨w.heap.size + 1 + 1, 1, none⟩ = false := by rw [bf _ _ (by omega)]; simp [go_sem, World.cell?_alloc_past, k10, k11, k12, k20, k21, k22]
  have f22 : w2.frozen? ⟨w.heap.size + 1 + 1, 2, none⟩ = false := by rw [bf _ _ (by omega)]; simp [go_sem, World.cell?_alloc_past, k10, k11, k12, k20, k21, k22]
  have HO2 := Lib.hid o2; have HO3 := Lib.hid (own_below (ownsRow_setCell_below (a := ⟨w.heap.size + 1 + 1, 1, none⟩) HO1.out (by show w.heap.size + 1 + 1 < _; omega) (.slice (some ⟨g1, 0, none⟩) h.1.2.1 h.1.2.1)) b2 (by simp))
  have HB2 := Lib.hid (HBV.out.trans (b2.mono (by omega)))
  have hg1 := (HO1.out.lt g1 rfl).2
  have hg1' := (HO1.out.lt g1 rfl).1
  have hg2 := (HO2.out.lt g2 rfl).1
  clear bc bf o2 b2 cc0 cc1 cc2 d10 d11 d12 d20 d21 d22 k10 k11 k12 k20 k21 k22
  go_wp2_with fail
  refine bodyPost_ret (v := .agg #[.string a.nm, .slice (some ⟨g1, 0, none⟩) h.1.2.1 h.1.2.1, .slice (some ⟨g2, 0, none⟩) h.2.2.1 h.2.2.1]) (by simp [results, Tryd.results40, go_sem, c10, c11, c12, c20, c21, c22]) rfl ⟨((some ⟨g1, 0, none⟩, h.1.2.1, h.1.2.1), (some ⟨g2, 0, none⟩, h.2.2.1, h.2.2.1)), rfl, ⟨?_, ?_, ?_⟩, ?_⟩
  · refine (Ow.of (lo := w.heap.size + 1 + 1 + 1) ?_).wide (by omega) (Nat.le_refl _)
    exact (ownsRow_setCell_below (ownsRow_setCell_below (ownsRow_setCell_below (ownsRow_setCell_below HO3.out (by show w.heap.size + 1 + 1 < _; omega) _) (by show w.heap.size + 1 < _; omega) _) (by show w.heap.size + 1 < _; omega) _) (by show w.heap.size + 1 < _; omega) _)
  · refine (Ow.of (lo := w1.heap.size) ?_).wide (by omega) (Nat.le_refl _)
    exact (ownsRow_setCell_below (ownsRow_setCell_below (ownsRow_setCell_below (ownsRow_setCell_below HO2.out (by show w.heap.size + 1 + 1 < _; omega) _) (by show w.heap.size + 1 < _; omega) _) (by show w.heap.size + 1 < _; omega) _) (by show w.heap.size + 1 < _; omega) _)
  · intro g e1 e2
    simp [hdV, Value.ownBlock] at e1 e2
    omega
  · have hB := HB2.out
    go_grown

theorem info_Attr : (Tryd.prog.info? 52).map (fun i => (i.zero, i.size, i.bytes)) = some (some (.agg #[.string ByteArray.empty, .slice none 0 0, .slice none 0 0]), 3, 64) := by kernel_rfl
/-- Nought, k attributes of it. -/
def zAt : Nat → List Value
  | 0 => []
  | k + 1 => .string ByteArray.empty :: .slice none 0 0 :: .slice none 0 0 :: zAt k
theorem zAt_len (k : Nat) : (zAt k).length = k * 3 := by induction k with | zero => rfl | succ k ih => simp only [zAt, List.length_cons, ih]; omega
def fillA (ats : List AD) (hs : List AH) (n : Nat) : List Value := ascells (ats.take hs.length) hs ++ zAt (n - hs.length)
theorem fillA_set (ats : List AD) (hs : List AH) (n : Nat) (a : AD) (h : AH) (ha : ats[hs.length]? = some a) (hl : hs.length < n) :
    (((fillA ats hs n).set (hs.length * 3) (.string a.nm)).set (hs.length * 3 + 1) (hdV h.1)).set (hs.length * 3 + 2) (hdV h.2) = fillA ats (hs ++ [h]) n := by
  obtain ⟨h1, h2⟩ := List.getElem?_eq_some_iff.1 ha
  have e1 : (ats.take hs.length).length = hs.length := by rw [List.length_take]; omega
  have e2 : (ascells (ats.take hs.length) hs).length = hs.length * 3 := by rw [ascells_len _ _ e1, e1]
  have e3 : n - hs.length = (n - (hs.length + 1)) + 1 := by omega
  have e4 : ats.take (hs.length + 1) = ats.take hs.length ++ [a] := by rw [List.take_succ_eq_append_getElem h1, h2]
  unfold fillA
  rw [e3, zAt, List.set_append_right _ _ (by omega), e2, Nat.sub_self, List.set_cons_zero, List.set_append_right _ _ (by omega), e2, show hs.length * 3 + 1 - hs.length * 3 = 1 by omega, List.set_append_right _ _ (by omega), e2,
    show hs.length * 3 + 2 - hs.length * 3 = 2 by omega, List.length_append, List.length_singleton, e4, ascells_snoc _ _ _ _ e1, List.append_assoc]
  rfl
theorem fillA_full (ats : List AD) (hs : List AH) (n : Nat) (h : hs.length = n) (h2 : ats.length = n) : fillA ats hs n = ascells ats hs := by
  unfold fillA; rw [h, Nat.sub_self, List.take_of_length_le (by omega)]; simp [zAt]
theorem zAt_get : ∀ (n i : Nat), (zAt n)[i]? = if i < n * 3 then [.string ByteArray.empty, .slice none 0 0, .slice none 0 0][i % 3]? else none
  | 0, i => by simp [zAt]
  | n + 1, 0 => by simp [zAt]
  | n + 1, 1 => by simp [zAt]; omega
  | n + 1, 2 => by simp [zAt]; omega
  | n + 1, i + 3 => by
    simp only [zAt, List.getElem?_cons_succ]
    rw [zAt_get n i, show (i + 3) % 3 = i % 3 by omega]
    by_cases h : i < n * 3
    · rw [if_pos h, if_pos (by omega)]
    · rw [if_neg h, if_neg (by omega)]
theorem made_zAt (n : Nat) : (madeCells #[.string ByteArray.empty, .slice none 0 0, .slice none 0 0] (n * 3)).toList = zAt n := by
  apply List.ext_getElem?
  intro i
  rw [zAt_get]
  by_cases h : i < n * 3
  · have h3 : i % 3 = 0 ∨ i % 3 = 1 ∨ i % 3 = 2 := by omega
    rcases h3 with h3 | h3 | h3 <;> simp [madeCells, h, h3]
  · simp [madeCells, h]

set_option maxHeartbeats 4000000 in
theorem toAttrS_any (A : Option Addr) (n c : Nat) (hs : List AH) (ats : List AD) (w : World) (r : RdAS w A n hs ats) (hn : n ≤ 1048576) (hb : asTot ats ≤ 1048576) :
    Calls Tryd.prog 23 #[.slice A n c] w fun e w' => ∃ hs', e = .returned (.slice (some ⟨w.heap.size, 0, none⟩) n n) ∧ OwAS w.heap.size w'.heap.size w' (some ⟨w.heap.size, 0, none⟩) n n hs' ats ∧ Below w.heap.size w w' := by
  have R := Lib.hid r
  obtain ⟨i0, hi0, hz0, hz1, hz2⟩ := info_parts info_Attr
  have HI := Lib.hid hi0; have HZ := Lib.hid hz0; have HZ1 := Lib.hid hz1; have HZ2 := Lib.hid hz2
  have HL := Lib.hid r.len
  have HB : Hid (∀ (k : Nat) (a : AD), ats[k]? = some a → atot a ≤ 1048576) := fun k a ha => Nat.le_trans (attr_le ha) hb
  clear hi0 hz0 hz1 hz2 r hb
  go_enter Tryd.func23, Tryd.ntmps23
  go_wp2_with (at_make; refine wpList_make_full _ rfl _ _ 30 rfl w.heap.size 52 i0 (.agg #[.string ByteArray.empty, .slice none 0 0, .slice none 0 0]) 3 Tryd.underlying30 HI.out HZ.out HZ1.out .i64 .i64 _ _ n rfl rfl (by omega) (by omega) ?c1 ?c2 (Nat.le_refl _) ?_)
  case c1 => rw [HZ2.out]; omega
  case c2 => unfold maxLen; omega
  · intro w1 hown hgrow
    have hb : Below w.heap.size w w1 := (Below.refl _ _).grown hgrow (Nat.le_refl _) (fun k hk => by cases hk)
    have hown0 : w1.ownsRow w.heap.size 52 3 (.slice (some ⟨w.heap.size, 0, none⟩) n n) n (fillA ats [] n) := by
      rw [show fillA ats [] n = zAt n by simp [fillA, ascells], ← made_zAt]; simpa [Value.cells] using hown
    have hsz1 : w.heap.size + 1 ≤ w1.heap.size := (hown0.lt _ rfl).2
    have HOwn := Lib.hid hown0
    have HBel := Lib.hid hb
    clear hown hgrow hb hown0
    go_wp2
    go_loopw [4] (fun i wr => ∃ hs' : List AH, hs'.length ≤ n ∧ i = .int .i64 (hs'.length : Nat) ∧ wr.ownsRow w.heap.size 52 3 (.slice (some ⟨w.heap.size, 0, none⟩) n n) n (fillA ats hs' n) ∧ RowsA (w.heap.size + 1) wr.heap.size wr hs' ats ∧ w.heap.size + 1 ≤ wr.heap.size ∧ Below w.heap.size w wr) (fun i _ => n - (intOf i).toNat)
    case atStart => exact ⟨[], Nat.zero_le _, rfl, HOwn.out, RowsA.nil _ _ _ _, hsz1, HBel.out⟩
    case round =>
      obtain ⟨hs', hk, rfl, hown, hrows, hsz, hbel⟩ := hrel
      by_cases hlt : hs'.length < n
      · obtain ⟨h, a, b, off, hh, ha, hra, hA, hbl, d0, d1, d2⟩ := R.out.get hlt
        have hat := HB.out _ a ha
        obtain ⟨l1, l2⟩ := rdA_len hra
        have hc1 : h.1.2.1 ≤ 1048576 := by unfold atot at hat; omega
        have hv1 : h.2.2.1 ≤ 1048576 := by unfold atot at hat; omega
        subst hA
        have f0 : wr.cell? ⟨b, off + hs'.length * 3, none⟩ = some (.string a.nm) := (hbel.cell (p := ⟨b, off + hs'.length * 3, none⟩) hbl).trans d0
        have f1 : wr.cell? ⟨b, off + hs'.length * 3 + 1, none⟩ = some (.slice h.1.1 h.1.2.1 h.1.2.2) := (hbel.cell (p := ⟨b, off + hs'.length * 3 + 1, none⟩) hbl).trans d1
        have f2 : wr.cell? ⟨b, off + hs'.length * 3 + 2, none⟩ = some (.slice h.2.1 h.2.2.1 h.2.2.2) := (hbel.cell (p := ⟨b, off + hs'.length * 3 + 2, none⟩) hbl).trans d2
        have HRA := Lib.hid (hra.below hbel (Nat.le_refl _))
        have HOwn1 := Lib.hid hown; have HRows := Lib.hid hrows; have HBel1 := Lib.hid hbel; have HA := Lib.hid ha; have HLt := Lib.hid hlt
        obtain ⟨k, hkk⟩ : ∃ k, hs'.length = k := ⟨_, rfl⟩
        have HK := Lib.hid hkk
        rw [hkk] at f0 f1 f2 hlt hk ⊢
        clear hown hrows hbel hra d0 d1 d2 hh ha l1 l2 hat hkk
        go_wp2_with fail
        refine (toAttr_any a h _ HRA.out hc1 hv1).mono ?_
        rintro e w2 ⟨h', rfl, o2, b2⟩
        have hz2 := b2.size
        have hown2 := own_below HOwn1.out b2 (Nat.le_refl _)
        have g0 : w2.frozen? ⟨w.heap.size, k * 3, none⟩ = false := hown2.frozenAt _
        have g1 : w2.frozen? ⟨w.heap.size, k * 3 + 1, none⟩ = false := hown2.frozenAt _
        have g2 : w2.frozen? ⟨w.heap.size, k * 3 + 2, none⟩ = false := hown2.frozenAt _
        have hl2 : (fillA ats hs' n).length = n * 3 := hown2.1
        obtain ⟨x0, q0⟩ : ∃ x, w2.cell? ⟨w.heap.size, k * 3, none⟩ = some x := ⟨_, by rw [hown2.cellAt (k * 3) (by omega)]; exact List.getElem?_eq_getElem (by omega)⟩
        obtain ⟨x1, q1⟩ : ∃ x, w2.cell? ⟨w.heap.size, k * 3 + 1, none⟩ = some x := ⟨_, by rw [hown2.cellAt (k * 3 + 1) (by omega)]; exact List.getElem?_eq_getElem (by omega)⟩
        obtain ⟨x2, q2⟩ : ∃ x, w2.cell? ⟨w.heap.size, k * 3 + 2, none⟩ = some x := ⟨_, by rw [hown2.cellAt (k * 3 + 2) (by omega)]; exact List.getElem?_eq_getElem (by omega)⟩
        obtain ⟨s1, s2⟩ := hown2.stored (k * 3) (.string a.nm)
        obtain ⟨s3, s4⟩ := s1.stored (k * 3 + 1) (.slice h'.1.1 h'.1.2.1 h'.1.2.2)
        obtain ⟨s5, s6⟩ := s3.stored (k * 3 + 2) (.slice h'.2.1 h'.2.2.1 h'.2.2.2)
        have e1 : (((fillA ats hs' n).set (k * 3) (.string a.nm)).set (k * 3 + 1) (.slice h'.1.1 h'.1.2.1 h'.1.2.2)).set (k * 3 + 2) (.slice h'.2.1 h'.2.2.1 h'.2.2.2) = fillA ats (hs' ++ [h']) n := by
          rw [← HK.out]; exact fillA_set ats hs' n a h' HA.out HLt.out
        rw [e1] at s5
        have HS1 := Lib.hid s5
        have hBel2 := HBel1.out.trans (b2.mono (by omega))
        have HS2 : Hid (Below w.heap.size w (((w2.setCell ⟨w.heap.size, k * 3, none⟩ (.string a.nm)).setCell ⟨w.heap.size, k * 3 + 1, none⟩ (.slice h'.1.1 h'.1.2.1 h'.1.2.2)).setCell ⟨w.heap.size, k * 3 + 2, none⟩ (.slice h'.2.1 h'.2.2.1 h'.2.2.2))) := by
          unfold Hid; go_grown
        have hrw : RowsA (w.heap.size + 1) w2.heap.size w2 (hs' ++ [h']) ats :=
          RowsA.snoc (HRows.out.same (same_below b2 (Nat.le_refl _))) HA.out o2 (by omega) (Nat.le_refl _) hz2
        have HS3 := Lib.hid (((hrw.same (same_set (b := w.heap.size) (off := k * 3) (u := .string a.nm) (by omega))).same (same_set (b := w.heap.size) (off := k * 3 + 1) (u := .slice h'.1.1 h'.1.2.1 h'.1.2.2) (by omega))).same (same_set (b := w.heap.size) (off := k * 3 + 2) (u := .slice h'.2.1 h'.2.2.1 h'.2.2.2) (by omega)))
        clear s1 s2 s3 s4 s5 s6 hrw o2 b2 hown2 e1 hBel2 hl2
        go_wp2_with fail
        go_roundw
        case rel => exact ⟨hs' ++ [h'], by simp [HK.out]; omega, by simp [HK.out], HS1.out, by simpa only [World.size_setCell] using HS3.out, by simp only [World.size_setCell]; omega, HS2.out⟩
        case measure => simp [intOf]; omega
      · have hkn : hs'.length = n := by omega
        have HO : Hid (OwAS w.heap.size wr.heap.size wr (some ⟨w.heap.size, 0, none⟩) n n hs' ats) := by
          refine ⟨⟨by rw [← fillA_full ats hs' n hkn HL.out]; exact hown, by intro k hk; simp [Value.ownBlock] at hk; omega⟩, HL.out, hkn, hrows.wide (by omega) (Nat.le_refl _), fun j y g e1 e2 e3 => ?_⟩
          have := hrows.top j y g e1 e3
          simp [Value.ownBlock] at e2
          omega
        have HB1 := Lib.hid hbel
        rw [hkn]
        clear hown hrows hbel
        go_wp2
        go_ret
        exact ⟨hs', rfl, HO.out, HB1.out⟩

set_option maxHeartbeats 1000000 in
theorem eqAttr_same (a : AD) (h h' : AH) (w : World) (r : RdA w a h) (r' : RdA w a h') (hc : a.cuts.length ≤ 1048576) (hv : a.vals.length ≤ 1048576) :
    Calls Tryd.prog 42 #[.agg #[.string a.nm, .slice h.1.1 h.1.2.1 h.1.2.2, .slice h.2.1 h.2.2.1 h.2.2.2], .agg #[.string a.nm, .slice h'.1.1 h'.1.2.1 h'.1.2.2, .slice h'.2.1 h'.2.2.1 h'.2.2.2]] w fun e w' => e = .returned (.bool true) ∧ Below w.heap.size w w' := by
  obtain ⟨l1, l2⟩ := rdA_len r
  obtain ⟨l1', l2'⟩ := rdA_len r'
  obtain ⟨⟨ca, cn, cc⟩, ⟨va, vn, vc⟩⟩ := h
  obtain ⟨⟨ca', cn', cc'⟩, ⟨va', vn', vc'⟩⟩ := h'
  simp only at l1 l2 l1' l2'
  subst l1 l2 l1' l2'
  have R := Lib.hid r; have R' := Lib.hid r'
  clear r r'
  have hs : (a.nm.toList == a.nm.toList) = true := (Lib.bytes_beq_iff _ _).2 rfl
  have hb0 : Below w.heap.size w ((w.alloc (.cells #[.string a.nm, .slice ca a.cuts.length cc, .slice va a.vals.length vc] 52)).alloc (.cells #[.string a.nm, .slice ca' a.cuts.length cc', .slice va' a.vals.length vc'] 52)) := by go_grown
  have HB0 := Lib.hid hb0
  have HB := Lib.hid (Below.refl (w.heap.size + 1 + 1) ((w.alloc (.cells #[.string a.nm, .slice ca a.cuts.length cc, .slice va a.vals.length vc] 52)).alloc (.cells #[.string a.nm, .slice ca' a.cuts.length cc', .slice va' a.vals.length vc'] 52)))
  clear hb0
  go_enter Tryd.func42, Tryd.ntmps42
  go_wp2_with fail
  refine (lift (eqIntS_same ca ca' a.cuts.length cc cc' a.cuts _ (R.out.cuts.below HB0.out (Nat.le_refl _)) (R'.out.cuts.below HB0.out (Nat.le_refl _)) (by omega)) HB.out (by simp)).mono ?_
  rintro e w1 ⟨rfl, hb⟩
  obtain ⟨bc, bf, bz⟩ := bcell hb
  have c02 : w1.cell? ⟨w.heap.size, 2, none⟩ = some (.slice va a.vals.length vc) := by rw [bc _ _ (by omega)]; simp [go_sem, World.cell?_alloc_past]
  have c12 : w1.cell? ⟨w.heap.size + 1, 2, none⟩ = some (.slice va' a.vals.length vc') := by rw [bc _ _ (by omega)]; simp [go_sem, World.cell?_alloc_past]
  have HB1 := Lib.hid (HB0.out.trans (hb.mono (by omega)))
  have hz := HB1.out.size
  clear hb bc bf bz hs
  go_wp2_with fail
  refine (eqStringS_same va va' a.vals.length vc vc' a.vals _ (R.out.vals.below HB1.out (Nat.le_refl _)) (R'.out.vals.below HB1.out (Nat.le_refl _)) (by omega)).mono ?_
  rintro e w2 ⟨rfl, hb⟩
  have HB2 := Lib.hid (HB1.out.trans (hb.mono hz))
  clear hb
  go_wp2_with fail
  go_ret
  exact ⟨rfl, HB2.out⟩

set_option maxHeartbeats 2000000 in
theorem eqAttrS_same (A C : Option Addr) (n c d : Nat) (hs gs : List AH) (ats : List AD) (w : World) (hx : RdAS w A n hs ats) (hy : RdAS w C n gs ats) (hn : n ≤ 1048576) (hb : asTot ats ≤ 1048576) :
    Calls Tryd.prog 27 #[.slice A n c, .slice C n d] w fun e w' => e = .returned (.bool true) ∧ Below w.heap.size w w' := by
  have HX := Lib.hid hx; have HY := Lib.hid hy
  have HB : Hid (∀ (k : Nat) (a : AD), ats[k]? = some a → atot a ≤ 1048576) := fun k a ha => Nat.le_trans (attr_le ha) hb
  clear hx hy hb
  go_enter Tryd.func27, Tryd.ntmps27
  go_wp2
  go_loopw [5] (fun i wr => ∃ k : Nat, k ≤ n ∧ i = .int .i64 k ∧ Below w.heap.size w wr) (fun i _ => n - (intOf i).toNat)
  case atStart => exact ⟨0, Nat.zero_le _, rfl, Below.refl _ _⟩
  case round =>
    obtain ⟨k, hk, rfl, hbel⟩ := hrel
    by_cases hlt : k < n
    · obtain ⟨h, a, b, off, hh, ha, hra, rfl, hbl, d0, d1, d2⟩ := HX.out.get hlt
      obtain ⟨h', a', b', off', hh', ha', hra', rfl, hbl', d0', d1', d2'⟩ := HY.out.get hlt
      rw [ha] at ha'; obtain rfl := Option.some.inj ha'
      have hat := HB.out k a ha
      have hc1 : a.cuts.length ≤ 1048576 := by unfold atot at hat; omega
      have hv1 : a.vals.length ≤ 1048576 := by unfold atot at hat; omega
      have K0 : Hid (wr.cell? ⟨b, off + k * 3, none⟩ = some (.string a.nm)) := Lib.hid ((hbel.cell (p := ⟨b, off + k * 3, none⟩) hbl).trans d0)
      have K1 : Hid (wr.cell? ⟨b, off + k * 3 + 1, none⟩ = some (.slice h.1.1 h.1.2.1 h.1.2.2)) := Lib.hid ((hbel.cell (p := ⟨b, off + k * 3 + 1, none⟩) hbl).trans d1)
      have K2 : Hid (wr.cell? ⟨b, off + k * 3 + 2, none⟩ = some (.slice h.2.1 h.2.2.1 h.2.2.2)) := Lib.hid ((hbel.cell (p := ⟨b, off + k * 3 + 2, none⟩) hbl).trans d2)
      have K0' : Hid (wr.cell? ⟨b', off' + k * 3, none⟩ = some (.string a.nm)) := Lib.hid ((hbel.cell (p := ⟨b', off' + k * 3, none⟩) hbl').trans d0')
      have K1' : Hid (wr.cell? ⟨b', off' + k * 3 + 1, none⟩ = some (.slice h'.1.1 h'.1.2.1 h'.1.2.2)) := Lib.hid ((hbel.cell (p := ⟨b', off' + k * 3 + 1, none⟩) hbl').trans d1')
      have K2' : Hid (wr.cell? ⟨b', off' + k * 3 + 2, none⟩ = some (.slice h'.2.1 h'.2.2.1 h'.2.2.2)) := Lib.hid ((hbel.cell (p := ⟨b', off' + k * 3 + 2, none⟩) hbl').trans d2')
      have HRA := Lib.hid (hra.below hbel (Nat.le_refl _)); have HRA' := Lib.hid (hra'.below hbel (Nat.le_refl _))
      have HBel := Lib.hid hbel
      have l1 : b < wr.heap.size := Nat.lt_of_lt_of_le hbl hbel.size
      have l2 : b' < wr.heap.size := Nat.lt_of_lt_of_le hbl' hbel.size
      have n0 : (0 : Int) ≤ (k : Int) := Int.natCast_nonneg _
      have n1 : (k : Int) < (n : Int) := by omega
      clear hbel hra hra' d0 d1 d2 d0' d1' d2' hh hh' ha hat
      go_wp2_with fail
      go_region_held3 (fun w' => w'.cell? ⟨b, off + k * 3, none⟩ = some (.string a.nm) ∧ w'.cell? ⟨b, off + k * 3 + 1, none⟩ = some (.slice h.1.1 h.1.2.1 h.1.2.2) ∧ w'.cell? ⟨b, off + k * 3 + 2, none⟩ = some (.slice h.2.1 h.2.2.1 h.2.2.2) ∧ w'.cell? ⟨b', off' + k * 3, none⟩ = some (.string a.nm) ∧ w'.cell? ⟨b', off' + k * 3 + 1, none⟩ = some (.slice h'.1.1 h'.1.2.1 h'.1.2.2) ∧ w'.cell? ⟨b', off' + k * 3 + 2, none⟩ = some (.slice h'.2.1 h'.2.2.1 h'.2.2.2) ∧ Below wr.heap.size wr w')
        (first
          | exact ⟨K0.out, K1.out, K2.out, K0'.out, K1'.out, K2'.out, (Below.refl _ _).drew⟩
          | exact ⟨(Below.cell (p := ⟨b, off + k * 3, none⟩) b7 l1).trans K0.out, (Below.cell (p := ⟨b, off + k * 3 + 1, none⟩) b7 l1).trans K1.out, (Below.cell (p := ⟨b, off + k * 3 + 2, none⟩) b7 l1).trans K2.out, (Below.cell (p := ⟨b', off' + k * 3, none⟩) b7 l2).trans K0'.out, (Below.cell (p := ⟨b', off' + k * 3 + 1, none⟩) b7 l2).trans K1'.out, (Below.cell (p := ⟨b', off' + k * 3 + 2, none⟩) b7 l2).trans K2'.out, b7⟩)
        ((go_at_call 42; go_split_ands; refine (lift (W0 := wr) (B := wr.heap.size) (eqAttr_same a h h' _ (HRA.out.below (by assumption) (Nat.le_refl _)) (HRA'.out.below (by assumption) (Nat.le_refl _)) hc1 hv1) (by assumption) (Nat.le_refl _)).mono ?_; rintro e w2 ⟨rfl, b7⟩))
      have HB2 := Lib.hid (HBel.out.trans (b7.mono HBel.out.size))
      clear b7
      go_wp2_with fail
      go_roundw
      case rel => exact ⟨k + 1, by omega, by go_num, HB2.out⟩
      case measure => simp [intOf]; omega
    · obtain rfl : k = n := by omega
      have HBel := Lib.hid hbel
      clear hbel
      go_wp2
      go_ret
      exact ⟨rfl, HBel.out⟩

end Go.Proofs.YtchkmcikpamdeaaDoor
