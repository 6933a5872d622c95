/-
  Rows of rows of numbers: what they read as, and what a call owns of them.
-/
import Derived.Test.YtchkmcikpamdeaaDoorSz
import Derived.Test.YtchkmcikpamdeaaDoorObj
namespace Go.Proofs.YtchkmcikpamdeaaDoor
open Go.RowKit
set_option linter.unusedSimpArgs false
set_option linter.unusedVariables false

abbrev Hd := Option Addr × Nat × Nat
def hdV (h : Hd) : Value := .slice h.1 h.2.1 h.2.2
def iss (xss : List (List Int)) : List (List Value) := xss.map (List.map (Value.int .i64))
theorem iss_get {xss : List (List Int)} {j : Nat} {xs : List Int} (h : xss[j]? = some xs) : (iss xss)[j]? = some (xs.map (Value.int .i64)) := by simp [iss, h]
theorem iss_get' {xss : List (List Int)} {j : Nat} {vs : List Value} (h : (iss xss)[j]? = some vs) : ∃ xs, xss[j]? = some xs ∧ vs = xs.map (Value.int .i64) := by
  simp only [iss, List.getElem?_map, Option.map_eq_some_iff] at h
  obtain ⟨xs, h1, h2⟩ := h
  exact ⟨xs, h1, h2.symm⟩
theorem iss_len (xss : List (List Int)) : (iss xss).length = xss.length := by simp [iss]
def tot (vss : List (List Value)) : Nat := (vss.map List.length).sum
def totI (xss : List (List Int)) : Nat := (xss.map List.length).sum
theorem tot_iss (xss : List (List Int)) : tot (iss xss) = totI xss := by
  unfold tot totI iss; rw [List.map_map]; congr 1; apply List.map_congr_left; intro a _; simp

/-- The slice value '.slice A n c' reads as the rows vss, by the headers hs. -/
structure RdSS (w : World) (A : Option Addr) (n : Nat) (hs : List Hd) (vss : List (List Value)) : Prop where
  hd : Rd w A n (hs.map hdV)
  len : vss.length = n
  row : ∀ (j : Nat) (h : Hd) (vs : List Value), hs[j]? = some h → vss[j]? = some vs → Rd w h.1 h.2.1 vs

theorem RdSS.hlen {w : World} {A : Option Addr} {n : Nat} {hs : List Hd} {vss : List (List Value)} (h : RdSS w A n hs vss) : hs.length = n := by simpa using h.hd.len
theorem RdSS.below {w w' : World} {B : Nat} {A : Option Addr} {n : Nat} {hs : List Hd} {vss : List (List Value)} (h : RdSS w A n hs vss) (hb : Below B w w') (hB : w.heap.size ≤ B) : RdSS w' A n hs vss :=
  ⟨h.hd.below hb hB, h.len, fun j a b h1 h2 => (h.row j a b h1 h2).below hb hB⟩
theorem RdSS.get {w : World} {A : Option Addr} {n k : Nat} {hs : List Hd} {vss : List (List Value)} (h : RdSS w A n hs vss) (hk : k < n) :
    ∃ (x : Hd) (vs : List Value), hs[k]? = some x ∧ vss[k]? = some vs ∧ Rd w x.1 x.2.1 vs ∧ vs.length = x.2.1 := by
  have h1 : k < hs.length := by rw [h.hlen]; exact hk
  have h2 : k < vss.length := by rw [h.len]; exact hk
  have h3 := h.row k hs[k] vss[k] (List.getElem?_eq_getElem h1) (List.getElem?_eq_getElem h2)
  exact ⟨hs[k], vss[k], List.getElem?_eq_getElem h1, List.getElem?_eq_getElem h2, h3, h3.len⟩
theorem RdSS.head {w : World} {A : Option Addr} {n k : Nat} {hs : List Hd} {vss : List (List Value)} {x : Hd} (h : RdSS w A n hs vss) (hk : k < n) (hx : hs[k]? = some x) :
    ∃ b off, A = some ⟨b, off, none⟩ ∧ b < w.heap.size ∧ w.cell? ⟨b, off + k, none⟩ = some (.slice x.1 x.2.1 x.2.2) := by
  obtain ⟨b, off, hA, hlt, hc⟩ := h.hd.ex (by omega)
  exact ⟨b, off, hA, hlt, hc k _ (by simp [hx, hdV])⟩
theorem RdSS.cast {w : World} {A : Option Addr} {n : Nat} {hs : List Hd} {vss vss' : List (List Value)} (h : RdSS w A n hs vss) (e : vss = vss') : RdSS w A n hs vss' := e ▸ h

/-- The sum of the lengths of the first j rows. -/
def upto (vss : List (List Value)) (j : Nat) : Nat := ((vss.map List.length).take j).sum
theorem upto_zero (vss : List (List Value)) : upto vss 0 = 0 := by simp [upto]
theorem upto_succ {vss : List (List Value)} {j : Nat} {vs : List Value} (h : vss[j]? = some vs) : upto vss (j + 1) = upto vss j + vs.length := by
  obtain ⟨h1, h2⟩ := List.getElem?_eq_some_iff.1 h
  unfold upto
  rw [sum_set _ _ (by simpa using h1)]
  simp [h2]
theorem upto_le (vss : List (List Value)) (j : Nat) : upto vss j ≤ tot vss := sum_take_le _ _
theorem upto_all {vss : List (List Value)} {n : Nat} (h : vss.length = n) : upto vss n = tot vss := by unfold upto tot; rw [List.take_of_length_le (by simp [h])]

theorem Ow.grown {e : TypeId} {lo hi : Nat} {w w' : World} {row : Option Nat} {A : Option Addr} {n c : Nat} {xs : List Value} (h : Ow e lo hi w A n c xs) (hg : w.grownBy w' row) (hne : ∀ g, (Value.slice A n c).ownBlock = some g → row ≠ some g) : Ow e lo hi w' A n c xs := by
  refine ⟨⟨h.own.1, ?_⟩, h.top⟩
  rcases h.own.2 with h2 | ⟨g, cap, cur, a, b, c', d⟩
  · exact .inl h2
  · have hl := (h.own.lt g (by rw [a]; rfl)).2
    exact .inr ⟨g, cap, cur, a, b, by rw [hg.block g hl (fun e => hne g (by rw [a]; rfl) e.symm)]; exact c', d⟩
theorem Ow.of_new {e : TypeId} {lo : Nat} {w : World} {A : Option Addr} {n c : Nat} {xs : List Value} (h : w.ownsRow lo e 1 (.slice A n c) n xs) : Ow e lo w.heap.size w A n c xs := Ow.of h

/-- Rows that a call owns, in blocks from lo up to hi, no two of them in one block. -/
structure RowsOw (lo hi : Nat) (w : World) (hs : List Hd) (vss : List (List Value)) : Prop where
  row : ∀ (j : Nat) (h : Hd) (vs : List Value), hs[j]? = some h → vss[j]? = some vs → Ow 3 lo hi w h.1 h.2.1 h.2.2 vs
  apart : ∀ (i j : Nat) (x y : Hd) (g : Nat), hs[i]? = some x → hs[j]? = some y → (hdV x).ownBlock = some g → (hdV y).ownBlock = some g → i = j
  top : ∀ (j : Nat) (x : Hd) (g : Nat), hs[j]? = some x → (hdV x).ownBlock = some g → lo ≤ g ∧ g < hi

theorem snoc_get {hs : List Hd} {x y : Hd} {j : Nat} (h : (hs ++ [x])[j]? = some y) : hs[j]? = some y ∨ (j = hs.length ∧ y = x) := by
  rcases Nat.lt_or_ge j hs.length with h1 | h1
  · left; rwa [List.getElem?_append_left h1] at h
  · right
    rw [List.getElem?_append_right h1] at h
    have : j - hs.length = 0 := by
      rcases Nat.eq_zero_or_pos (j - hs.length) with h2 | h2
      · exact h2
      · rw [List.getElem?_eq_none (by simp; omega)] at h; cases h
    rw [this] at h
    exact ⟨by omega, by simpa using h.symm⟩
theorem get_lt {hs : List Hd} {x : Hd} {j : Nat} (h : hs[j]? = some x) : j < hs.length := (List.getElem?_eq_some_iff.1 h).1

section
variable {lo hi : Nat} {w w' : World} {hs : List Hd} {vss : List (List Value)}
theorem RowsOw.nil (lo hi : Nat) (w : World) (vss : List (List Value)) : RowsOw lo hi w [] vss := ⟨by simp, by simp, by simp⟩
theorem RowsOw.same (h : RowsOw lo hi w hs vss) (hs' : Same lo hi w w') : RowsOw lo hi w' hs vss := ⟨fun j a b h1 h2 => (h.row j a b h1 h2).same hs', h.apart, h.top⟩
theorem RowsOw.wide {lo' hi' : Nat} (h : RowsOw lo hi w hs vss) (h1 : lo' ≤ lo) (h2 : hi ≤ hi') : RowsOw lo' hi' w hs vss :=
  ⟨fun j a b e1 e2 => (h.row j a b e1 e2).wide h1 h2, h.apart, fun j x g e1 e2 => by have := h.top j x g e1 e2; omega⟩
theorem RowsOw.grown {row : Option Nat} (h : RowsOw lo hi w hs vss) (hg : w.grownBy w' row) (hne : ∀ (j : Nat) (x : Hd) (g : Nat), hs[j]? = some x → (hdV x).ownBlock = some g → row ≠ some g) : RowsOw lo hi w' hs vss :=
  ⟨fun j a b h1 h2 => (h.row j a b h1 h2).grown hg (fun g h3 => hne j a g h1 h3), h.apart, h.top⟩
/-- One more row, in blocks behind all others. -/
theorem RowsOw.snoc {lo' hi' : Nat} {x : Hd} {vs : List Value} (h : RowsOw lo hi w hs vss) (hv : vss[hs.length]? = some vs) (ho : Ow 3 lo' hi' w x.1 x.2.1 x.2.2 vs) (h1 : lo ≤ lo') (h2 : hi ≤ lo') (h3 : hi ≤ hi') : RowsOw lo hi' w (hs ++ [x]) vss := by
  have hb : ∀ g, (hdV x).ownBlock = some g → lo' ≤ g ∧ g < hi' := fun g hg => ⟨(ho.own.lt g hg).1, ho.top g hg⟩
  refine ⟨fun j y us e1 e2 => ?_, fun i j a b g e1 e2 e3 e4 => ?_, fun j y g e1 e2 => ?_⟩
  · rcases snoc_get e1 with e | ⟨rfl, rfl⟩
    · exact (h.row j y us e e2).wide (Nat.le_refl _) h3
    · rw [hv] at e2; obtain rfl := Option.some.inj e2
      exact ho.wide h1 (Nat.le_refl _)
  · rcases snoc_get e1 with e | ⟨rfl, rfl⟩ <;> rcases snoc_get e2 with e' | ⟨rfl, rfl⟩
    · exact h.apart i j a b g e e' e3 e4
    · have := h.top i a g e e3; have := hb g e4; omega
    · have := h.top j b g e' e4; have := hb g e3; omega
    · rfl
  · rcases snoc_get e1 with e | ⟨rfl, rfl⟩
    · have := h.top j y g e e2; omega
    · have := hb g e2; omega
/-- One row is written in place. -/
theorem RowsOw.put {q : Nat} {x : Hd} {vs' : List Value} (h : RowsOw lo hi w hs vss) (hx : hs[q]? = some x) (hg : w.grownBy w' (hdV x).ownBlock) (ho : Ow 3 lo hi w' x.1 x.2.1 x.2.2 vs') : RowsOw lo hi w' hs (vss.set q vs') := by
  refine ⟨fun j y vs h1 h2 => ?_, h.apart, h.top⟩
  by_cases hj : q = j
  · subst hj
    rw [hx] at h1
    obtain rfl := Option.some.inj h1
    have hl : q < vss.length := by have := (List.getElem?_eq_some_iff.1 h2).1; simpa using this
    simp only [List.getElem?_set_self hl] at h2
    obtain rfl := Option.some.inj h2
    exact ho
  · rw [List.getElem?_set_ne hj] at h2
    exact (h.row j y vs h1 h2).grown hg (fun g e1 e2 => hj (h.apart q j x y g hx h1 e2 e1))
/-- One row gives way to another one, in blocks behind all. -/
theorem RowsOw.swap {q lo' hi' : Nat} {x : Hd} {vs' : List Value} (h : RowsOw lo hi w hs vss) (hq : q < vss.length) (ho : Ow 3 lo' hi' w x.1 x.2.1 x.2.2 vs') (h1 : lo ≤ lo') (h2 : hi ≤ lo') (h3 : hi ≤ hi') : RowsOw lo hi' w (hs.set q x) (vss.set q vs') := by
  have hb : ∀ g, (hdV x).ownBlock = some g → lo' ≤ g ∧ g < hi' := fun g hg => ⟨(ho.own.lt g hg).1, ho.top g hg⟩
  have gt : ∀ (j : Nat) (y : Hd), (hs.set q x)[j]? = some y → (j ≠ q ∧ hs[j]? = some y) ∨ (j = q ∧ y = x) := by
    intro j y hj
    by_cases e : q = j
    · subst e
      have hl : q < hs.length := by have := (List.getElem?_eq_some_iff.1 hj).1; simpa using this
      rw [List.getElem?_set_self hl] at hj
      exact .inr ⟨rfl, (Option.some.inj hj).symm⟩
    · rw [List.getElem?_set_ne e] at hj
      exact .inl ⟨fun h => e h.symm, hj⟩
  refine ⟨fun j y us e1 e2 => ?_, fun i j a b g e1 e2 e3 e4 => ?_, fun j y g e1 e2 => ?_⟩
  · rcases gt j y e1 with ⟨hne, e⟩ | ⟨rfl, rfl⟩
    · rw [List.getElem?_set_ne (fun h => hne h.symm)] at e2
      exact (h.row j y us e e2).wide (Nat.le_refl _) h3
    · rw [List.getElem?_set_self hq] at e2; obtain rfl := Option.some.inj e2
      exact ho.wide h1 (Nat.le_refl _)
  · rcases gt i a e1 with ⟨hne, e⟩ | ⟨rfl, rfl⟩ <;> rcases gt j b e2 with ⟨hne', e'⟩ | ⟨rfl, rfl⟩
    · exact h.apart i j a b g e e' e3 e4
    · have := h.top i a g e e3; have := hb g e4; omega
    · have := h.top j b g e' e4; have := hb g e3; omega
    · rfl
  · rcases gt j y e1 with ⟨hne, e⟩ | ⟨rfl, rfl⟩
    · have := h.top j y g e e2; omega
    · have := hb g e2; omega
end

/-- Rows of rows, in blocks from lo up to hi, no two of them in one block. -/
structure OwSS (lo hi : Nat) (w : World) (A : Option Addr) (n c : Nat) (hs : List Hd) (vss : List (List Value)) : Prop where
  hd : Ow 40 lo hi w A n c (hs.map hdV)
  len : vss.length = n
  rows : RowsOw lo hi w hs vss
  off : ∀ (j : Nat) (y : Hd) (g : Nat), hs[j]? = some y → (Value.slice A n c).ownBlock = some g → (hdV y).ownBlock = some g → False

section
variable {lo hi : Nat} {w w' : World} {A : Option Addr} {n c : Nat} {hs : List Hd} {vss : List (List Value)}
theorem OwSS.rd (h : OwSS lo hi w A n c hs vss) : RdSS w A n hs vss := ⟨h.hd.rd, h.len, fun j a b h1 h2 => (h.rows.row j a b h1 h2).rd⟩
theorem OwSS.same (h : OwSS lo hi w A n c hs vss) (hs' : Same lo hi w w') : OwSS lo hi w' A n c hs vss := ⟨h.hd.same hs', h.len, h.rows.same hs', h.off⟩
theorem OwSS.wide {lo' hi' : Nat} (h : OwSS lo hi w A n c hs vss) (h1 : lo' ≤ lo) (h2 : hi ≤ hi') : OwSS lo' hi' w A n c hs vss := ⟨h.hd.wide h1 h2, h.len, h.rows.wide h1 h2, h.off⟩
theorem OwSS.hlen (h : OwSS lo hi w A n c hs vss) : hs.length = n := h.rd.hlen
theorem OwSS.cast {vss' : List (List Value)} (h : OwSS lo hi w A n c hs vss) (e : vss = vss') : OwSS lo hi w A n c hs vss' := e ▸ h
theorem OwSS.nil (lo hi : Nat) (w : World) : OwSS lo hi w none 0 0 [] [] :=
  ⟨⟨World.ownsRow_nil _ _ _ _, by intro k hk; cases hk⟩, rfl, RowsOw.nil _ _ _ _, by simp⟩
/-- One row is written in place. -/
theorem OwSS.put {q : Nat} {x : Hd} {vs' : List Value} (h : OwSS lo hi w A n c hs vss) (hx : hs[q]? = some x) (hg : w.grownBy w' (hdV x).ownBlock) (ho : Ow 3 lo hi w' x.1 x.2.1 x.2.2 vs') : OwSS lo hi w' A n c hs (vss.set q vs') :=
  ⟨h.hd.grown hg (fun g h1 h2 => h.off q x g hx h1 h2), by simp [h.len], h.rows.put hx hg ho, h.off⟩
theorem OwSS.only {q : Nat} {x : Hd} (h : OwSS lo hi w A n c hs vss) (hx : hs[q]? = some x) {vs : List Value} (hv : vss[q]? = some vs) (hg : w.grownBy w' (hdV x).ownBlock) : Only lo hi w w' := (h.rows.row q x vs hx hv).only hg
end

/-- The marks that markIntSS leaves: from k on, row by row. -/
def marksSS (k : Nat) (vss : List (List Value)) : List (List Value) := vss.mapIdx fun j vs => marksIntS (k + upto vss j) vs.length
theorem marksSS_get {k j : Nat} {vss : List (List Value)} {vs : List Value} (h : vss[j]? = some vs) : (marksSS k vss)[j]? = some (marksIntS (k + upto vss j) vs.length) := by simp [marksSS, h]
theorem marksSS_len (k : Nat) (vss : List (List Value)) : (marksSS k vss).length = vss.length := by simp [marksSS]
theorem marks_step (ms vss : List (List Value)) (q : Nat) (m : List Value) (hm : ms[q]? = some m) (hl : ms.length = vss.length) : (ms.take q ++ vss.drop q).set q m = ms.take (q + 1) ++ vss.drop (q + 1) := by
  have h1 := (List.getElem?_eq_some_iff.1 hm).1
  have h2 : (ms.take q).length = q := by simp; omega
  rw [List.set_append_right _ _ (by omega), h2, Nat.sub_self, List.drop_eq_getElem_cons (by omega : q < vss.length), List.set_cons_zero, List.take_succ_eq_append_getElem h1]
  have : ms[q] = m := (List.getElem?_eq_some_iff.1 hm).2
  rw [this]; simp

end Go.Proofs.YtchkmcikpamdeaaDoor
