/-
  Rows of rows that a call owns: one more row is appended.
-/
import Derived.Test.YtchkmcikpamdeaaSS
namespace Go.Proofs.Ytchkmcikpamdeaa
open Go.RowKit
set_option linter.unusedSimpArgs false
set_option linter.unusedVariables false

theorem RowsOw.snoc2 {lo hi lo' hi' : Nat} {w : World} {hs : List Hd} {vss : List (List Value)} {x : Hd} {vs : List Value} (h : RowsOw lo hi w hs vss) (hl : vss.length = hs.length) (ho : Ow 3 lo' hi' w x.1 x.2.1 x.2.2 vs) (h1 : lo ≤ lo') (h2 : hi ≤ lo') (h3 : hi ≤ hi') : RowsOw lo hi' w (hs ++ [x]) (vss ++ [vs]) := by
  have h' : RowsOw lo hi w hs (vss ++ [vs]) := ⟨fun j a b e1 e2 => by
    have hj := get_lt e1
    rw [List.getElem?_append_left (by omega)] at e2
    exact h.row j a b e1 e2, h.apart, h.top⟩
  exact h'.snoc (by rw [← hl, List.getElem?_append_right (Nat.le_refl _)]; simp) ho h1 h2 h3
/-- One more row, in blocks behind all others, is appended: w the world ahead of the append, w' the one behind. -/
theorem OwSS.push {lo hi lo' hi' n c g cap : Nat} {w w' : World} {A : Option Addr} {hs : List Hd} {vss : List (List Value)} {x : Hd} {vs : List Value} (h : OwSS lo hi w A n c hs vss) (hr : Ow 3 lo' hi' w x.1 x.2.1 x.2.2 vs) (h1 : lo ≤ lo') (h2 : hi ≤ lo') (h3 : hi ≤ hi') (h4 : hi' ≤ w.heap.size)
    (hown : w'.ownsRow lo 26 1 (.slice (some ⟨g, 0, none⟩) (n + 1) cap) (n + 1) (hs.map hdV ++ [hdV x])) (hg : w.grownBy w' (Value.slice A n c).ownBlock) (hat : (Value.slice A n c).ownBlock = some g ∨ w.heap.size ≤ g) :
    OwSS lo w'.heap.size w' (some ⟨g, 0, none⟩) (n + 1) cap (hs ++ [x]) (vss ++ [vs]) := by
  have hsz := hg.size
  have hfar : ∀ (j : Nat) (y : Hd) (k : Nat), (hs ++ [x])[j]? = some y → (hdV y).ownBlock = some k → k < w.heap.size ∧ (Value.slice A n c).ownBlock ≠ some k := by
    intro j y k hj hk
    rcases snoc_get hj with e | ⟨rfl, rfl⟩
    · have := h.rows.top j y k e hk
      exact ⟨by omega, fun e2 => h.off j y k e e2 hk⟩
    · have h5 := hr.own.lt k hk
      have h6 := hr.top k hk
      exact ⟨by omega, fun e2 => by have := h.hd.top k e2; omega⟩
  have hR : RowsOw lo hi' w (hs ++ [x]) (vss ++ [vs]) := h.rows.snoc2 (by rw [h.len, h.hlen]) hr h1 h2 h3
  have hR' := (hR.grown hg (fun j y k e1 e2 => (hfar j y k e1 e2).2)).wide (Nat.le_refl lo) (show hi' ≤ w'.heap.size by omega)
  refine ⟨Ow.of (by rw [List.map_append]; exact hown), by simp [h.len], hR', fun j y k e1 e2 e3 => ?_⟩
  obtain ⟨f1, f2⟩ := hfar j y k e1 e3
  simp only [Value.ownBlock, Option.some.injEq] at e2
  subst e2
  rcases hat with e | e
  · exact f2 e
  · omega

theorem Ow.of_bx0 {T : TypeId} {lo hi b : Nat} {w : World} (h : Bx w b T #[]) (h1 : lo ≤ b) (h2 : b < hi) : Ow T lo hi w (some ⟨b, 0, none⟩) 0 0 [] :=
  ⟨⟨rfl, .inr ⟨b, 0, #[], rfl, h1, h, Nat.le_refl _, by simp [maxLen], rfl, rfl⟩⟩, fun k hk => by simp only [Value.ownBlock, Option.some.injEq] at hk; omega⟩
theorem two_lits (v : World) (T : TypeId) : Ow T v.heap.size ((v.alloc (.cells #[] T)).alloc (.cells #[] T)).heap.size ((v.alloc (.cells #[] T)).alloc (.cells #[] T)) (some ⟨v.heap.size, 0, none⟩) 0 0 [] ∧
    Ow T v.heap.size ((v.alloc (.cells #[] T)).alloc (.cells #[] T)).heap.size ((v.alloc (.cells #[] T)).alloc (.cells #[] T)) (some ⟨v.heap.size + 1, 0, none⟩) 0 0 [] := by
  have h1 : Bx ((v.alloc (.cells #[] T)).alloc (.cells #[] T)) v.heap.size T #[] := (Bx.new v T #[]).same (same_alloc _ (by simp only [World.size_alloc]; omega))
  have h2 : Bx ((v.alloc (.cells #[] T)).alloc (.cells #[] T)) (v.heap.size + 1) T #[] := by
    have h := Bx.new (v.alloc (.cells #[] T)) T #[]
    simpa only [World.size_alloc] using h
  exact ⟨Ow.of_bx0 h1 (Nat.le_refl _) (by simp only [World.size_alloc]; omega), Ow.of_bx0 h2 (Nat.le_succ _) (by simp only [World.size_alloc]; omega)⟩
/-- One number is appended to a row that a call owns: where the new row lies, and what stays. -/
theorem Ow.pushed {T : TypeId} {lo hi n c cap g a : Nat} {w w' : World} {xs ys : List Value} (h : Ow T lo hi w (some ⟨a, 0, none⟩) n c xs) (hh : hi ≤ w.heap.size) (hown : w'.ownsRow lo T 1 (.slice (some ⟨g, 0, none⟩) (n + 1) cap) (n + 1) ys) (hg : w.grownBy w' (some a)) : Ow T lo w'.heap.size w' (some ⟨g, 0, none⟩) (n + 1) cap ys := Ow.of hown
theorem two_cells {w w' : World} {b : Nat} (x y : Value) (hB : Below w.heap.size w w') (hb : w.heap.size ≤ b) : Below w.heap.size w ((w'.setCell ⟨b, 0, none⟩ x).setCell ⟨b, 1, none⟩ y) :=
  Below.setCell (p := ⟨b, 1, none⟩) (Below.setCell (p := ⟨b, 0, none⟩) hB hb _) hb _
theorem two_cells_drew {w w' : World} {b : Nat} (x y : Value) (hB : Below w.heap.size w w') (hb : w.heap.size ≤ b) : Below w.heap.size w ((w'.setCell ⟨b, 0, none⟩ x).setCell ⟨b, 1, none⟩ y).drew := (two_cells x y hB hb).drew

end Go.Proofs.Ytchkmcikpamdeaa
