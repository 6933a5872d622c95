/-
  Objects of the call's own memory: each lies in a range of blocks; what turns elsewhere leaves it as it is.
-/
import Derived.Test.YtchkmcikpamdeaaDoorBase
namespace Go.Proofs.YtchkmcikpamdeaaDoor
open Go.RowKit

/-- The blocks from lo up to hi (not included) are as they were. -/
def Same (lo hi : Nat) (w w' : World) : Prop := ∀ k, lo ≤ k → k < hi → w'.heap[k]? = w.heap[k]?

theorem same_below {B lo hi : Nat} {w w' : World} (hb : Below B w w') (h : hi ≤ B) : Same lo hi w w' := fun k _ hk => hb.block k (by omega)
theorem same_alloc {lo hi : Nat} {w : World} (o : Obj) (h : hi ≤ w.heap.size) : Same lo hi w (w.alloc o) := fun k _ hk => Below.heap_alloc w o k (by omega)

/-- Nothing but blocks from lo up to hi has turned. -/
structure Only (lo hi : Nat) (w w' : World) : Prop where
  os : w'.os = w.os
  tape : w'.tape = w.tape
  output : w'.output = w.output
  size : w.heap.size ≤ w'.heap.size
  block : ∀ k, k < w.heap.size → (k < lo ∨ hi ≤ k) → w'.heap[k]? = w.heap[k]?

theorem same_only {l h lo hi : Nat} {w w' : World} (ho : Only l h w w') (hd : hi ≤ l ∨ h ≤ lo) (hs : hi ≤ w.heap.size) : Same lo hi w w' := fun k h1 h2 => ho.block k (by omega) (by omega)
theorem Only.below {l h B : Nat} {w w' : World} (ho : Only l h w w') (hl : B ≤ l) (hs : B ≤ w.heap.size) : Below B w w' := ⟨ho.os, ho.tape, ho.output, ho.size, fun k hk => ho.block k (by omega) (by omega)⟩
theorem Only.of_below {l h B : Nat} {w w' : World} (hb : Below B w w') (hs : w.heap.size ≤ B) : Only l h w w' := ⟨hb.os, hb.tape, hb.output, hb.size, fun k hk _ => hb.block k (by omega)⟩
theorem Only.of_grown {l h : Nat} {w w' : World} {row : Option Nat} (hg : w.grownBy w' row) (hr : ∀ k, row = some k → l ≤ k ∧ k < h) : Only l h w w' :=
  ⟨hg.os, hg.tape, hg.output, hg.size, fun k hk hd => hg.block k hk (fun e => by have := hr k e.symm; omega)⟩
theorem Only.trans {l h : Nat} {a b c : World} (h1 : Only l h a b) (h2 : Only l h b c) : Only l h a c :=
  ⟨h2.os.trans h1.os, h2.tape.trans h1.tape, h2.output.trans h1.output, Nat.le_trans h1.size h2.size, fun k hk hd => (h2.block k (Nat.lt_of_lt_of_le hk h1.size) hd).trans (h1.block k hk hd)⟩
theorem Only.mono {l h l' h' : Nat} {w w' : World} (ho : Only l h w w') (h1 : l' ≤ l) (h2 : h ≤ h') : Only l' h' w w' :=
  ⟨ho.os, ho.tape, ho.output, ho.size, fun k hk hd => ho.block k hk (by omega)⟩
theorem Only.refl (l h : Nat) (w : World) : Only l h w w := ⟨rfl, rfl, rfl, Nat.le_refl _, fun _ _ _ => rfl⟩

/-- A variable of the call's own: block b holds just these cells. -/
def Bx (w : World) (b : Nat) (t : TypeId) (cs : Array Value) : Prop := w.heap[b]? = some (.cells cs t (0, 0))
theorem Bx.new (w : World) (t : TypeId) (cs : Array Value) : Bx (w.alloc (.cells cs t)) w.heap.size t cs := heap_alloc_new w _
theorem Bx.lt {w : World} {b : Nat} {t : TypeId} {cs : Array Value} (h : Bx w b t cs) : b < w.heap.size := by
  rcases Nat.lt_or_ge b w.heap.size with hlt | hge
  · exact hlt
  · unfold Bx at h; rw [Array.getElem?_eq_none hge] at h; cases h
theorem Bx.same {w w' : World} {b : Nat} {t : TypeId} {cs : Array Value} (h : Bx w b t cs) (hs : Same b (b + 1) w w') : Bx w' b t cs := (hs b (Nat.le_refl _) (Nat.lt_succ_self _)).trans h
theorem Bx.cells {w : World} {b : Nat} {t : TypeId} {cs : Array Value} (h : Bx w b t cs) : ∀ i, w.cell? ⟨b, i, none⟩ = cs[i]? := fun i => cell_of_row w b i cs t (0, 0) h
theorem Bx.free {w : World} {b : Nat} {t : TypeId} {cs : Array Value} (h : Bx w b t cs) : ∀ i, w.frozen? ⟨b, i, none⟩ = false := fun i => by
  unfold Bx at h
  simp [World.frozen?, h]
theorem Bx.set_ {w : World} {b : Nat} {t : TypeId} {cs : Array Value} (h : Bx w b t cs) (i : Nat) (u : Value) : Bx (w.setCell ⟨b, i, none⟩ u) b t (cs.setIfInBounds i u) := by
  unfold Bx at h ⊢
  simp [World.setCell, Array.getElem?_modify, h]

/-- A row of elements of one cell each, of type e, in blocks from lo up to hi; nil or the head of a block. -/
structure Ow (e : TypeId) (lo hi : Nat) (w : World) (A : Option Addr) (n c : Nat) (xs : List Value) : Prop where
  own : w.ownsRow lo e 1 (.slice A n c) n xs
  top : ∀ k, (Value.slice A n c).ownBlock = some k → k < hi

theorem Ow.rd {e : TypeId} {lo hi : Nat} {w : World} {A : Option Addr} {n c : Nat} {xs : List Value} (h : Ow e lo hi w A n c xs) : Rd w A n xs := Rd.of_own h.own
theorem Ow.same {e : TypeId} {lo hi : Nat} {w w' : World} {A : Option Addr} {n c : Nat} {xs : List Value} (h : Ow e lo hi w A n c xs) (hs : Same lo hi w w') : Ow e lo hi w' A n c xs := by
  refine ⟨⟨h.own.1, ?_⟩, h.top⟩
  rcases h.own.2 with h2 | ⟨g, cap, cur, a, b, c', d⟩
  · exact .inl h2
  · exact .inr ⟨g, cap, cur, a, b, by rw [hs g b (h.top g (by rw [a]; rfl))]; exact c', d⟩
theorem Ow.of {e : TypeId} {lo : Nat} {w : World} {A : Option Addr} {n c : Nat} {xs : List Value} (h : w.ownsRow lo e 1 (.slice A n c) n xs) : Ow e lo w.heap.size w A n c xs := ⟨h, fun k hk => (h.lt k hk).2⟩
theorem Ow.wide {e : TypeId} {lo hi lo' hi' : Nat} {w : World} {A : Option Addr} {n c : Nat} {xs : List Value} (h : Ow e lo hi w A n c xs) (h1 : lo' ≤ lo) (h2 : hi ≤ hi') : Ow e lo' hi' w A n c xs :=
  ⟨own_base h.own h1, fun k hk => Nat.lt_of_lt_of_le (h.top k hk) h2⟩
/-- Behind a write into this row alone. -/
theorem Ow.only {e : TypeId} {lo hi : Nat} {w w' : World} {A : Option Addr} {n c : Nat} {xs : List Value} (h : Ow e lo hi w A n c xs) (hg : w.grownBy w' (Value.slice A n c).ownBlock) : Only lo hi w w' :=
  Only.of_grown hg fun k hk => ⟨(h.own.lt k hk).1, h.top k hk⟩

end Go.Proofs.YtchkmcikpamdeaaDoor
