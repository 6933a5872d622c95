/-
  Draws that append to a list: what they return is a new list of numbers; the cursor's block alone has turned.
-/
import Derived.Test.YtnljlehbjdambaaDrawA
import Derived.Test.YtnljlehbjdambaaAsc
import Derived.Test.YtnljlehbjdambaaSquares
namespace Go.Proofs.Ytnljlehbjdambaa
open Go.RowKit
set_option linter.unusedSimpArgs false
set_option linter.unusedVariables false

theorem own_only {w w' : World} {base l h : Nat} {e : TypeId} {size n : Nat} {v : Value} {xs : List Value} (ho : w.ownsRow base e size v n xs) (hn : Only l h w w') (hl : h ≤ base) : w'.ownsRow base e size v n xs := by
  refine ⟨ho.1, ?_⟩
  rcases ho.2 with h2 | ⟨g, cap, cur, a, b, c', d⟩
  · exact .inl h2
  · have hlt : g < w.heap.size := by
      rcases Nat.lt_or_ge g w.heap.size with hlt | hge
      · exact hlt
      · rw [Array.getElem?_eq_none hge] at c'; cases c'
    exact .inr ⟨g, cap, cur, a, b, by rw [hn.block g hlt (by omega)]; exact c', d⟩
theorem Cur.below2 {w w' : World} {B g : Nat} {A : Option Addr} {n c : Nat} {bs : List Int} (h : Cur w g A n c bs) (hb : Below B w w') (hB : g < B) : Cur w' g A n c bs := by
  obtain ⟨i, z, hi, hx⟩ := h.ex
  refine ⟨⟨i, z, hi, hx.same (same_below hb (by omega))⟩, ⟨h.rd.len, fun hn => ?_⟩, h.far⟩
  obtain ⟨b, off, rfl, hlt, hc⟩ := h.rd.ex hn
  have := h.far hn _ rfl
  simp only at this
  exact ⟨b, off, rfl, Nat.lt_of_lt_of_le hlt hb.size, fun j u hu => (hb.cell (p := ⟨b, off + j, none⟩) (by show b < B; omega)).trans (hc j u hu)⟩
theorem Only.below_ {l h B : Nat} {a b c : World} (h1 : Only l h a b) (h2 : Below B b c) (hB : a.heap.size ≤ B) : Only l h a c :=
  ⟨h2.os.trans h1.os, h2.tape.trans h1.tape, h2.output.trans h1.output, Nat.le_trans h1.size h2.size, fun k hk hd => (h2.block k (by omega)).trans (h1.block k hk hd)⟩
theorem grow_below {B : Nat} {W w3 : World} {A : Option Addr} {k c : Nat} {e : TypeId} {xs : List Value} {o : Obj} (h : W.ownsRow B e 1 (.slice A k c) k xs) (hg : (W.alloc o).grownBy w3 (Value.slice A k c).ownBlock) (hB : B ≤ W.heap.size) : Below B W w3 :=
  ((Below.refl B W).alloc hB o).grown hg (by simp; omega) (fun k hk => (h.lt k hk).1)

end Go.Proofs.Ytnljlehbjdambaa
