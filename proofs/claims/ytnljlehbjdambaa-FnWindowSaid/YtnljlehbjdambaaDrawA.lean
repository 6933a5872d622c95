/-
  The draws of the cut test, of weights and of subsets: each returns some numbers and leaves old memory as it was.
-/
import Derived.Test.YtnljlehbjdambaaDraw
import Derived.Test.YtnljlehbjdambaaBinom
namespace Go.Proofs.Ytnljlehbjdambaa
open Go.RowKit
set_option linter.unusedSimpArgs false
set_option linter.unusedVariables false

/-- A pick from a list that is written out. -/
theorem pickLit (g : Nat) (A : Option Addr) (n c m : Nat) (bs xs : List Int) (w : World) (cs : Array Value) (T : TypeId) (hcs : cs.toList = xs.map (Value.int .i64)) (hm : xs.length = m) (h0 : 0 < m) (h1 : m ≤ 1000)
    (hu : ∀ z ∈ bs, 0 ≤ z ∧ z ≤ 255) (hn : n ≤ 1073741824) (h : Cur w g A n c bs) :
    Calls Try.prog 48 #[.pointer (some ⟨g, 0, none⟩), .slice (some ⟨w.heap.size, 0, none⟩) m m] (w.alloc (.cells cs T)) (PickR g A n c bs xs w) := by
  have hb := below_alloc1 (w := w) (.cells cs T)
  have hx : Rd (w.alloc (.cells cs T)) (some ⟨w.heap.size, 0, none⟩) m (xs.map (Value.int .i64)) := by
    refine ⟨by simpa using hm, fun _ => ⟨w.heap.size, 0, rfl, by simp, fun j v hv => ?_⟩⟩
    rw [← hcs] at hv
    have := (Bx.new w T cs).cells j
    rw [Nat.zero_add, this]
    simpa using hv
  have hlt := h.lt
  refine (l1PickInt_any g A _ n c m m bs xs _ hu hn (h.below hb (Nat.le_refl _)) hx (fun a ha => ?_) h0 h1).mono ?_
  · obtain rfl : (⟨w.heap.size, 0, none⟩ : Addr) = a := by simpa using ha
    simp only
    omega
  · rintro e w' ⟨x, rfl, hx, hc, ho⟩
    exact ⟨x, rfl, hx, hc, (Only.of_below hb (Nat.le_refl _)).trans ho⟩

end Go.Proofs.Ytnljlehbjdambaa
