/-
  Base of the proofs of this seat: what a slice value reads as, and small facts on worlds. No function of the program is walked here.
-/
import Derived.Test.YtccohhhnfaidhaaRows
import Derived.WalkKit
import Derived.WalkSpells
import Derived.WalkLawsBesides
import Derived.Handy
import Derived.BigQuiet
import Derived.Deep.QuietTactic
import Derived.Deep.RegionHeld3
import Derived.Lib.Hide
namespace Go.Proofs.Ytccohhhnfaidhaa
open Go.RowKit

/-- x lies from lo to hi. -/
def inB (x lo hi : Int) : Bool := decide (lo ≤ x) && decide (x ≤ hi)
theorem inB_yes {x lo hi : Int} (h1 : lo ≤ x) (h2 : x ≤ hi) : inB x lo hi = true := by simp [inB, h1, h2]
theorem inB_no {x lo hi : Int} (h : ¬ (lo ≤ x ∧ x ≤ hi)) : inB x lo hi = false := by
  unfold inB
  by_cases h1 : lo ≤ x
  · have h2 : ¬ x ≤ hi := fun h2 => h ⟨h1, h2⟩
    simp [h2]
  · simp [h1]
theorem inB_iff {x lo hi : Int} : inB x lo hi = true ↔ lo ≤ x ∧ x ≤ hi := by simp [inB]

/-- Behind a call that left all memory below B as it was: old cells, old marks, the size. -/
theorem bcell {B : Nat} {W w1 : World} (hb : Below B W w1) : (∀ b o, b < B → w1.cell? ⟨b, o, none⟩ = W.cell? ⟨b, o, none⟩) ∧ (∀ b o, b < B → w1.frozen? ⟨b, o, none⟩ = W.frozen? ⟨b, o, none⟩) ∧ W.heap.size ≤ w1.heap.size :=
  ⟨fun b o h => hb.cell (p := ⟨b, o, none⟩) h, fun b o h => hb.frozen (p := ⟨b, o, none⟩) h, hb.size⟩

/-- A contract that leaves old memory alone, read from an earlier world on. -/
theorem lift {P : Program} {F : FuncId} {args : Array Value} {w W0 : World} {B : Nat} {R : Ending → World → Prop} (h : Calls P F args w fun e w' => R e w' ∧ Below w.heap.size w w') (hB : Below B W0 w) (hs : B ≤ W0.heap.size) :
    Calls P F args w fun e w' => R e w' ∧ Below B W0 w' :=
  h.mono fun _ _ ⟨h1, h2⟩ => ⟨h1, hB.trans (h2.mono (Nat.le_trans hs hB.size))⟩

theorem fin_below {w W0 w' : World} {B B' : Nat} (h : Below B' W0 w') (h0 : Below B w W0) (hle : B ≤ B') : Below B w w' := h0.trans (h.mono hle)

/-- The slice value '.slice A n c' reads as the n values xs. -/
structure Rd (w : World) (A : Option Addr) (n : Nat) (xs : List Value) : Prop where
  len : xs.length = n
  ex : 0 < n → ∃ b off, A = some ⟨b, off, none⟩ ∧ b < w.heap.size ∧ ∀ j u, xs[j]? = some u → w.cell? ⟨b, off + j, none⟩ = some u

theorem Rd.below {w w' : World} {B : Nat} {A : Option Addr} {n : Nat} {xs : List Value} (h : Rd w A n xs) (hb : Below B w w') (hB : w.heap.size ≤ B) : Rd w' A n xs :=
  ⟨h.len, fun hn => by
    obtain ⟨b, off, rfl, hlt, hc⟩ := h.ex hn
    exact ⟨b, off, rfl, Nat.lt_of_lt_of_le hlt hb.size, fun j u hu => (hb.cell (p := ⟨b, off + j, none⟩) (by show b < B; omega)).trans (hc j u hu)⟩⟩
theorem Rd.none_ (w : World) (c : Option Addr) : Rd w c 0 [] := ⟨rfl, fun h => absurd h (by omega)⟩

end Go.Proofs.Ytccohhhnfaidhaa
