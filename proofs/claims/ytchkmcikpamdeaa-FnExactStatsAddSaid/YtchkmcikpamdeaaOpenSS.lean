/-
  Opening an argument that is a slice of slices of numbers.
-/
import Derived.Test.YtchkmcikpamdeaaOpen
import Derived.Test.YtchkmcikpamdeaaSS
namespace Go.Proofs.Ytchkmcikpamdeaa
open Go.ChangeShapes Go.WideShapes Go.ChangeAt Go.RowKit Go.Deep
section
variable {H : Type} {enc : TypeId × Value → H} {P : Program} {w : World} {base : Nat} {spare : Nat → Bool} {held : Bool}
theorem list_rows {k : IntKind} {m : Nat} {e q : TypeId} (he : P.underlying e = some (.slice q)) (cq : P.cellsOf q = 1) (hq : P.underlying q = some (.int k)) : ∀ (vs : List Value), (∀ v ∈ vs, ∃ y, DataW.trod enc P w base spare held m e [v] = some y) →
    ∃ (hs : List Hd) (xss : List (List Int)), vs = hs.map hdV ∧ xss.length = hs.length ∧ (∀ (j : Nat) (x : Hd) (us : List Value), hs[j]? = some x → (xss.map (List.map (Value.int k)))[j]? = some us → Rd w x.1 x.2.1 us) ∧ (∀ x ∈ hs, x.2.1 ≤ x.2.2 ∧ x.2.2 ≤ maxLen) ∧ ∀ xs ∈ xss, ∀ z ∈ xs, (Lit.int k z).wf = true
  | [], _ => ⟨[], [], rfl, rfl, by simp, by simp, by simp⟩
  | v :: vs, h => by
    obtain ⟨y, hy⟩ := h v (by simp)
    obtain ⟨A, n, cap, zs, rfl, h1, h2, h3, h4⟩ := open_ints_rd he cq hq hy
    obtain ⟨hs, xss, rfl, g1, g2, g3, g4⟩ := list_rows he cq hq vs fun u hu => h u (by simp [hu])
    refine ⟨(A, n, cap) :: hs, zs :: xss, rfl, by simp [g1], fun j x us e1 e2 => ?_, fun x hx => ?_, fun xs hxs => ?_⟩
    · cases j with
      | zero =>
        simp only [List.getElem?_cons_zero, Option.some.injEq, List.map_cons] at e1 e2
        subst e1 e2; exact h3
      | succ j =>
        simp only [List.getElem?_cons_succ, List.map_cons] at e1 e2
        exact g2 j x us e1 e2
    · rcases List.mem_cons.1 hx with rfl | hx
      · exact ⟨h1, h2⟩
      · exact g3 x hx
    · rcases List.mem_cons.1 hxs with rfl | hxs
      · exact h4
      · exact g4 xs hxs
theorem open_rows {t e q : TypeId} {fuel : Nat} {c : Value} {x : DataW H × List MemPlace} (ht : P.underlying t = some (.slice e)) (hc : P.cellsOf e = 1) (he : P.underlying e = some (.slice q)) (cq : P.cellsOf q = 1) (hq : P.underlying q = some (.int .i64))
    (h : DataW.trod enc P w base spare held fuel t [c] = some x) :
    ∃ (A : Option Addr) (n cap : Nat) (hs : List Hd) (xss : List (List Int)), c = .slice A n cap ∧ n ≤ cap ∧ cap ≤ maxLen ∧ RdSS w A n hs (iss xss) ∧ (∀ x ∈ hs, x.2.1 ≤ x.2.2 ∧ x.2.2 ≤ maxLen) ∧ ∀ xs ∈ xss, ∀ z ∈ xs, (Lit.int .i64 z).wf = true := by
  obtain ⟨A, n, cap, m, vs, rfl, h1, h2, h3, h4⟩ := open_slice_rd ht hc h
  obtain ⟨hs, xss, rfl, g1, g2, g3, g4⟩ := list_rows he cq hq vs h4
  have hl := h3.len
  exact ⟨A, n, cap, hs, xss, rfl, h1, h2, ⟨h3, by rw [iss_len, g1]; simpa using hl, g2⟩, g3, g4⟩
end
end Go.Proofs.Ytchkmcikpamdeaa
