/-
  Rows of rows that a call owns: one row is turned in place or moves to a new block; what WindowAdd answers.
-/
import Derived.Test.YtnljlehbjdambaaDropO
namespace Go.Proofs.Ytnljlehbjdambaa
open Go.RowKit
set_option linter.unusedSimpArgs false
set_option linter.unusedVariables false

/-- One row is turned (in its own block, or moved to a new one); its header is stored. -/
theorem OwSS.turn {lo hi g n c q : Nat} {w w1 : World} {hs : List Hd} {vss : List (List Value)} {x y : Hd} {vs' : List Value} (h : OwSS lo hi w (some ⟨g, 0, none⟩) n c hs vss) (hh : hi ≤ w.heap.size) (hx : hs[q]? = some x)
    (hg : w.grownBy w1 (hdV x).ownBlock) (ho : w1.ownsRow lo 3 1 (.slice y.1 y.2.1 y.2.2) y.2.1 vs') (hat : ∀ k, (hdV y).ownBlock = some k → (hdV x).ownBlock = some k ∨ w.heap.size ≤ k) :
    OwSS lo w1.heap.size (w1.setCell ⟨g, q, none⟩ (hdV y)) (some ⟨g, 0, none⟩) n c (hs.set q y) (vss.set q vs') := by
  have hsz := hg.size
  have hgt := h.hd.top g rfl
  have hql : q < hs.length := get_lt hx
  have hgl : hs.length = vss.length := by rw [h.hlen, h.len]
  have hd1 : Ow 54 lo hi w1 (some ⟨g, 0, none⟩) n c (hs.map hdV) := h.hd.grown hg (fun k e1 e2 => h.off q x k hx e1 e2)
  obtain ⟨s1, s2⟩ := hd1.own.stored q (hdV y)
  have gt : ∀ (j : Nat) (z : Hd), (hs.set q y)[j]? = some z → (j ≠ q ∧ hs[j]? = some z) ∨ (j = q ∧ z = y) := by
    intro j z hj
    by_cases e : q = j
    · subst e
      rw [List.getElem?_set_self hql] at hj
      exact .inr ⟨rfl, (Option.some.inj hj).symm⟩
    · rw [List.getElem?_set_ne e] at hj
      exact .inl ⟨fun h => e h.symm, hj⟩
  have htop : ∀ (j : Nat) (z : Hd) (k : Nat), (hs.set q y)[j]? = some z → (hdV z).ownBlock = some k → lo ≤ k ∧ k < w1.heap.size := by
    intro j z k hj hk
    rcases gt j z hj with ⟨_, e⟩ | ⟨_, rfl⟩
    · have := h.rows.top j z k e hk; omega
    · exact ho.lt k hk
  have hfar : ∀ (j : Nat) (z : Hd) (k : Nat), (hs.set q y)[j]? = some z → (hdV z).ownBlock = some k → g ≠ k := by
    intro j z k hj hk e
    subst e
    rcases gt j z hj with ⟨_, e⟩ | ⟨_, rfl⟩
    · exact h.off j z g e rfl hk
    · rcases hat g hk with e | e
      · exact h.off q x g hx rfl e
      · omega
  have hsep : ∀ (j : Nat) (z : Hd) (k : Nat), j ≠ q → hs[j]? = some z → (hdV z).ownBlock = some k → (hdV y).ownBlock ≠ some k := by
    intro j z k hj hz hk e
    rcases hat k e with e2 | e2
    · exact hj (h.rows.apart j q z x k hz hx hk e2)
    · have := h.rows.top j z k hz hk; omega
  refine ⟨⟨by rw [List.map_set]; exact s1, fun k hk => ?_⟩, by simp [h.len], ⟨fun j z us e1 e2 => ?_, fun i j a b k e1 e2 e3 e4 => ?_, htop⟩, fun j z k e1 e2 e3 => ?_⟩
  · simp only [Value.ownBlock, Option.some.injEq] at hk
    omega
  · rcases gt j z e1 with ⟨hne, e⟩ | ⟨rfl, rfl⟩
    · rw [List.getElem?_set_ne (fun h => hne h.symm)] at e2
      have h1 := h.rows.row j z us e e2
      have h2 := h1.grown hg (fun k f1 f2 => hne (h.rows.apart j q z x k e hx f1 f2))
      exact (h2.grown s2 (fun k f1 f2 => hfar j z k e1 f1 (Option.some.inj f2))).wide (Nat.le_refl _) (by omega)
    · rw [List.getElem?_set_self (by omega)] at e2
      obtain rfl := Option.some.inj e2
      have h1 := Ow.of ho
      exact h1.grown s2 (fun k f1 f2 => hfar j z k e1 f1 (Option.some.inj f2))
  · rcases gt i a e1 with ⟨hne, e⟩ | ⟨rfl, rfl⟩ <;> rcases gt j b e2 with ⟨hne', e'⟩ | ⟨rfl, rfl⟩
    · exact h.rows.apart i j a b k e e' e3 e4
    · exact absurd e4 (hsep i a k hne e e3)
    · exact absurd e3 (hsep j b k hne' e' e4)
    · rfl
  · simp only [Value.ownBlock, Option.some.injEq] at e2
    exact hfar j z k e1 e3 e2

/-- A row that is too long gives its two oldest counts, as one, to the next row (7: its oldest goes). -/
def addB (xss : List (List Int)) (bit : Int) : Bool := winB xss && inB bit 0 1
def longB (xss : List (List Int)) (r : Nat) : Bool := decide (r < xss.length) && decide (3 < (xss.getD r []).length)
def bothOf (xs : List Int) : Int := xs.getD 0 0 + xs.getD 1 0
def moreR (xss : List (List Int)) (r : Nat) : List (List Int) := if r = xss.length then xss ++ [[]] else xss
def pushR (xss : List (List Int)) (r : Nat) (v : Int) : List (List Int) := xss.set r (xss.getD r [] ++ [v])
def shiftR (xss : List (List Int)) (r : Nat) : List (List Int) := (pushR (moreR xss (r + 1)) (r + 1) (bothOf (xss.getD r []))).set r ((xss.getD r []).drop 2)
def addGo : Nat → Nat → List (List Int) → List (List Int)
  | 0, _, xss => xss
  | f + 1, r, xss => if longB xss r = true then (if r = 7 then xss.set r ((xss.getD r []).drop 1) else addGo f (r + 1) (shiftR xss r)) else xss
def addR (xss : List (List Int)) (bit : Int) : List (List Int) := if addB xss bit = true then addGo 8 0 (pushR (moreR xss 0) 0 bit) else xss

end Go.Proofs.Ytnljlehbjdambaa
