/-
  Rows of rows that a call owns: the first rows of them; one row gives way to another; what WindowDrop answers.
-/
import Derived.Test.YtnljlehbjdambaaCopyS
import Derived.Test.YtnljlehbjdambaaWinOk
namespace Go.Proofs.Ytnljlehbjdambaa
open Go.RowKit
set_option linter.unusedSimpArgs false
set_option linter.unusedVariables false

theorem own_take {w : World} {base : Nat} {e : TypeId} {A : Option Addr} {n m c : Nat} {xs : List Value} (h : w.ownsRow base e 1 (.slice A n c) n xs) (hm : m ≤ n) : w.ownsRow base e 1 (.slice A m c) m (xs.take m) := by
  have hl := h.1
  refine ⟨by rw [List.length_take]; omega, ?_⟩
  rcases h.2 with ⟨hv, hn⟩ | ⟨g, cap, cur, hv, hb, hg, hc, hcm, hcs, ht⟩
  · simp only [Value.slice.injEq] at hv
    obtain ⟨rfl, _, rfl⟩ := hv
    have : m = 0 := by omega
    subst this
    exact .inl ⟨rfl, rfl⟩
  · simp only [Value.slice.injEq] at hv
    obtain ⟨rfl, _, rfl⟩ := hv
    refine .inr ⟨g, c, cur, rfl, hb, hg, by omega, hcm, hcs, ?_⟩
    rw [← ht, List.take_take, Nat.mul_one, Nat.mul_one, Nat.min_eq_left hm]
theorem block_any (A : Option Addr) (n m c : Nat) (k : Nat) (h : (Value.slice A n c).ownBlock = some k) : (Value.slice A m c).ownBlock = some k := by
  cases A with
  | none => simp [Value.ownBlock] at h
  | some a => simpa [Value.ownBlock] using h
section
variable {lo hi : Nat} {w : World} {A : Option Addr} {n c : Nat} {hs : List Hd} {vss : List (List Value)}
theorem take_get {α : Type} {l : List α} {m j : Nat} {x : α} (h : (l.take m)[j]? = some x) : l[j]? = some x := by
  rw [List.getElem?_take] at h
  split at h
  · exact h
  · cases h
theorem OwSS.take (h : OwSS lo hi w A n c hs vss) {m : Nat} (hm : m ≤ n) : OwSS lo hi w A m c (hs.take m) (vss.take m) := by
  refine ⟨⟨by rw [List.map_take]; exact own_take h.hd.own hm, fun k hk => h.hd.top k (block_any _ _ _ _ _ hk)⟩, by rw [List.length_take, h.len]; omega, ?_, fun j y g h1 h2 h3 => h.off j y g (take_get h1) (block_any _ _ _ _ _ h2) h3⟩
  exact ⟨fun j x vs h1 h2 => h.rows.row j x vs (take_get h1) (take_get h2), fun i j x y g h1 h2 => h.rows.apart i j x y g (take_get h1) (take_get h2), fun j x g h1 => h.rows.top j x g (take_get h1)⟩
/-- One row gives way to a new one, in blocks behind all: the header is stored. -/
theorem OwSS.swap {g q lo' hi' : Nat} {x : Hd} {vs : List Value} (h : OwSS lo hi w (some ⟨g, 0, none⟩) n c hs vss) (hq : q < n) (hr : Ow 3 lo' hi' w x.1 x.2.1 x.2.2 vs) (h1 : lo ≤ lo') (h2 : hi ≤ lo') (h3 : hi ≤ hi') :
    OwSS lo hi' (w.setCell ⟨g, q, none⟩ (hdV x)) (some ⟨g, 0, none⟩) n c (hs.set q x) (vss.set q vs) := by
  obtain ⟨s1, s2⟩ := h.hd.own.stored q (hdV x)
  have hg := h.hd.top g rfl
  have hRw := h.rows.swap (by rw [h.len]; exact hq) hr h1 h2 h3
  have hfar : ∀ (j : Nat) (y : Hd) (k : Nat), (hs.set q x)[j]? = some y → (hdV y).ownBlock = some k → g ≠ k := by
    intro j y k hj hk e
    subst e
    by_cases hjq : q = j
    · subst hjq
      have hl : q < hs.length := by have := (List.getElem?_eq_some_iff.1 hj).1; simpa using this
      rw [List.getElem?_set_self hl] at hj
      obtain rfl := Option.some.inj hj
      have := (hr.own.lt g hk).1
      omega
    · rw [List.getElem?_set_ne hjq] at hj
      exact h.off j y g hj rfl hk
  refine ⟨⟨by rw [List.map_set]; exact s1, fun k hk => by have := h.hd.top k hk; omega⟩, by simp [h.len], hRw.grown s2 (fun j y k e1 e2 => fun e => hfar j y k e1 e2 (Option.some.inj e)), fun j y k e1 e2 e3 => ?_⟩
  simp only [Value.ownBlock, Option.some.injEq] at e2
  exact hfar j y k e1 e3 e2
end

/-- A store into a block that is none of them. -/
theorem OwSS.off_set {lo hi n c b i : Nat} {u : Value} {w : World} {A : Option Addr} {hs : List Hd} {vss : List (List Value)} (h : OwSS lo hi w A n c hs vss) (hh : (Value.slice A n c).ownBlock ≠ some b) (hr : ∀ (j : Nat) (x : Hd), hs[j]? = some x → (hdV x).ownBlock ≠ some b) : OwSS lo hi (w.setCell ⟨b, i, none⟩ u) A n c hs vss := by
  have hg : w.grownBy (w.setCell ⟨b, i, none⟩ u) (some b) := ⟨rfl, rfl, rfl, by simp [World.setCell], fun k _ hk => Below.heap_setCell _ _ _ _ (fun e => hk (by rw [e]))⟩
  exact ⟨h.hd.grown hg (fun g h1 e => hh (by rw [h1, e])), h.len, h.rows.grown hg (fun j x g h1 h2 e => hr j x h1 (by rw [h2, e])), h.off⟩

/-- What is left of a window's rows when its oldest bucket is dropped; and whether one is. -/
def dropB (xss : List (List Int)) : Bool := winB xss && decide (0 < xss.length)
def dropRow (xss : List (List Int)) : List Int := (xss.getD (xss.length - 1) []).drop 1
def dropR (xss : List (List Int)) : List (List Int) := if dropB xss = true then (if (dropRow xss).length = 0 then xss.take (xss.length - 1) else xss.set (xss.length - 1) (dropRow xss)) else xss

end Go.Proofs.Ytnljlehbjdambaa
