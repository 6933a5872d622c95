/-
  Schemas ats data: words, attributes, schemas; what WordOk, AttrOk, SchemaOk answer. No program is walked here.
-/
import Derived.Test.YtchkmcikpamdeaaDoorBase
namespace Go.Proofs.YtchkmcikpamdeaaDoor
open Go.RowKit
set_option linter.unusedSimpArgs false
set_option linter.unusedVariables false

/-- An attribute's data. -/
structure AD where
  nm : ByteArray
  cuts : List Int
  vals : List ByteArray

/-- f holds below n. -/
def allB (n : Nat) (f : Nat → Bool) : Bool := (List.range n).all f
theorem allB_bad {n i : Nat} {f : Nat → Bool} (h : i < n) (hf : f i = false) : allB n f = false := by
  unfold allB; rw [List.all_eq_false]; exact ⟨i, List.mem_range.2 h, by simp [hf]⟩
theorem allB_good {n : Nat} {f : Nat → Bool} (h : ∀ i, i < n → f i = true) : allB n f = true := by
  unfold allB; rw [List.all_eq_true]; intro i hi; exact h i (List.mem_range.1 hi)
theorem allB_iff {n : Nat} {f : Nat → Bool} : allB n f = true ↔ ∀ i, i < n → f i = true :=
  ⟨fun h i hi => by unfold allB at h; rw [List.all_eq_true] at h; exact h i (List.mem_range.2 hi), allB_good⟩

/-- A letter from a to z. -/
def letB (b : UInt8) : Bool := decide (97 ≤ b.toNat) && decide (b.toNat ≤ 122)
def byteN (s : ByteArray) (k : Nat) : Nat := if h : k < s.size then (s[k]'h).toNat else 0
def wordB (s : ByteArray) : Bool := inB s.size 1 8 && allB s.size fun k => decide (97 ≤ byteN s k) && decide (byteN s k ≤ 122)
def hasB (ss : List ByteArray) (s : ByteArray) : Bool := ss.any fun u => decide (u = s)
theorem hasB_iff {ss : List ByteArray} {s : ByteArray} : hasB ss s = true ↔ s ∈ ss := by
  unfold hasB; rw [List.any_eq_true]; simp
/-- Words, no two alike. -/
def wordsB (ss : List ByteArray) : Bool := allB ss.length fun i => wordB (ss.getD i ByteArray.empty) && !(hasB (ss.take i) (ss.getD i ByteArray.empty))
def ascB (xs : List Int) : Bool := allB (xs.length - 1) fun i => decide (xs.getD i 0 < xs.getD (i + 1) 0)
def cutsB (xs : List Int) : Bool := inB xs.length 1 3 && ascB xs && xs.all fun x => inB x (-9999) 9998
def attrB (a : AD) : Bool := wordB a.nm && (if a.cuts.length = 0 then inB a.vals.length 2 4 && wordsB a.vals else decide (a.vals.length = 0) && cutsB a.cuts)
def schB (ats : List AD) (cs : List ByteArray) : Bool :=
  inB ats.length 1 5 && inB cs.length 2 3 && wordsB cs && ats.all attrB && wordsB (ats.map AD.nm)
def binsI (a : AD) : Int := if 0 < a.cuts.length then (a.cuts.length : Int) + 1 else a.vals.length

theorem wordsB_bad1 {ss : List ByteArray} {i : Nat} {s : ByteArray} (h : ss[i]? = some s) (hb : wordB s = false) : wordsB ss = false := by
  obtain ⟨h1, h2⟩ := List.getElem?_eq_some_iff.1 h
  exact allB_bad h1 (by simp [List.getD, h, hb])
theorem wordsB_bad2 {ss : List ByteArray} {i : Nat} {s : ByteArray} (h : ss[i]? = some s) (hb : hasB (ss.take i) s = true) : wordsB ss = false := by
  obtain ⟨h1, h2⟩ := List.getElem?_eq_some_iff.1 h
  exact allB_bad h1 (by simp only [List.getD, h, Option.getD_some, hb]; simp)
theorem wordsB_good {ss : List ByteArray} (h : ∀ i s, ss[i]? = some s → wordB s = true ∧ hasB (ss.take i) s = false) : wordsB ss = true := by
  refine allB_good fun i hi => ?_
  have := h i ss[i] (List.getElem?_eq_getElem hi)
  simp only [List.getD, List.getElem?_eq_getElem hi, Option.getD_some, this.1, this.2]; rfl
theorem wordsB_get {ss : List ByteArray} (h : wordsB ss = true) {i : Nat} {s : ByteArray} (hs : ss[i]? = some s) : wordB s = true ∧ hasB (ss.take i) s = false := by
  obtain ⟨h1, h2⟩ := List.getElem?_eq_some_iff.1 hs
  have := allB_iff.1 h i h1
  simp only [List.getD, hs, Option.getD_some, Bool.and_eq_true, Bool.not_eq_true'] at this
  exact this

end Go.Proofs.YtchkmcikpamdeaaDoor
