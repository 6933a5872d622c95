/-
  Opening an argument: what its reading as data says of its cells. Structs of one-cell fields by value; slices.
-/
import Derived.Test.YtchkmcikpamdeaaDoorFrame
import Derived.Deep.Slices
import Derived.Deep.Fields
namespace Go.Proofs.YtchkmcikpamdeaaDoor
open Go.ChangeShapes Go.WideShapes Go.ChangeAt Go.RowKit Go.Deep

section
variable {H : Type} {enc : TypeId × Value → H} {P : Program} {w : World} {base : Nat} {spare : Nat → Bool} {held : Bool}

/-- A list of cells that reads as a struct of one-cell fields: each field's cell reads by itself. -/
theorem open_fields {t : TypeId} {fs : Array Field} {fuel : Nat} {cs : List Value} {x : DataW H × List MemPlace} (ht : P.underlying t = some (.struct fs)) (hone : oneCellFields P fs = true) (hC : P.cellsOf t = fs.size)
    (h : DataW.trod enc P w base spare held fuel t cs = some x) :
    cs.length = fs.size ∧ ∃ n, ∀ (i : Nat) (f : Field), fs[i]? = some f → ∃ c y, cs[i]? = some c ∧ DataW.trod enc P w base spare held n f.type [c] = some y := by
  obtain ⟨xs, n, _, _, hl, hxl, hf⟩ := DataW.trod_struct ht h
  refine ⟨by rw [hl, hC], n, fun i f hi => ?_⟩
  obtain ⟨ho, hk⟩ := hone_of hone i f hi
  have hil : i < fs.size := (Array.getElem?_eq_some_iff.1 hi).1
  have hic : i < cs.length := by rw [hl, hC]; exact hil
  have h1 := hf i f hi
  rw [ho, hk, List.drop_eq_getElem_cons hic, List.getElem?_eq_getElem (by omega : i < xs.length)] at h1
  exact ⟨cs[i], _, List.getElem?_eq_getElem hic, h1⟩

/-- A struct of one-cell fields by value. -/
theorem open_agg {r : Reach} {b0 : Nat} {t : TypeId} {fs : Array Field} {v : Value} {d : DataW H} {ps : List MemPlace} (ht : P.underlying t = some (.struct fs)) (hone : oneCellFields P fs = true) (hC : P.cellsOf t = fs.size)
    (hv : Value.okWide P w r b0 t v) (h : DataW.Trod enc P w base spare held t v d ps) :
    ∃ cs : List Value, v = .agg cs.toArray ∧ cs.length = fs.size ∧ ∃ n, ∀ (i : Nat) (f : Field), fs[i]? = some f → ∃ c y, cs[i]? = some c ∧ DataW.trod enc P w base spare held n f.type [c] = some y := by
  obtain ⟨cs, rfl, hsz⟩ := okWide_struct ht hv
  obtain ⟨fuel, hf⟩ := h
  obtain ⟨h1, h2⟩ := open_fields ht hone hC hf
  obtain ⟨l⟩ := cs
  exact ⟨l, rfl, by simpa [Value.cells] using h1, by simpa [Value.cells] using h2⟩

theorem field_int {n : Nat} {t : TypeId} {k : IntKind} {c : Value} {y : DataW H × List MemPlace} (ht : P.underlying t = some (.int k)) (h : DataW.trod enc P w base spare held n t [c] = some y) :
    ∃ z, c = .int k z ∧ (Lit.int k z).wf = true := by
  obtain ⟨z, hc, _, hw⟩ := DataW.trod_int ht h
  exact ⟨z, by simpa using hc, hw⟩
theorem field_bool {n : Nat} {t : TypeId} {c : Value} {y : DataW H × List MemPlace} (ht : P.underlying t = some .bool) (h : DataW.trod enc P w base spare held n t [c] = some y) : ∃ b, c = .bool b := by
  obtain ⟨z, hc, _⟩ := DataW.trod_bool ht h
  exact ⟨z, by simpa using hc⟩
theorem field_string {n : Nat} {t : TypeId} {c : Value} {y : DataW H × List MemPlace} (ht : P.underlying t = some .string) (h : DataW.trod enc P w base spare held n t [c] = some y) : ∃ s : ByteArray, c = .string s ∧ s.size ≤ maxLen := by
  obtain ⟨z, hc, _, hz⟩ := DataW.trod_string ht h
  exact ⟨z, by simpa using hc, hz⟩

theorem lt_of_cell {w : World} {b off : Nat} {u : Value} (h : w.cell? ⟨b, off, none⟩ = some u) : b < w.heap.size := World.block_lt_of_cell? w ⟨b, off, none⟩ h

theorem addr_plain {w : World} {a : Addr} {u : Value} (h : w.cell? a = some u) : a = ⟨a.block, a.off, none⟩ := by
  obtain ⟨b, off, spot⟩ := a
  have hspot : spot = none := by simpa using World.cell?_spot h
  rw [hspot]

/-- A slice of elements of one cell each: it reads as a list of values, each with its own reading. -/
theorem open_slice_rd {t e : TypeId} {fuel : Nat} {c : Value} {x : DataW H × List MemPlace} (ht : P.underlying t = some (.slice e)) (hc : P.cellsOf e = 1) (h : DataW.trod enc P w base spare held fuel t [c] = some x) :
    ∃ A n cap m vs, c = .slice A n cap ∧ n ≤ cap ∧ cap ≤ maxLen ∧ Rd w A n vs ∧ ∀ v ∈ vs, ∃ y, DataW.trod enc P w base spare held m e [v] = some y := by
  rcases open_slice1 ht hc h with ⟨hcs, _⟩ | ⟨a, len, cap, m, n, V, D, Pl, hcs, _, hl, hm, hmm, _, hV⟩
  · obtain rfl : c = .slice none 0 0 := by simpa using hcs
    exact ⟨none, 0, 0, 0, [], rfl, by omega, by simp [maxLen], Rd.none_ _ _, by simp⟩
  · obtain rfl : c = .slice (some a) len cap := by simpa using hcs
    have hlm : len ≤ m := by rw [hmm]; split <;> omega
    refine ⟨some a, len, cap, n, (List.range len).map V, rfl, hl, hm, ⟨by simp, fun hn => ?_⟩, fun v hv => ?_⟩
    · have h0 := (hV 0 (by omega)).1
      rw [show a.add 0 = a from by simp [Addr.add]] at h0
      have ha := addr_plain h0
      refine ⟨a.block, a.off, by rw [← ha], lt_of_cell (by rw [← ha]; exact h0), fun j u hu => ?_⟩
      have hj : j < len := by
        have := (List.getElem?_eq_some_iff.1 hu).1
        simpa using this
      have hu' : V j = u := by simpa [List.getElem?_map, List.getElem?_range hj] using hu
      rw [← Go.WideShapes.add_plain, ← ha, (hV j (by omega)).1, hu']
    · obtain ⟨i, hi, rfl⟩ := List.mem_map.1 hv
      exact ⟨_, (hV i (by have := List.mem_range.1 hi; omega)).2⟩

/-- The value of an argument that is a slice is one cell. -/
theorem slice_cell {r : Reach} {b0 : Nat} {t e : TypeId} {v : Value} {d : DataW H} {ps : List MemPlace} (ht : P.underlying t = some (.slice e)) (hv : Value.okWide P w r b0 t v) (h : DataW.Trod enc P w base spare held t v d ps) :
    ∃ n y, DataW.trod enc P w base spare held n t [v] = some y := by
  obtain ⟨a, len, cap, rfl⟩ := okWide_slice ht hv
  obtain ⟨n, hn⟩ := h
  exact ⟨n, _, by simpa [Value.cells] using hn⟩

/-- A list of values each of which reads as an integer is a list of integers. -/
theorem list_ints {k : IntKind} {m : Nat} {e : TypeId} (he : P.underlying e = some (.int k)) : ∀ (vs : List Value), (∀ v ∈ vs, ∃ y, DataW.trod enc P w base spare held m e [v] = some y) →
    ∃ zs : List Int, vs = zs.map (Value.int k) ∧ ∀ z ∈ zs, (Lit.int k z).wf = true
  | [], _ => ⟨[], rfl, by simp⟩
  | v :: vs, h => by
    obtain ⟨y, hy⟩ := h v (by simp)
    obtain ⟨z, rfl, hz⟩ := field_int he hy
    obtain ⟨zs, rfl, hw⟩ := list_ints he vs fun u hu => h u (by simp [hu])
    exact ⟨z :: zs, rfl, by simpa [hz] using hw⟩

/-- A slice of integers. -/
theorem open_ints_rd {k : IntKind} {t e : TypeId} {fuel : Nat} {c : Value} {x : DataW H × List MemPlace} (ht : P.underlying t = some (.slice e)) (hc : P.cellsOf e = 1) (he : P.underlying e = some (.int k))
    (h : DataW.trod enc P w base spare held fuel t [c] = some x) :
    ∃ (A : Option Addr) (n cap : Nat) (zs : List Int), c = .slice A n cap ∧ n ≤ cap ∧ cap ≤ maxLen ∧ Rd w A n (zs.map (Value.int k)) ∧ ∀ z ∈ zs, (Lit.int k z).wf = true := by
  obtain ⟨A, n, cap, m, vs, rfl, h1, h2, h3, h4⟩ := open_slice_rd ht hc h
  obtain ⟨zs, rfl, hw⟩ := list_ints he vs h4
  exact ⟨A, n, cap, zs, rfl, h1, h2, h3, hw⟩
end
end Go.Proofs.YtchkmcikpamdeaaDoor
