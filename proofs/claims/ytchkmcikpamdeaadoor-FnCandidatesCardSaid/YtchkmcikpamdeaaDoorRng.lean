/-
  Readings in a range of blocks: they stay where the range stays.
-/
import Derived.Test.YtchkmcikpamdeaaDoorRdf
namespace Go.Proofs.YtchkmcikpamdeaaDoor
open Go.RowKit
set_option linter.unusedSimpArgs false
set_option linter.unusedVariables false
section
variable {lo hi : Nat} {w w' : World}
theorem Rdf.same {A : Option Addr} {n : Nat} {xs : List Value} (h : Rdf (fun j => lo ≤ j ∧ j < hi) w A n xs) (s : Same lo hi w w') : Rdf (fun j => lo ≤ j ∧ j < hi) w' A n xs :=
  ⟨⟨h.rd.len, fun hn => by
    obtain ⟨b, off, rfl, hlt, hc⟩ := h.rd.ex hn
    have hb := h.far hn _ rfl
    have e : ∀ o, w'.cell? ⟨b, o, none⟩ = w.cell? ⟨b, o, none⟩ := fun o => World.cell?_of_block (s b hb.1 hb.2)
    have h0 : xs[0]? = some (xs[0]'(by rw [h.rd.len]; exact hn)) := List.getElem?_eq_getElem _
    exact ⟨b, off, rfl, World.block_lt_of_cell? w' ⟨b, off + 0, none⟩ ((e _).trans (hc 0 _ h0)), fun j u hu => (e _).trans (hc j u hu)⟩⟩, h.far⟩
theorem RdAf.same {a : AD} {h : AH} (r : RdAf (fun j => lo ≤ j ∧ j < hi) w a h) (s : Same lo hi w w') : RdAf (fun j => lo ≤ j ∧ j < hi) w' a h := ⟨r.cuts.same s, r.vals.same s⟩
theorem SchF.same {A C : Option Addr} {n m d : Nat} {hs : List AH} {ats : List AD} {cs : List ByteArray} (r : SchF (fun j => lo ≤ j ∧ j < hi) w A C n m d hs ats cs) (s : Same lo hi w w') : SchF (fun j => lo ≤ j ∧ j < hi) w' A C n m d hs ats cs :=
  ⟨r.hd.same s, r.len, ⟨r.rows.len, fun j h a h1 h2 => ⟨(r.rows.row j h a h1 h2).1.same s, (r.rows.row j h a h1 h2).2⟩⟩, r.cl.same s, r.hn, r.hm, r.md, r.strs⟩
theorem StaF.same {T X : Option Addr} {q p : Nat} {gs : List Hd} {ts : List Int} {xss : List (List Int)} (r : StaF (fun j => lo ≤ j ∧ j < hi) w T X q p gs ts xss) (s : Same lo hi w w') : StaF (fun j => lo ≤ j ∧ j < hi) w' T X q p gs ts xss :=
  ⟨r.tot.same s, r.hd.same s, r.len, fun j h xs h1 h2 => (r.row j h xs h1 h2).same s, r.hq, r.hp, r.hx⟩
theorem Rdf.rng {A : Option Addr} {n : Nat} {xs : List Value} (h : Rdf (fun j => lo ≤ j) w A n xs) : Rdf (fun j => lo ≤ j ∧ j < w.heap.size) w A n xs := h.mono fun j h1 h2 => ⟨h1, h2⟩
theorem SchF.rng {A C : Option Addr} {n m d : Nat} {hs : List AH} {ats : List AD} {cs : List ByteArray} (r : SchF (fun j => lo ≤ j) w A C n m d hs ats cs) : SchF (fun j => lo ≤ j ∧ j < w.heap.size) w A C n m d hs ats cs := r.mono fun j h1 h2 => ⟨h1, h2⟩
theorem StaF.rng {T X : Option Addr} {q p : Nat} {gs : List Hd} {ts : List Int} {xss : List (List Int)} (r : StaF (fun j => lo ≤ j) w T X q p gs ts xss) : StaF (fun j => lo ≤ j ∧ j < w.heap.size) w T X q p gs ts xss := r.mono fun j h1 h2 => ⟨h1, h2⟩
end

end Go.Proofs.YtchkmcikpamdeaaDoor
