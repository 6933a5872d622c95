/-
  Opening an argument that is a schema.
-/
import Derived.Test.YtchkmcikpamdeaaDoorOpen
import Derived.Test.YtchkmcikpamdeaaDoorSchOk
namespace Go.Proofs.YtchkmcikpamdeaaDoor
open Go.ChangeShapes Go.WideShapes Go.ChangeAt Go.RowKit Go.Deep
set_option linter.unusedSimpArgs false
set_option linter.unusedVariables false
instance : Inhabited AD := ⟨⟨ByteArray.empty, [], []⟩⟩
theorem ascells_inv : ∀ {ats : List AD} {hs : List AH} {j : Nat} {u : Value}, ats.length = hs.length → (ascells ats hs)[j]? = some u →
    ∃ (k : Nat) (a : AD) (h : AH), ats[k]? = some a ∧ hs[k]? = some h ∧ ((j = k * 3 ∧ u = .string a.nm) ∨ (j = k * 3 + 1 ∧ u = hdV h.1) ∨ (j = k * 3 + 2 ∧ u = hdV h.2))
  | [], [], j, u, _, h => by simp [ascells] at h
  | a :: ats, h :: hs, 0, u, _, e => by simp only [ascells, List.getElem?_cons_zero, Option.some.injEq] at e; exact ⟨0, a, h, rfl, rfl, .inl ⟨rfl, e.symm⟩⟩
  | a :: ats, h :: hs, 1, u, _, e => by simp only [ascells, List.getElem?_cons_zero, List.getElem?_cons_succ, Option.some.injEq] at e; exact ⟨0, a, h, rfl, rfl, .inr (.inl ⟨rfl, e.symm⟩)⟩
  | a :: ats, h :: hs, 2, u, _, e => by simp only [ascells, List.getElem?_cons_zero, List.getElem?_cons_succ, Option.some.injEq] at e; exact ⟨0, a, h, rfl, rfl, .inr (.inr ⟨rfl, e.symm⟩)⟩
  | a :: ats, h :: hs, j + 3, u, l, e => by
    simp only [ascells, List.getElem?_cons_succ] at e
    obtain ⟨k, a', h', h1, h2, h3⟩ := ascells_inv (by simpa using l) e
    refine ⟨k + 1, a', h', by simpa using h1, by simpa using h2, ?_⟩
    rcases h3 with ⟨e, f⟩ | ⟨e, f⟩ | ⟨e, f⟩
    · exact .inl ⟨by omega, f⟩
    · exact .inr (.inl ⟨by omega, f⟩)
    · exact .inr (.inr ⟨by omega, f⟩)
section
variable {H : Type} {enc : TypeId × Value → H} {P : Program} {w : World} {base : Nat} {spare : Nat → Bool} {held : Bool}
theorem list_strings {m : Nat} {e : TypeId} (he : P.underlying e = some .string) : ∀ (vs : List Value), (∀ v ∈ vs, ∃ y, DataW.trod enc P w base spare held m e [v] = some y) →
    ∃ ss : List ByteArray, vs = ss.map Value.string ∧ ∀ s ∈ ss, s.size ≤ maxLen
  | [], _ => ⟨[], rfl, by simp⟩
  | v :: vs, h => by
    obtain ⟨y, hy⟩ := h v (by simp)
    obtain ⟨s, rfl, hs⟩ := field_string he hy
    obtain ⟨ss, rfl, hw⟩ := list_strings he vs fun u hu => h u (by simp [hu])
    exact ⟨s :: ss, rfl, by simpa [hs] using hw⟩
theorem open_strings_rd {t e : TypeId} {fuel : Nat} {c : Value} {x : DataW H × List MemPlace} (ht : P.underlying t = some (.slice e)) (hc : P.cellsOf e = 1) (he : P.underlying e = some .string)
    (h : DataW.trod enc P w base spare held fuel t [c] = some x) :
    ∃ (A : Option Addr) (n cap : Nat) (ss : List ByteArray), c = .slice A n cap ∧ n ≤ cap ∧ cap ≤ maxLen ∧ Rd w A n (ss.map Value.string) ∧ ∀ s ∈ ss, s.size ≤ maxLen := by
  obtain ⟨A, n, cap, m, vs, rfl, h1, h2, h3, h4⟩ := open_slice_rd ht hc h
  obtain ⟨ss, rfl, hw⟩ := list_strings he vs h4
  exact ⟨A, n, cap, ss, rfl, h1, h2, h3, hw⟩
/-- What the opening of an attribute gives. -/
def AHw (h : AH) : Prop := (h.1.2.1 ≤ h.1.2.2 ∧ h.1.2.2 ≤ maxLen) ∧ (h.2.2.1 ≤ h.2.2.2 ∧ h.2.2.2 ≤ maxLen)
def ADw (a : AD) : Prop := a.nm.size ≤ maxLen ∧ (∀ z ∈ a.cuts, (Lit.int .i64 z).wf = true) ∧ ∀ s ∈ a.vals, s.size ≤ maxLen
theorem open_attrs {t e ts ti ss si : TypeId} {f0 f1 f2 : Field} {fuel : Nat} {c : Value} {x : DataW H × List MemPlace} (ht : P.underlying t = some (.slice e)) (he : P.underlying e = some (.struct #[f0, f1, f2])) (hone : oneCellFields P #[f0, f1, f2] = true) (hC : P.cellsOf e = 3)
    (h0 : P.underlying f0.type = some .string) (h1 : P.underlying f1.type = some (.slice ti)) (hi : P.underlying ti = some (.int .i64)) (ci : P.cellsOf ti = 1) (h2 : P.underlying f2.type = some (.slice si)) (hsi : P.underlying si = some .string) (csi : P.cellsOf si = 1)
    (h : DataW.trod enc P w base spare held fuel t [c] = some x) :
    ∃ (A : Option Addr) (n cap : Nat) (hs : List AH) (ats : List AD), c = .slice A n cap ∧ n ≤ cap ∧ cap ≤ maxLen ∧ RdAS w A n hs ats ∧ (∀ h ∈ hs, AHw h) ∧ ∀ a ∈ ats, ADw a := by
  rcases open_slice ht h with ⟨hcs, _⟩ | ⟨a, len, cap, m, n, D, Pl, hcs, hb, hl, hm, hmm, _, hx⟩
  · obtain rfl : c = .slice none 0 0 := by simpa using hcs
    exact ⟨none, 0, 0, [], [], rfl, by omega, by simp [maxLen], ⟨Rd.none_ _ _, rfl, rfl, by simp⟩, by simp, by simp⟩
  · obtain rfl : c = .slice (some a) len cap := by simpa using hcs
    have hlm : len ≤ m := by rw [hmm]; split <;> omega
    have each : ∀ i, i < len → ∃ q : AD × AH, w.cell? (a.add (i * 3)) = some (.string q.1.nm) ∧ w.cell? (a.add (i * 3 + 1)) = some (hdV q.2.1) ∧ w.cell? (a.add (i * 3 + 2)) = some (hdV q.2.2) ∧ RdA w q.1 q.2 ∧ AHw q.2 ∧ ADw q.1 := by
      intro i hi'
      obtain ⟨cs', g1, g2⟩ := hx i (by omega)
      rw [hC] at g1
      obtain ⟨_, hlen, hcell⟩ := World.cells?_some g1
      obtain ⟨_, n', hf⟩ := open_fields he hone hC g2
      obtain ⟨c0, y0, e0, t0⟩ := hf 0 f0 rfl
      obtain ⟨c1, y1, e1, t1⟩ := hf 1 f1 rfl
      obtain ⟨c2, y2, e2, t2⟩ := hf 2 f2 rfl
      obtain ⟨s, rfl, hs⟩ := field_string h0 t0
      obtain ⟨A1, n1, k1, zs, rfl, a1, b1, r1, w1⟩ := open_ints_rd h1 ci hi t1
      obtain ⟨A2, n2, k2, us, rfl, a2, b2, r2, w2⟩ := open_strings_rd h2 csi hsi t2
      have q0 := hcell 0 (by omega)
      have q1 := hcell 1 (by omega)
      have q2 := hcell 2 (by omega)
      rw [add_add] at q0 q1 q2
      exact ⟨(⟨s, zs, us⟩, ((A1, n1, k1), (A2, n2, k2))), by rw [← e0]; simpa using q0, by rw [show hdV (A1, n1, k1) = .slice A1 n1 k1 from rfl, ← e1]; exact q1, by rw [show hdV (A2, n2, k2) = .slice A2 n2 k2 from rfl, ← e2]; exact q2, ⟨r1, r2⟩, ⟨⟨a1, b1⟩, ⟨a2, b2⟩⟩, ⟨hs, w1, w2⟩⟩
    obtain ⟨q, hq⟩ := choose_lt each
    have g1 : ∀ {k : Nat} {a' : AD}, ((List.range len).map fun i => (q i).1)[k]? = some a' → k < len ∧ a' = (q k).1 := by
      intro k a' hk
      have hk' : k < len := by have := (List.getElem?_eq_some_iff.1 hk).1; simpa using this
      rw [List.getElem?_map, List.getElem?_range hk'] at hk
      exact ⟨hk', by simpa using hk.symm⟩
    have g2 : ∀ {k : Nat} {a' : AH}, ((List.range len).map fun i => (q i).2)[k]? = some a' → k < len ∧ a' = (q k).2 := by
      intro k a' hk
      have hk' : k < len := by have := (List.getElem?_eq_some_iff.1 hk).1; simpa using this
      rw [List.getElem?_map, List.getElem?_range hk'] at hk
      exact ⟨hk', by simpa using hk.symm⟩
    refine ⟨some a, len, cap, (List.range len).map fun i => (q i).2, (List.range len).map fun i => (q i).1, rfl, hl, hm, ⟨⟨?_, fun hp => ?_⟩, by simp, by simp, ?_⟩, ?_, ?_⟩
    · rw [ascells_len _ _ (by simp)]; simp
    · have hz := (hq 0 (by omega)).1
      rw [show a.add (0 * 3) = a from by simp [Addr.add]] at hz
      have ha := addr_plain hz
      refine ⟨a.block, a.off, by rw [← ha], lt_of_cell (by rw [← ha]; exact hz), fun j u hu => ?_⟩
      obtain ⟨k, a', h', e1, e2, e3⟩ := ascells_inv (by simp) hu
      obtain ⟨hk, rfl⟩ := g1 e1
      obtain ⟨_, rfl⟩ := g2 e2
      have := hq k hk
      rw [← Go.WideShapes.add_plain, ← ha]
      rcases e3 with ⟨rfl, rfl⟩ | ⟨rfl, rfl⟩ | ⟨rfl, rfl⟩
      · exact this.1
      · exact this.2.1
      · exact this.2.2.1
    · intro j h' a' e1 e2
      obtain ⟨hj, rfl⟩ := g2 e1
      obtain ⟨_, rfl⟩ := g1 e2
      exact (hq j hj).2.2.2.1
    · intro h' hh
      obtain ⟨i, hi', rfl⟩ := List.mem_map.1 hh
      exact (hq i (List.mem_range.1 hi')).2.2.2.2.1
    · intro a' ha'
      obtain ⟨i, hi', rfl⟩ := List.mem_map.1 ha'
      exact (hq i (List.mem_range.1 hi')).2.2.2.2.2
end
/-- An owned schema, with all that the walks ask. -/
theorem OwSch.sch {lo hi : Nat} {w : World} {A C : Option Addr} {n c m d mid : Nat} {hs : List AH} {ats : List AD} {cs : List ByteArray} (h : OwSch lo hi w A C n c m d mid hs ats cs) (hn : n ≤ 1048576) (hb : asTot ats ≤ 1048576) (hm : m ≤ 1048576) (ok : ∀ a ∈ ats, ADok a) (cok : ∀ s ∈ cs, s.size ≤ 9223372036854775807) :
    Sch w A C n m d hs ats cs :=
  ⟨h.rd, hn, hb, hm, fun x hx => by
    obtain ⟨j, hj⟩ := List.getElem?_of_mem hx
    have hj' : j < ats.length := by have := (List.getElem?_eq_some_iff.1 hj).1; rw [h.at_.hlen] at this; rw [h.at_.len]; exact this
    exact own_cap (h.at_.rows.row j x _ hj (List.getElem?_eq_getElem hj')).vals.own, own_cap h.cl.own, ok, cok⟩

set_option maxHeartbeats 400000 in
theorem toFork_any (fa ft : Int) (w : World) : Calls Tryd.prog 8 #[.agg #[.int .i64 fa, .int .i64 ft]] w fun e w' => e = .returned (.agg #[.int .i64 fa, .int .i64 ft]) ∧ Below w.heap.size w w' := by
  go_enter Tryd.func8, Tryd.ntmps8
  go_wp2
  refine bodyPost_ret (v := .agg #[.int .i64 fa, .int .i64 ft]) (by simp [results, Tryd.results8, go_sem, World.cell?_alloc_past]) rfl ⟨rfl, ?_⟩
  go_grown

end Go.Proofs.YtchkmcikpamdeaaDoor
