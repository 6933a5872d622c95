/-
  Readings with the blocks in which they lie: they stay where only other blocks turn. Schemas, statistics and rows so.
-/
import Derived.Test.YtchkmcikpamdeaaDoorStatOk
import Derived.Test.YtchkmcikpamdeaaDoorStatW
import Derived.Test.YtchkmcikpamdeaaDoorDraw
namespace Go.Proofs.YtchkmcikpamdeaaDoor
open Go.RowKit
set_option linter.unusedSimpArgs false
set_option linter.unusedVariables false

/-- Old blocks for which P holds are as they were. -/
structure Keeps (P : Nat → Prop) (w w' : World) : Prop where
  size : w.heap.size ≤ w'.heap.size
  block : ∀ k, P k → k < w.heap.size → w'.heap[k]? = w.heap[k]?
section
variable {P Q : Nat → Prop} {w w' w'' : World}
theorem Keeps.refl (P : Nat → Prop) (w : World) : Keeps P w w := ⟨Nat.le_refl _, fun _ _ _ => rfl⟩
theorem Keeps.trans (h : Keeps P w w') (h2 : Keeps P w' w'') : Keeps P w w'' := ⟨Nat.le_trans h.size h2.size, fun k hk hl => (h2.block k hk (Nat.lt_of_lt_of_le hl h.size)).trans (h.block k hk hl)⟩
theorem Keeps.mono (h : Keeps P w w') (hq : ∀ k, Q k → P k) : Keeps Q w w' := ⟨h.size, fun k hk hl => h.block k (hq k hk) hl⟩
theorem Keeps.only {l r : Nat} (h : Only l r w w') (hp : ∀ k, P k → k < l ∨ r ≤ k) : Keeps P w w' := ⟨h.size, fun k hk hl => h.block k hl (hp k hk)⟩
theorem Keeps.below {B : Nat} (h : Below B w w') (hB : w.heap.size ≤ B) : Keeps P w w' := ⟨h.size, fun k _ hl => h.block k (by omega)⟩
theorem Keeps.alloc (o : Obj) : Keeps P w (w.alloc o) := Keeps.below (below_alloc1 o) (Nat.le_refl _)
theorem Keeps.drew : Keeps P w w.drew := ⟨Nat.le_refl _, fun _ _ _ => rfl⟩
theorem Keeps.set {b i : Nat} {u : Value} (hp : ¬ P b) : Keeps P w (w.setCell ⟨b, i, none⟩ u) := ⟨by simp, fun k hk _ => heap_setCell_other w ⟨b, i, none⟩ k u (by intro e; apply hp; simp only at e; first | (rw [e]; exact hk) | (rw [← e]; exact hk))⟩
theorem Keeps.grown {row : Option Nat} (h : w.grownBy w' row) (hp : ∀ k, P k → row ≠ some k) : Keeps P w w' := ⟨h.size, fun k hk hl => h.block k hl (fun e => hp k hk e.symm)⟩
end

/-- A reading whose block meets P. -/
structure Rdf (P : Nat → Prop) (w : World) (A : Option Addr) (n : Nat) (xs : List Value) : Prop where
  rd : Rd w A n xs
  far : 0 < n → ∀ a, A = some a → P a.block
section
variable {P Q : Nat → Prop} {w w' : World} {A : Option Addr} {n : Nat} {xs : List Value}
theorem Rdf.keep (h : Rdf P w A n xs) (k : Keeps P w w') : Rdf P w' A n xs :=
  ⟨⟨h.rd.len, fun hn => by
    obtain ⟨b, off, rfl, hlt, hc⟩ := h.rd.ex hn
    exact ⟨b, off, rfl, Nat.lt_of_lt_of_le hlt k.size, fun j u hu => (World.cell?_of_block (k.block b (h.far hn _ rfl) hlt)).trans (hc j u hu)⟩⟩, h.far⟩
theorem Rdf.mono (h : Rdf P w A n xs) (hq : ∀ k, P k → k < w.heap.size → Q k) : Rdf Q w A n xs :=
  ⟨h.rd, fun hn a ha => by
    obtain ⟨b, off, e, hlt, _⟩ := h.rd.ex hn
    obtain rfl : (⟨b, off, none⟩ : Addr) = a := Option.some.inj (e.symm.trans ha)
    exact hq _ (h.far hn _ ha) hlt⟩
theorem Rdf.of_own {lo c : Nat} {e : TypeId} (h : w.ownsRow lo e 1 (.slice A n c) n xs) (hp : ∀ k, lo ≤ k → k < w.heap.size → (Value.slice A n c).ownBlock = some k → P k) : Rdf P w A n xs :=
  ⟨Rd.of_own h, fun hn a ha => by
    obtain ⟨g, cap, hv, hg, hl, _⟩ := own_form h hn
    simp only [Value.slice.injEq] at hv
    obtain ⟨rfl, _, _⟩ := hv
    obtain rfl : (⟨g, 0, none⟩ : Addr) = a := Option.some.inj ha
    exact hp g hg hl rfl⟩
theorem Rdf.of_ownN {lo c sz : Nat} {e : TypeId} (h : w.ownsRow lo e sz (.slice A n c) n xs) (hp : ∀ k, lo ≤ k → k < w.heap.size → (Value.slice A n c).ownBlock = some k → P k) : Rdf P w A (n * sz) xs :=
  ⟨Rd.of_ownN h, fun hn a ha => by
    obtain ⟨g, cap, hv, hg, hl, _⟩ := own_form h (Nat.pos_of_mul_pos_right hn)
    simp only [Value.slice.injEq] at hv
    obtain ⟨rfl, _, _⟩ := hv
    obtain rfl : (⟨g, 0, none⟩ : Addr) = a := Option.some.inj ha
    exact hp g hg hl rfl⟩
theorem Rdf.nil_ (c : Option Addr) : Rdf P w c 0 [] := ⟨Rd.none_ w c, fun h => absurd h (by omega)⟩
end

/-- An attribute so. -/
structure RdAf (P : Nat → Prop) (w : World) (a : AD) (h : AH) : Prop where
  cuts : Rdf P w h.1.1 h.1.2.1 (a.cuts.map (Value.int .i64))
  vals : Rdf P w h.2.1 h.2.2.1 (a.vals.map Value.string)
theorem RdAf.keep {P : Nat → Prop} {w w' : World} {a : AD} {h : AH} (r : RdAf P w a h) (k : Keeps P w w') : RdAf P w' a h := ⟨r.cuts.keep k, r.vals.keep k⟩
theorem RdAf.mono {P Q : Nat → Prop} {w : World} {a : AD} {h : AH} (r : RdAf P w a h) (hq : ∀ k, P k → k < w.heap.size → Q k) : RdAf Q w a h := ⟨r.cuts.mono hq, r.vals.mono hq⟩
theorem RdAf.rd {P : Nat → Prop} {w : World} {a : AD} {h : AH} (r : RdAf P w a h) : RdA w a h := ⟨r.cuts.rd, r.vals.rd⟩
/-- Small attributes. -/
structure SmA (a : AD) (h : AH) : Prop where
  nm : a.nm.size ≤ 16
  cuts : a.cuts.length ≤ 16
  vals : a.vals.length ≤ 16
  strs : ∀ s ∈ a.vals, s.size ≤ 16
  cap : h.2.2.1 ≤ h.2.2.2
/-- The rows of attributes so. -/
structure RowsF (P : Nat → Prop) (w : World) (hs : List AH) (ats : List AD) : Prop where
  len : hs.length = ats.length
  row : ∀ (j : Nat) (h : AH) (a : AD), hs[j]? = some h → ats[j]? = some a → RdAf P w a h ∧ SmA a h
section
variable {P Q : Nat → Prop} {w w' : World} {hs : List AH} {ats : List AD}
theorem RowsF.nil (P : Nat → Prop) (w : World) : RowsF P w [] [] := ⟨rfl, by simp⟩
theorem RowsF.keep (r : RowsF P w hs ats) (k : Keeps P w w') : RowsF P w' hs ats := ⟨r.len, fun j h a h1 h2 => ⟨(r.row j h a h1 h2).1.keep k, (r.row j h a h1 h2).2⟩⟩
theorem RowsF.mono (r : RowsF P w hs ats) (hq : ∀ k, P k → k < w.heap.size → Q k) : RowsF Q w hs ats := ⟨r.len, fun j h a h1 h2 => ⟨(r.row j h a h1 h2).1.mono hq, (r.row j h a h1 h2).2⟩⟩
theorem RowsF.snoc {h : AH} {a : AD} (r : RowsF P w hs ats) (ra : RdAf P w a h) (sa : SmA a h) : RowsF P w (hs ++ [h]) (ats ++ [a]) := by
  refine ⟨by simp [r.len], fun j h' a' h1 h2 => ?_⟩
  rcases snoc_getA h1 with e | ⟨rfl, rfl⟩
  · have hj := (List.getElem?_eq_some_iff.1 e).1
    rw [List.getElem?_append_left (by have := r.len; omega)] at h2
    exact r.row j h' a' e h2
  · rw [r.len, List.getElem?_append_right (Nat.le_refl _)] at h2
    simp only [Nat.sub_self, List.getElem?_cons_zero, Option.some.injEq] at h2
    subst h2
    exact ⟨ra, sa⟩
end
theorem sum_le_all {f : AD → Nat} {K : Nat} : ∀ {l : List AD}, (∀ a ∈ l, f a ≤ K) → (l.map f).sum ≤ K * l.length
  | [], _ => by simp
  | a :: l, h => by
    have h1 := h a (List.mem_cons_self ..)
    have h2 := sum_le_all (l := l) (fun b hb => h b (List.mem_cons_of_mem _ hb))
    simp only [List.map_cons, List.sum_cons, List.length_cons, Nat.mul_add, Nat.mul_one]
    omega
theorem bytes_le {K : Nat} : ∀ {l : List ByteArray}, (∀ s ∈ l, s.size ≤ K) → bytesOf l ≤ K * l.length
  | [], _ => by simp [bytesOf]
  | s :: l, h => by
    have h1 := h s (List.mem_cons_self ..)
    have h2 := bytes_le (l := l) (fun b hb => h b (List.mem_cons_of_mem _ hb))
    simp only [bytesOf, List.map_cons, List.sum_cons, List.length_cons, Nat.mul_add, Nat.mul_one] at h2 ⊢
    omega
theorem SmA.tot {a : AD} {h : AH} (s : SmA a h) : atot a ≤ 400 := by
  have h1 := s.nm; have h2 := s.cuts; have h3 := s.vals
  have h4 := bytes_le s.strs
  unfold atot; omega
theorem RowsF.mem {P : Nat → Prop} {w : World} {hs : List AH} {ats : List AD} (r : RowsF P w hs ats) {a : AD} (ha : a ∈ ats) : ∃ h, h ∈ hs ∧ SmA a h ∧ RdAf P w a h := by
  obtain ⟨j, hj⟩ := List.getElem?_of_mem ha
  have hl := (List.getElem?_eq_some_iff.1 hj).1
  have hh : hs[j]? = some (hs[j]'(by have := r.len; omega)) := List.getElem?_eq_getElem _
  exact ⟨_, List.mem_of_getElem? hh, (r.row j _ a hh hj).2, (r.row j _ a hh hj).1⟩
theorem RowsF.mem' {P : Nat → Prop} {w : World} {hs : List AH} {ats : List AD} (r : RowsF P w hs ats) {h : AH} (hh : h ∈ hs) : ∃ a, a ∈ ats ∧ SmA a h ∧ RdAf P w a h := by
  obtain ⟨j, hj⟩ := List.getElem?_of_mem hh
  have hl := (List.getElem?_eq_some_iff.1 hj).1
  have ha : ats[j]? = some (ats[j]'(by have := r.len; omega)) := List.getElem?_eq_getElem _
  exact ⟨_, List.mem_of_getElem? ha, (r.row j h _ hj ha).2, (r.row j h _ hj ha).1⟩

/-- A small schema, its rows in blocks that meet P. -/
structure SchF (P : Nat → Prop) (w : World) (A C : Option Addr) (n m d : Nat) (hs : List AH) (ats : List AD) (cs : List ByteArray) : Prop where
  hd : Rdf P w A (n * 3) (ascells ats hs)
  len : ats.length = n
  rows : RowsF P w hs ats
  cl : Rdf P w C m (cs.map Value.string)
  hn : n ≤ 16
  hm : m ≤ 16
  md : m ≤ d
  strs : ∀ s ∈ cs, s.size ≤ 16
section
variable {P Q : Nat → Prop} {w w' : World} {A C : Option Addr} {n m d : Nat} {hs : List AH} {ats : List AD} {cs : List ByteArray}
theorem SchF.keep (r : SchF P w A C n m d hs ats cs) (k : Keeps P w w') : SchF P w' A C n m d hs ats cs := ⟨r.hd.keep k, r.len, r.rows.keep k, r.cl.keep k, r.hn, r.hm, r.md, r.strs⟩
theorem SchF.mono (r : SchF P w A C n m d hs ats cs) (hq : ∀ k, P k → k < w.heap.size → Q k) : SchF Q w A C n m d hs ats cs := ⟨r.hd.mono hq, r.len, r.rows.mono hq, r.cl.mono hq, r.hn, r.hm, r.md, r.strs⟩
theorem SchF.tot (r : SchF P w A C n m d hs ats cs) : asTot ats ≤ 6400 := by
  have h1 : asTot ats ≤ 400 * ats.length := sum_le_all fun a ha => by
    obtain ⟨h, _, hs, _⟩ := r.rows.mem ha
    exact hs.tot
  have h2 := r.hn
  rw [r.len] at h1; omega
theorem SchF.sch (r : SchF P w A C n m d hs ats cs) : Sch w A C n m d hs ats cs :=
  ⟨⟨⟨r.hd.rd, r.len, by rw [r.rows.len, r.len], fun j h a h1 h2 => (r.rows.row j h a h1 h2).1.rd⟩, r.cl.rd⟩, by have := r.hn; omega, by have := r.tot; omega, by have := r.hm; omega,
    fun h hh => by obtain ⟨a, _, s, _⟩ := r.rows.mem' hh; exact s.cap, r.md,
    fun a ha => by
      obtain ⟨h, _, s, _⟩ := r.rows.mem ha
      exact ⟨by have := s.nm; omega, fun t ht => by have := s.strs t ht; omega⟩, fun s hs => by have := r.strs s hs; omega⟩
end

/-- Rows of numbers, and statistics, in blocks that meet P. -/
structure StaF (P : Nat → Prop) (w : World) (T X : Option Addr) (q p : Nat) (gs : List Hd) (ts : List Int) (xss : List (List Int)) : Prop where
  tot : Rdf P w T q (ts.map (Value.int .i64))
  hd : Rdf P w X p (gs.map hdV)
  len : xss.length = p
  row : ∀ (j : Nat) (h : Hd) (xs : List Int), gs[j]? = some h → xss[j]? = some xs → Rdf P w h.1 h.2.1 (xs.map (Value.int .i64))
  hq : q ≤ 32
  hp : p ≤ 16
  hx : ∀ xs ∈ xss, xs.length ≤ 128
section
variable {P Q : Nat → Prop} {w w' : World} {T X : Option Addr} {q p : Nat} {gs : List Hd} {ts : List Int} {xss : List (List Int)}
theorem StaF.keep (r : StaF P w T X q p gs ts xss) (k : Keeps P w w') : StaF P w' T X q p gs ts xss := ⟨r.tot.keep k, r.hd.keep k, r.len, fun j h xs h1 h2 => (r.row j h xs h1 h2).keep k, r.hq, r.hp, r.hx⟩
theorem StaF.mono (r : StaF P w T X q p gs ts xss) (hq : ∀ k, P k → k < w.heap.size → Q k) : StaF Q w T X q p gs ts xss := ⟨r.tot.mono hq, r.hd.mono hq, r.len, fun j h xs h1 h2 => (r.row j h xs h1 h2).mono hq, r.hq, r.hp, r.hx⟩
theorem totI_le : ∀ {xss : List (List Int)} {K : Nat}, (∀ xs ∈ xss, xs.length ≤ K) → totI xss ≤ K * xss.length
  | [], _, _ => by simp [totI]
  | xs :: t, K, h => by
    have h1 := h xs (List.mem_cons_self ..)
    have h2 := totI_le (xss := t) (K := K) (fun b hb => h b (List.mem_cons_of_mem _ hb))
    simp only [totI, List.map_cons, List.sum_cons, List.length_cons, Nat.mul_add, Nat.mul_one] at h2 ⊢
    omega
theorem StaF.sta (r : StaF P w T X q p gs ts xss) : Sta w T X q p gs ts xss :=
  ⟨r.tot.rd, ⟨r.hd.rd, by rw [iss_len]; exact r.len, fun j h vs h1 h2 => by
    obtain ⟨xs, hx, rfl⟩ := iss_get' h2
    exact (r.row j h xs h1 hx).rd⟩, by have := r.hq; omega, by have := r.hp; omega, by
    have h1 := totI_le r.hx
    have h2 := r.hp; have h3 := r.len
    rw [h3] at h1; omega⟩
theorem StaF.of_own {lo hi mid c d : Nat} (o : OwSta lo hi w T X q c p d mid gs ts xss) (hP : ∀ k, lo ≤ k → k < hi → P k) (hq : q ≤ 32) (hp : p ≤ 16) (hx : ∀ xs ∈ xss, xs.length ≤ 128) : StaF P w T X q p gs ts xss := by
  have hle := o.le
  refine ⟨Rdf.of_own o.tot.own fun k h1 h2 h3 => hP k h1 (by have := o.tot.top k h3; omega), Rdf.of_own o.cel.hd.own fun k h1 h2 h3 => hP k (by omega) (o.cel.hd.top k h3), by have := o.cel.len; rwa [iss_len] at this, fun j h xs h1 h2 => ?_, hq, hp, hx⟩
  have row := o.cel.rows.row j h _ h1 (iss_get h2)
  exact Rdf.of_own row.own fun k h4 h5 h6 => hP k (by omega) (row.top k h6)
end

end Go.Proofs.YtchkmcikpamdeaaDoor
