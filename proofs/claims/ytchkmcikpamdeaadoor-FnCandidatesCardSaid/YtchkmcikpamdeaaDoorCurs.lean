/-
  The cursor's helpers; a pick from a list of strings.
-/
import Derived.Test.YtchkmcikpamdeaaDoorRdf
import Derived.Deep.AppendLies
import Derived.Deep.RegionHeld3
import Derived.BigQuiet
namespace Go.Proofs.YtchkmcikpamdeaaDoor
open Go.RowKit
set_option linter.unusedSimpArgs false
set_option linter.unusedVariables false

theorem own_only {w w' : World} {base l h : Nat} {e : TypeId} {size n : Nat} {v : Value} {xs : List Value} (ho : w.ownsRow base e size v n xs) (hn : Only l h w w') (hl : h ≤ base) : w'.ownsRow base e size v n xs := by
  refine ⟨ho.1, ?_⟩
  rcases ho.2 with h2 | ⟨g, cap, cur, a, b, c', d⟩
  · exact .inl h2
  · have hlt : g < w.heap.size := by
      rcases Nat.lt_or_ge g w.heap.size with hlt | hge
      · exact hlt
      · rw [Array.getElem?_eq_none hge] at c'; cases c'
    exact .inr ⟨g, cap, cur, a, b, by rw [hn.block g hlt (by omega)]; exact c', d⟩
theorem Cur.below2 {w w' : World} {B g : Nat} {A : Option Addr} {n c : Nat} {bs : List Int} (h : Cur w g A n c bs) (hb : Below B w w') (hB : g < B) : Cur w' g A n c bs := by
  obtain ⟨i, z, hi, hx⟩ := h.ex
  refine ⟨⟨i, z, hi, hx.same (same_below hb (by omega))⟩, ⟨h.rd.len, fun hn => ?_⟩, h.far⟩
  obtain ⟨b, off, rfl, hlt, hc⟩ := h.rd.ex hn
  have := h.far hn _ rfl
  simp only at this
  exact ⟨b, off, rfl, Nat.lt_of_lt_of_le hlt hb.size, fun j u hu => (hb.cell (p := ⟨b, off + j, none⟩) (by show b < B; omega)).trans (hc j u hu)⟩
theorem Only.below_ {l h B : Nat} {a b c : World} (h1 : Only l h a b) (h2 : Below B b c) (hB : a.heap.size ≤ B) : Only l h a c :=
  ⟨h2.os.trans h1.os, h2.tape.trans h1.tape, h2.output.trans h1.output, Nat.le_trans h1.size h2.size, fun k hk hd => (h2.block k (by omega)).trans (h1.block k hk hd)⟩
theorem grow_below {B : Nat} {W w3 : World} {A : Option Addr} {k c : Nat} {e : TypeId} {xs : List Value} {o : Obj} (h : W.ownsRow B e 1 (.slice A k c) k xs) (hg : (W.alloc o).grownBy w3 (Value.slice A k c).ownBlock) (hB : B ≤ W.heap.size) : Below B W w3 :=
  ((Below.refl B W).alloc hB o).grown hg (by simp; omega) (fun k hk => (h.lt k hk).1)

/-- A pick from a list that is written out. -/
theorem pickLit (g : Nat) (A : Option Addr) (n c m : Nat) (bs xs : List Int) (w : World) (cs : Array Value) (T : TypeId) (hcs : cs.toList = xs.map (Value.int .i64)) (hm : xs.length = m) (h0 : 0 < m) (h1 : m ≤ 1000)
    (hu : ∀ z ∈ bs, 0 ≤ z ∧ z ≤ 255) (hn : n ≤ 1073741824) (h : Cur w g A n c bs) :
    Calls Tryd.prog 58 #[.pointer (some ⟨g, 0, none⟩), .slice (some ⟨w.heap.size, 0, none⟩) m m] (w.alloc (.cells cs T)) (PickR g A n c bs xs w) := by
  have hb := below_alloc1 (w := w) (.cells cs T)
  have hx : Rd (w.alloc (.cells cs T)) (some ⟨w.heap.size, 0, none⟩) m (xs.map (Value.int .i64)) := by
    refine ⟨by simpa using hm, fun _ => ⟨w.heap.size, 0, rfl, by simp, fun j v hv => ?_⟩⟩
    rw [← hcs] at hv
    have := (Bx.new w T cs).cells j
    rw [Nat.zero_add, this]
    simpa using hv
  have hlt := h.lt
  refine (l1PickInt_any g A _ n c m m bs xs _ hu hn (h.below hb (Nat.le_refl _)) hx (fun a ha => ?_) h0 h1).mono ?_
  · obtain rfl : (⟨w.heap.size, 0, none⟩ : Addr) = a := by simpa using ha
    simp only
    omega
  · rintro e w' ⟨x, rfl, hx, hc, ho⟩
    exact ⟨x, rfl, hx, hc, (Only.of_below hb (Nat.le_refl _)).trans ho⟩
theorem pickLitAt (g : Nat) (A : Option Addr) (n c m : Nat) (bs xs : List Int) (w : World) (cs : Array Value) (T : TypeId) (s : Nat) (hs : w.heap.size = s) (hcs : cs.toList = xs.map (Value.int .i64)) (hm : xs.length = m) (h0 : 0 < m) (h1 : m ≤ 1000)
    (hu : ∀ z ∈ bs, 0 ≤ z ∧ z ≤ 255) (hn : n ≤ 1073741824) (h : Cur w g A n c bs) :
    Calls Tryd.prog 58 #[.pointer (some ⟨g, 0, none⟩), .slice (some ⟨s, 0, none⟩) m m] (w.alloc (.cells cs T)) (PickR g A n c bs xs w) := by
  subst hs
  exact pickLit g A n c m bs xs w cs T hcs hm h0 h1 hu hn h
theorem grown_drew (w : World) {row : Option Nat} : w.grownBy w.drew row := ⟨rfl, rfl, rfl, Nat.le_refl _, fun _ _ _ => rfl⟩
theorem same_grown {lo hi : Nat} {w w' : World} {row : Option Nat} (hg : w.grownBy w' row) (hs : hi ≤ w.heap.size) (hr : ∀ k, row = some k → k < lo ∨ hi ≤ k) : Same lo hi w w' := fun k h1 h2 => hg.block k (by omega) (fun e => by have := hr k e.symm; omega)
theorem cell_grown {w w' : World} {row : Option Nat} {b i : Nat} (hg : w.grownBy w' row) (hb : b < w.heap.size) (hne : some b ≠ row) : w'.cell? ⟨b, i, none⟩ = w.cell? ⟨b, i, none⟩ := by
  have := hg.block b hb hne
  simp only [World.cell?, this]
theorem frozen_grown {w w' : World} {row : Option Nat} {b i : Nat} (hg : w.grownBy w' row) (hb : b < w.heap.size) (hne : some b ≠ row) : w'.frozen? ⟨b, i, none⟩ = w.frozen? ⟨b, i, none⟩ := by
  have := hg.block b hb hne
  simp only [World.frozen?, this]
theorem grown_alloc (w : World) (o : Obj) {row : Option Nat} : w.grownBy (w.alloc o) row := World.grownBy_alloc w o row
theorem setc_size (w : World) (a : Addr) (u : Value) : (w.setCell a u).heap.size = w.heap.size := by simp [World.setCell]
theorem below_of_grown {lo : Nat} {w w' : World} {row : Option Nat} (h : w.grownBy w' row) (h0 : lo ≤ w.heap.size) (hr : ∀ k, row = some k → lo ≤ k) : Below lo w w' := Below.grown (Below.refl _ _) h h0 hr
theorem below_drew (B : Nat) (w : World) : Below B w w.drew := ⟨rfl, rfl, rfl, Nat.le_refl _, fun _ _ => rfl⟩

/-- Some string of a list. -/
def PickS (g : Nat) (A : Option Addr) (n c : Nat) (bs : List Int) (xs : List ByteArray) (w : World) (e : Ending) (w' : World) : Prop :=
  ∃ x : ByteArray, e = .returned (.string x) ∧ x ∈ xs ∧ Cur w' g A n c bs ∧ Only g (g + 1) w w'
theorem l1Pick_any (g : Nat) (A A' : Option Addr) (n c m c' : Nat) (bs : List Int) (xs : List ByteArray) (w : World) (hu : ∀ z ∈ bs, 0 ≤ z ∧ z ≤ 255) (hn : n ≤ 1073741824) (h : Cur w g A n c bs)
    (hx : Rd w A' m (xs.map Value.string)) (hf : ∀ a, A' = some a → a.block ≠ g) (hm : 0 < m) (hm2 : m ≤ 1000) :
    Calls Tryd.prog 56 #[.pointer (some ⟨g, 0, none⟩), .slice A' m c'] w (PickS g A n c bs xs w) := by
  obtain ⟨b, off, rfl, hlt, hc⟩ := hx.ex hm
  have hl : xs.length = m := by have := hx.len; simpa using this
  have hne := hf _ rfl
  have HC := Lib.hid h
  have HU := Lib.hid hu
  have HX := Lib.hid hc
  have HL := Lib.hid hl
  simp only at hne
  clear h hu hx hf hc hl
  go_enter Tryd.func56, Tryd.ntmps56
  go_wp2_with fail
  refine (l1Below_any g A n c bs m _ HU.out hn HC.out).mono ?_
  rintro e w1 ⟨x, rfl, ⟨x0, x1, _⟩, hc1, ho1⟩
  have x2 := x1 (by omega)
  obtain ⟨j, rfl⟩ := Int.eq_ofNat_of_zero_le x0
  have hj : j < m := by omega
  have hjl : j < xs.length := by rw [HL.out]; exact hj
  have HJ : Hid (xs[j] ∈ xs) := List.getElem_mem hjl
  have hcell : w1.cell? ⟨b, off + j, none⟩ = some (.string xs[j]) := (World.cell?_of_block (ho1.block b hlt (by omega))).trans (HX.out j _ (by simp [hjl]))
  obtain ⟨z, hz⟩ : ∃ z, z = xs[j] := ⟨_, rfl⟩
  rw [← hz] at hcell HJ
  have HC1 := Lib.hid hc1; have HO1 := Lib.hid ho1
  clear hc1 ho1 x1 hz hjl
  go_wp2_with fail
  go_ret
  exact ⟨z, rfl, HJ.out, HC1.out, HO1.out⟩
/-- A pick from a list of strings that is written out. -/
theorem pickLitS (g : Nat) (A : Option Addr) (n c m : Nat) (bs : List Int) (xs : List ByteArray) (w : World) (cs : Array Value) (T : TypeId) (hcs : cs.toList = xs.map Value.string) (hm : xs.length = m) (h0 : 0 < m) (h1 : m ≤ 1000)
    (hu : ∀ z ∈ bs, 0 ≤ z ∧ z ≤ 255) (hn : n ≤ 1073741824) (h : Cur w g A n c bs) :
    Calls Tryd.prog 56 #[.pointer (some ⟨g, 0, none⟩), .slice (some ⟨w.heap.size, 0, none⟩) m m] (w.alloc (.cells cs T)) (PickS g A n c bs xs w) := by
  have hb := below_alloc1 (w := w) (.cells cs T)
  have hx : Rd (w.alloc (.cells cs T)) (some ⟨w.heap.size, 0, none⟩) m (xs.map Value.string) := by
    refine ⟨by simpa using hm, fun _ => ⟨w.heap.size, 0, rfl, by simp, fun j v hv => ?_⟩⟩
    rw [← hcs] at hv
    have := (Bx.new w T cs).cells j
    rw [Nat.zero_add, this]
    simpa using hv
  have hlt := h.lt
  refine (l1Pick_any g A _ n c m m bs xs _ hu hn (h.below hb (Nat.le_refl _)) hx (fun a ha => ?_) h0 h1).mono ?_
  · obtain rfl : (⟨w.heap.size, 0, none⟩ : Addr) = a := by simpa using ha
    simp only
    omega
  · rintro e w' ⟨x, rfl, hx, hc, ho⟩
    exact ⟨x, rfl, hx, hc, (Only.of_below hb (Nat.le_refl _)).trans ho⟩

/-- Boxes, owned rows and the cursor where other blocks turn. -/
theorem Bx.keep {P : Nat → Prop} {w w' : World} {b : Nat} {t : TypeId} {cs : Array Value} (h : Bx w b t cs) (k : Keeps P w w') (hp : P b) : Bx w' b t cs := (k.block b hp h.lt).trans h
theorem own_keep {P : Nat → Prop} {w w' : World} {base sz n c : Nat} {e : TypeId} {A : Option Addr} {xs : List Value} (h : w.ownsRow base e sz (.slice A n c) n xs) (k : Keeps P w w') (hp : ∀ g, base ≤ g → (Value.slice A n c).ownBlock = some g → P g) : w'.ownsRow base e sz (.slice A n c) n xs := by
  refine ⟨h.1, ?_⟩
  rcases h.2 with h2 | ⟨g, cap, cur, a, b, c', d⟩
  · exact .inl h2
  · have hlt : g < w.heap.size := by
      rcases Nat.lt_or_ge g w.heap.size with hlt | hge
      · exact hlt
      · rw [Array.getElem?_eq_none hge] at c'; cases c'
    exact .inr ⟨g, cap, cur, a, b, by rw [k.block g (hp g b (by rw [a]; rfl)) hlt]; exact c', d⟩
theorem own_capN {w : World} {base n c : Nat} {e : TypeId} {sz : Nat} {A : Option Addr} {xs : List Value} (h : w.ownsRow base e sz (.slice A n c) n xs) : n ≤ c := by
  rcases Nat.eq_zero_or_pos n with h0 | h0
  · omega
  · obtain ⟨g, cap, hv, _, _, hc, _⟩ := own_form h h0
    simp only [Value.slice.injEq] at hv
    omega
theorem rdf_lit {P : Nat → Prop} {W : World} {cs : Array Value} {T : TypeId} {b n : Nat} (hb : W.heap.size = b) (hp : P b) (hn : cs.size = n) : Rdf P (W.alloc (.cells cs T)) (some ⟨b, 0, none⟩) n cs.toList := by
  subst hb
  refine ⟨⟨by simpa using hn, fun _ => ⟨W.heap.size, 0, rfl, by simp, fun j u hu => ?_⟩⟩, fun _ a ha => ?_⟩
  · rw [Nat.zero_add, (Bx.new W T cs).cells j]; simpa using hu
  · obtain rfl : (⟨W.heap.size, 0, none⟩ : Addr) = a := Option.some.inj ha
    exact hp
theorem keeps_cur {g : Nat} {w w' : World} (h : Only g (g + 1) w w') : Keeps (· ≠ g) w w' := Keeps.only h (fun k hk => by omega)
theorem Below.sizes {B : Nat} {w w' : World} (h : Below B w w') : w.heap.size ≤ w'.heap.size := h.size
theorem set1_keeps (w : World) (r i : Nat) (u : Value) : Keeps (· ≠ r) w (w.setCell ⟨r, i, none⟩ u) ∧ Below r w (w.setCell ⟨r, i, none⟩ u) :=
  ⟨Keeps.set (by simp), Below.setCell (p := ⟨r, i, none⟩) (Below.refl _ _) (Nat.le_refl _) _⟩
theorem keeps_step {r : Nat} {w w' : World} (h : Keeps (· ≠ r) w w' ∧ Below r w w') (i : Nat) (u : Value) : Keeps (· ≠ r) w (w'.setCell ⟨r, i, none⟩ u) ∧ Below r w (w'.setCell ⟨r, i, none⟩ u) :=
  ⟨h.1.trans (set1_keeps w' r i u).1, h.2.trans (set1_keeps w' r i u).2⟩
/-- Behind an append, then a store into a box: the box, what lies apart, the cursor. -/
theorem app_keeps {w u : World} {row : Option Nat} {b i : Nat} {x : Value} (h : w.grownBy u row) : Keeps (fun k => k ≠ b ∧ row ≠ some k) w (u.setCell ⟨b, i, none⟩ x) :=
  (Keeps.grown (P := fun k => k ≠ b ∧ row ≠ some k) h (fun k hk => hk.2)).trans (Keeps.set (by simp))
theorem app_below {w u : World} {row : Option Nat} {b i B : Nat} {x : Value} (h : w.grownBy u row) (hB : B ≤ w.heap.size) (hr : ∀ k, row = some k → B ≤ k) (hb : B ≤ b) : Below B w (u.setCell ⟨b, i, none⟩ x) :=
  Below.setCell (p := ⟨b, i, none⟩) (below_of_grown h hB hr) hb _

end Go.Proofs.YtchkmcikpamdeaaDoor
