/-
  The draw of a schema that is right.
-/
import Derived.Test.YtchkmcikpamdeaaDoorDraw5A
import Derived.Deep.CutBlock
namespace Go.Proofs.YtchkmcikpamdeaaDoor
open Go.RowKit
set_option linter.unusedSimpArgs false
set_option linter.unusedVariables false

/-- A schema whose slices a call owns; the attributes' rows lie apart. -/
structure SchO (lo : Nat) (w : World) (A : Option Addr) (n c : Nat) (C : Option Addr) (m d : Nat) (hs : List AH) (ats : List AD) (cs : List ByteArray) : Prop where
  hd : w.ownsRow lo 52 3 (.slice A n c) n (ascells ats hs)
  len : ats.length = n
  cl : w.ownsRow lo 9 1 (.slice C m d) m (cs.map Value.string)
  two : ∀ j, (Value.slice A n c).ownBlock = some j → (Value.slice C m d).ownBlock = some j → False
  rows : RowsF (fun j => lo ≤ j ∧ (Value.slice A n c).ownBlock ≠ some j ∧ (Value.slice C m d).ownBlock ≠ some j) w hs ats
  strs : ∀ s ∈ cs, s.size ≤ 16
theorem SchO.keep {P : Nat → Prop} {lo : Nat} {w w' : World} {A C : Option Addr} {n c m d : Nat} {hs : List AH} {ats : List AD} {cs : List ByteArray} (h : SchO lo w A n c C m d hs ats cs) (k : Keeps P w w') (hp : ∀ j, lo ≤ j → j < w.heap.size → P j) : SchO lo w' A n c C m d hs ats cs := by
  have k' : Keeps (fun j => lo ≤ j ∧ j < w.heap.size) w w' := k.mono fun j hj => hp j hj.1 hj.2
  have hlt := h.hd.lt; have hlt2 := h.cl.lt
  refine ⟨own_keep h.hd k' (fun j hj e => ⟨hj, (hlt j e).2⟩), h.len, own_keep h.cl k' (fun j hj e => ⟨hj, (hlt2 j e).2⟩), h.two, ?_, h.strs⟩
  have hr := h.rows.mono (Q := fun j => (lo ≤ j ∧ (Value.slice A n c).ownBlock ≠ some j ∧ (Value.slice C m d).ownBlock ≠ some j) ∧ j < w.heap.size) fun j h1 h2 => ⟨h1, h2⟩
  exact (hr.keep (k'.mono fun j hj => ⟨hj.1.1, hj.2⟩)).mono fun j h1 _ => h1.1
theorem SchO.schF {lo : Nat} {w : World} {A C : Option Addr} {n c m d : Nat} {hs : List AH} {ats : List AD} {cs : List ByteArray} (h : SchO lo w A n c C m d hs ats cs) (hn : n ≤ 16) (hm : m ≤ 16) : SchF (fun j => lo ≤ j) w A C n m d hs ats cs :=
  ⟨Rdf.of_ownN h.hd (fun j h1 _ _ => h1), h.len, h.rows.mono (fun j h1 _ => h1.1), Rdf.of_own h.cl (fun j h1 _ _ => h1), hn, hm, own_capN h.cl, h.strs⟩
/-- What a draw of a schema may answer. -/
def SchR (K : Nat) (g : Nat) (A : Option Addr) (n c : Nat) (bs : List Int) (w : World) (e : Ending) (w' : World) : Prop :=
  ∃ (A' : Option Addr) (n' c' : Nat) (C' : Option Addr) (m' d' : Nat) (hs : List AH) (ats : List AD) (cs : List ByteArray), e = .returned (.agg #[.slice A' n' c', .slice C' m' d']) ∧ (n' ≤ K ∧ 2 ≤ m' ∧ m' ≤ K) ∧ SchO w.heap.size w' A' n' c' C' m' d' hs ats cs ∧ Cur w' g A n c bs ∧ Only g (g + 1) w w'

theorem SchO.low {lo lo' : Nat} {w : World} {A C : Option Addr} {n c m d : Nat} {hs : List AH} {ats : List AD} {cs : List ByteArray} (h : SchO lo w A n c C m d hs ats cs) (hl : lo' ≤ lo) : SchO lo' w A n c C m d hs ats cs :=
  ⟨own_base h.hd hl, h.len, own_base h.cl hl, h.two, h.rows.mono (fun j h1 _ => ⟨Nat.le_trans hl h1.1, h1.2⟩), h.strs⟩
set_option maxRecDepth 20000 in
set_option maxHeartbeats 4000000 in
theorem l5Right_any (g : Nat) (A : Option Addr) (n c : Nat) (bs : List Int) (w : World) (hu : ∀ z ∈ bs, 0 ≤ z ∧ z ≤ 255) (hn : n ≤ 1073741824) (h : Cur w g A n c bs) :
    Calls Tryd.prog 54 #[.pointer (some ⟨g, 0, none⟩)] w (SchR 5 g A n c bs w) := by
  have HC := Lib.hid h
  have HU := Lib.hid hu
  have hgw := h.lt
  obtain ⟨i2, hi0, hz0, hz1, hz2⟩ := info_parts info_StringS
  have HJ := Lib.hid hi0; have HJ0 := Lib.hid hz0; have HJ1 := Lib.hid hz1; have HJ2 := Lib.hid hz2
  clear hi0 hz0 hz1 hz2
  obtain ⟨i3, hi0, hz0, hz1, hz2⟩ := info_parts info_Attr
  have HY := Lib.hid hi0; have HY0 := Lib.hid hz0; have HY1 := Lib.hid hz1; have HY2 := Lib.hid hz2
  clear hi0 hz0 hz1 hz2
  clear h hu
  have B0 := Below.refl w.heap.size w
  have s0 : w.heap.size ≤ w.heap.size := Nat.le_refl _
  go_enter Tryd.func54, Tryd.ntmps54
  have r_2 : Bx (w.alloc (.cells #[.slice none 0 0, .slice none 0 0] 32)) (w.heap.size) 32 #[.slice none 0 0, .slice none 0 0] := Bx.new _ _ _
  have B_2 := B0.alloc s0 (.cells #[.slice none 0 0, .slice none 0 0] 32)
  clear B0
  have cr_3 := r_2.cells
  have fr_3 := r_2.free
  clear cr_3 fr_3
  have r_4 := r_2.same (same_alloc (.cells #[.string { data := #[110, 111] }, .string { data := #[121, 101, 115] }] 9) (by simp only [World.size_alloc]; omega))
  clear r_2
  have lit_5 : Bx ((w.alloc (.cells #[.slice none 0 0, .slice none 0 0] 32)).alloc (.cells #[.string { data := #[110, 111] }, .string { data := #[121, 101, 115] }] 9)) (w.heap.size + 1) 9 #[.string { data := #[110, 111] }, .string { data := #[121, 101, 115] }] := by
    have h := Bx.new (w.alloc (.cells #[.slice none 0 0, .slice none 0 0] 32)) 9 #[.string { data := #[110, 111] }, .string { data := #[121, 101, 115] }]
    simpa only [World.size_alloc] using h
  have B_5 := B_2.alloc (by simp only [World.size_alloc]; omega) (.cells #[.string { data := #[110, 111] }, .string { data := #[121, 101, 115] }] 9)
  clear B_2
  have cr_6 := r_4.cells
  have fr_6 := r_4.free
  have clit_7 := lit_5.cells
  have flit_7 := lit_5.free
  clear cr_6 fr_6
  clear clit_7 flit_7
  have r_8 := r_4.same (same_alloc (.cells #[.slice none 0 0, .slice (some ⟨w.heap.size + 1, 0, none⟩) 2 2] 32) (by simp only [World.size_alloc]; omega))
  clear r_4
  have lit_8 := lit_5.same (same_alloc (.cells #[.slice none 0 0, .slice (some ⟨w.heap.size + 1, 0, none⟩) 2 2] 32) (by simp only [World.size_alloc]; omega))
  clear lit_5
  have a_9 : Bx (((w.alloc (.cells #[.slice none 0 0, .slice none 0 0] 32)).alloc (.cells #[.string { data := #[110, 111] }, .string { data := #[121, 101, 115] }] 9)).alloc (.cells #[.slice none 0 0, .slice (some ⟨w.heap.size + 1, 0, none⟩) 2 2] 32)) (w.heap.size + 1 + 1) 32 #[.slice none 0 0, .slice (some ⟨w.heap.size + 1, 0, none⟩) 2 2] := by
    have h := Bx.new ((w.alloc (.cells #[.slice none 0 0, .slice none 0 0] 32)).alloc (.cells #[.string { data := #[110, 111] }, .string { data := #[121, 101, 115] }] 9)) 32 #[.slice none 0 0, .slice (some ⟨w.heap.size + 1, 0, none⟩) 2 2]
    simpa only [World.size_alloc] using h
  have B_9 := B_5.alloc (by simp only [World.size_alloc]; omega) (.cells #[.slice none 0 0, .slice (some ⟨w.heap.size + 1, 0, none⟩) 2 2] 32)
  clear B_5
  have cr_10 := r_8.cells
  have fr_10 := r_8.free
  have clit_11 := lit_8.cells
  have flit_11 := lit_8.free
  have ca_12 := a_9.cells
  have fa_12 := a_9.free
  go_wp2_with fail
  clear cr_10 fr_10
  clear clit_11 flit_11
  clear ca_12 fa_12
  obtain ⟨v13, hv13⟩ : ∃ v13, v13 = (((w.alloc (.cells #[.slice none 0 0, .slice none 0 0] 32)).alloc (.cells #[.string { data := #[110, 111] }, .string { data := #[121, 101, 115] }] 9)).alloc (.cells #[.slice none 0 0, .slice (some ⟨w.heap.size + 1, 0, none⟩) 2 2] 32)) := ⟨_, rfl⟩
  have zv13 : w.heap.size + 1 + 1 + 1 ≤ v13.heap.size := by rw [hv13]; simp
  rw [← hv13] at r_8 lit_8 a_9 B_9 ⊢
  clear hv13
  have HRr0 := Lib.hid r_8; have HA0 := Lib.hid a_9
  have HCl0 : Hid (v13.ownsRow (w.heap.size + 1) 9 1 (.slice (some ⟨w.heap.size + 1, 0, none⟩) 2 2) 2 ([{ data := #[110, 111] }, { data := #[121, 101, 115] }].map Value.string)) := ⟨rfl, .inr ⟨w.heap.size + 1, 2, _, rfl, Nat.le_refl _, lit_8, Nat.le_refl _, by simp [maxLen], rfl, rfl⟩⟩
  have HCv := Lib.hid (HC.out.below B_9 (Nat.le_refl _))
  have HOv : Hid (Only g (g + 1) w v13) := Only.of_below B_9 (Nat.le_refl _)
  clear r_8 a_9 lit_8 B_9
  refine (l1Once_any g A n c bs 3 _ HU.out hn HCv.out).mono ?_
  rintro e v1 ⟨t, rfl, hc1, ho1⟩
  have s1 := ho1.size
  have K1 := keeps_cur ho1
  have HC1 := Lib.hid hc1; have HO1 := Lib.hid (HOv.out.trans ho1); have HRr1 := Lib.hid (HRr0.out.keep K1 (by omega)); have HA1 := Lib.hid (HA0.out.keep K1 (by omega))
  have HCl1 := Lib.hid (own_keep HCl0.out K1 (fun j hj _ => by omega))
  clear hc1 ho1 K1 HCv HOv HRr0 HA0 HCl0
  go_upto_if 9 with fail
  go_cut [] (fun wx => ∃ (C1 : Option Addr) (m1 d1 : Nat) (cs1 : List ByteArray), (m1 ≤ 3 ∧ 2 ≤ m1) ∧ (∀ s ∈ cs1, s.size ≤ 16) ∧ Bx wx (w.heap.size + 1 + 1) 32 #[.slice none 0 0, .slice C1 m1 d1] ∧ Bx wx w.heap.size 32 #[.slice none 0 0, .slice none 0 0] ∧ wx.ownsRow (w.heap.size + 1) 9 1 (.slice C1 m1 d1) m1 (cs1.map Value.string) ∧ (Value.slice C1 m1 d1).ownBlock ≠ some (w.heap.size + 1 + 1) ∧ Cur wx g A n c bs ∧ Only g (g + 1) w wx)
  case first =>
    cases t
    · go_wp2_with fail
      go_meet
      exact ⟨(some ⟨w.heap.size + 1, 0, none⟩), 2, 2, [{ data := #[110, 111] }, { data := #[121, 101, 115] }], by omega, by decide, HA1.out, HRr1.out, HCl1.out, by simp [Value.ownBlock], HC1.out, HO1.out⟩
    · have hlb := HA1.out.lt
      have p0 : v1.cell? ⟨(w.heap.size + 1 + 1), 0, none⟩ = some (.slice none 0 0) := HA1.out.cells 0; have pf0 := HA1.out.free 0
      have p1 : v1.cell? ⟨(w.heap.size + 1 + 1), 1, none⟩ = some (.slice (some ⟨w.heap.size + 1, 0, none⟩) 2 2) := HA1.out.cells 1; have pf1 := HA1.out.free 1
      go_wp2_with (at_builtin; refine wpList_append_lies _ rfl _ _ 23 rfl (w.heap.size + 1) 9 i2 _ 1 16 Tryd.underlying23 HJ.out HJ0.out HJ1.out HJ2.out rfl (by decide) (.slice (some ⟨w.heap.size + 1, 0, none⟩) 2 2) 2 ([{ data := #[110, 111] }, { data := #[121, 101, 115] }].map Value.string) rfl (HCl1.out.alloc _) ⟨v1.heap.size, 0, none⟩ 1 1 [.string { data := #[112, 101, 114, 104, 97, 112, 115] }] rfl rfl (cell_one_new _ _ _) ?c2 (by omega) ?c3 ?c4 ?c5 _ rfl ?_)
      case c2 => first | rfl | (intro u hu; simp at hu; subst hu; rfl)
      case c3 => first | (unfold maxLen; omega) | omega
      case c4 => omega
      case c5 => first | (simp only [World.size_alloc]; omega) | omega
      intro g7 cap7 u6 hown7 hgrow7 hat7 hlt7
      have hg7 : v1.grownBy u6 (Value.slice (some ⟨w.heap.size + 1, 0, none⟩) 2 2).ownBlock := (grown_alloc _ _).trans hgrow7
      have hrow : ∀ j, (Value.slice (some ⟨w.heap.size + 1, 0, none⟩) 2 2).ownBlock = some j → j = w.heap.size + 1 := fun j hj => by simpa [Value.ownBlock] using hj.symm
      have HK9 := Lib.hid (app_keeps (b := (w.heap.size + 1 + 1)) (i := 1) (x := .slice (some ⟨g7, 0, none⟩) 3 cap7) hg7)
      have HB9 := Lib.hid (app_below (b := (w.heap.size + 1 + 1)) (i := 1) (B := w.heap.size + 1) (x := .slice (some ⟨g7, 0, none⟩) 3 cap7) hg7 (by omega) (fun j hj => by have := hrow j hj; omega) (by omega))
      have hu6 := HA1.out.keep (Keeps.grown hg7 (P := fun j => j = (w.heap.size + 1 + 1)) (fun j hj e => by have := hrow j e; omega)) rfl
      have hc6 : u6.cell? ⟨(w.heap.size + 1 + 1), 1, none⟩ = some (.slice (some ⟨w.heap.size + 1, 0, none⟩) 2 2) := hu6.cells 1
      have hf6 : u6.frozen? ⟨(w.heap.size + 1 + 1), 1, none⟩ = false := hu6.free 1
      have HBx9 := Lib.hid (hu6.set_ 1 (.slice (some ⟨g7, 0, none⟩) 3 cap7))
      have HRr9 := Lib.hid (HRr1.out.keep HK9.out ⟨by omega, fun e => by have := hrow _ e; omega⟩)
      have hne7 : g7 ≠ (w.heap.size + 1 + 1) := by
        rcases hat7 with e | e
        · have := hrow _ e; omega
        · first | omega | (simp only [World.size_alloc] at e; omega)
      have HOwn9 := Lib.hid (own_keep hown7 (Keeps.set (P := fun j => j ≠ (w.heap.size + 1 + 1)) (b := (w.heap.size + 1 + 1)) (i := 1) (u := .slice (some ⟨g7, 0, none⟩) 3 cap7) (by simp)) (fun j hj e => by simp only [Value.ownBlock, Option.some.injEq] at e; omega))
      have HC9 := Lib.hid (HC1.out.below2 HB9.out (by omega)); have HO9 := Lib.hid (HO1.out.below_ HB9.out (by omega))
      clear hown7 hgrow7 hat7 hg7 hrow hu6
      go_wp2_with fail
      go_meet
      exact ⟨some ⟨g7, 0, none⟩, 3, cap7, [{ data := #[110, 111] }, { data := #[121, 101, 115] }, { data := #[112, 101, 114, 104, 97, 112, 115] }], by omega, by decide, HBx9.out, HRr9.out, HOwn9.out, by simp only [Value.ownBlock, ne_eq, Option.some.injEq]; exact hne7, HC9.out, HO9.out⟩
  obtain ⟨C1, m1, d1, cs1, ⟨hm3, hm2⟩, hcs, hbx, hrr, hcl, hcb, hc, ho⟩ := hcut
  obtain ⟨u0, rfl⟩ : ∃ u0 : World, u0 = wc := ⟨_, rfl⟩
  have su := ho.size
  have hlb0 := hbx.lt
  have hcl0 : ∀ j, (Value.slice C1 m1 d1).ownBlock = some j → w.heap.size + 1 ≤ j ∧ j < u0.heap.size ∧ j ≠ (w.heap.size + 1 + 1) := fun j hj => ⟨(hcl.lt j hj).1, (hcl.lt j hj).2, fun e => hcb (by rw [← e]; exact hj)⟩
  have HClB := Lib.hid hcl0
  have HBx0 := Lib.hid hbx; have HRr0 := Lib.hid hrr; have HCl0 := Lib.hid hcl; have HC0 := Lib.hid hc; have HO0 := Lib.hid ho; have HCs := Lib.hid hcs
  clear hbx hrr hcl hc ho hcs hcl0 hcb HA1 HRr1 HCl1 HC1 HO1
  go_wp2_with fail
  refine (l1Below_any g A n c bs 5 _ HU.out hn HC0.out).mono ?_
  rintro e v2 ⟨x, rfl, ⟨x0, x1, _⟩, hc1, ho1⟩
  have x2 := x1 (by omega)
  obtain ⟨X, rfl⟩ := Int.eq_ofNat_of_zero_le x0
  obtain ⟨N, hN⟩ : ∃ N : Nat, N = 1 + X := ⟨_, rfl⟩
  have hN3 : N ≤ 5 := by omega
  have hNx : (1 : Int) + (X : Int) = (N : Int) := by omega
  have s2 := ho1.size
  have K2 := keeps_cur ho1
  have HC2 := Lib.hid hc1; have HO2 := Lib.hid (HO0.out.trans ho1); have HRr2 := Lib.hid (HRr0.out.keep K2 (by omega)); have HBx2 := Lib.hid (HBx0.out.keep K2 (by omega)); have HCl2 := Lib.hid (own_keep HCl0.out K2 (fun j hj _ => by omega))
  clear hc1 ho1 x1 hN K2 HC0 HO0 HRr0 HBx0 HCl0
  go_wp2_with fail
  clear hNx
  go_loopw [5] (fun s5 wr => ∃ (k : Nat) (A1 : Option Addr) (c1 : Nat) (hs : List AH) (ats : List AD), k ≤ N ∧ s5 = .int .i64 k ∧ Bx wr (w.heap.size + 1 + 1) 32 #[.slice A1 k c1, .slice C1 m1 d1] ∧ Bx wr w.heap.size 32 #[.slice none 0 0, .slice none 0 0] ∧ wr.ownsRow u0.heap.size 52 3 (.slice A1 k c1) k (ascells ats hs) ∧ ats.length = k ∧ RowsF (fun j => u0.heap.size ≤ j ∧ (Value.slice A1 k c1).ownBlock ≠ some j) wr hs ats ∧ wr.ownsRow (w.heap.size + 1) 9 1 (.slice C1 m1 d1) m1 (cs1.map Value.string) ∧ u0.heap.size ≤ wr.heap.size ∧ Cur wr g A n c bs ∧ Only g (g + 1) w wr) (fun s5 _ => N - (intOf s5).toNat)
  case atStart => exact ⟨0, none, 0, [], [], Nat.zero_le _, rfl, HBx2.out, HRr2.out, World.ownsRow_nil _ _ _ _, rfl, RowsF.nil _ _, HCl2.out, s2, HC2.out, HO2.out⟩
  case round =>
    obtain ⟨k, A1, c1, hs, ats, hk, rfl, hbx, hrr, hown, hal, hrows, hcl, hsu, hc, ho⟩ := hrel
    obtain ⟨wo, rfl⟩ : ∃ wo : World, wo = wr := ⟨_, rfl⟩
    have hsz := ho.size
    have hlb := hbx.lt
    have HBx := Lib.hid hbx; have HRr := Lib.hid hrr; have HOwn := Lib.hid hown; have HCf := Lib.hid hc; have HOf := Lib.hid ho; have HRows := Lib.hid hrows; have HCl := Lib.hid hcl; have HAl := Lib.hid hal
    clear hbx hrr hown hc ho hrows hcl hal HBx2 HRr2 HCl2 HC2 HO2
    have hrow : ∀ j, (Value.slice A1 k c1).ownBlock = some j → u0.heap.size ≤ j := fun j hj => (HOwn.out.lt j hj).1
    have HRow := Lib.hid hrow
    clear hrow
    by_cases hlt : k < N
    · have hk5 : k < 5 := by omega
      have p0 : wo.cell? ⟨(w.heap.size + 1 + 1), 0, none⟩ = some (.slice A1 k c1) := HBx.out.cells 0; have pf0 := HBx.out.free 0
      have p1 : wo.cell? ⟨(w.heap.size + 1 + 1), 1, none⟩ = some (.slice C1 m1 d1) := HBx.out.cells 1; have pf1 := HBx.out.free 1
      have HKe : Hid (∀ (w' : World), wo.grownBy w' (Value.slice A1 k c1).ownBlock → w'.cell? ⟨(w.heap.size + 1 + 1), 0, none⟩ = some (.slice A1 k c1) ∧ w'.frozen? ⟨(w.heap.size + 1 + 1), 0, none⟩ = false) := fun w' hg => by
        have h := HBx.out.keep (Keeps.grown hg (P := fun j => j ≤ (w.heap.size + 1 + 1)) (fun j hj e => by have := HRow.out j e; omega)) (Nat.le_refl _)
        exact ⟨h.cells 0, h.free 0⟩
      have HCd := Lib.hid (HCf.out.below2 (below_drew wo.heap.size wo) (by omega))
      go_upto_region 8 with fail
      skip
      refine wp_region_last (n := 8) (S := fun w' => w'.cell? ⟨(w.heap.size + 1 + 1), 0, none⟩ = some (.slice A1 k c1) ∧ w'.frozen? ⟨(w.heap.size + 1 + 1), 0, none⟩ = false) (by kernel_rfl) rfl (by kernel_rfl) (HKe.out _ (grown_drew _)) ?_
      intro hS; (try dsimp only at hS)
      simp only [List.take_succ_cons, List.take_zero, List.getElem_toArray, List.getElem_cons_succ, List.getElem_cons_zero]
      refine wpAnyH_take (i := 0) (v := ?v1x) rfl (by kernel_rfl) (by kernel_rfl) (by kernel_rfl) (fun _ _ _ h => h) (Or.inl ⟨by rfl, ?hy1x⟩) hS ?rest1x
      case hy1x => (intro w' hSw; (try dsimp only at hSw); go_simp; (try (with_reducible rfl)))
      (try simp only [Act.put, List.setIfInBounds_toArray, List.set_cons_zero, List.set_cons_succ, List.getElem_toArray, List.getElem_cons_succ, List.getElem_cons_zero])
      refine wpAnyH_take (i := 1) (v := ?v2x) rfl (by kernel_rfl) (by kernel_rfl) (by kernel_rfl) (fun _ _ _ h => h) (Or.inl ⟨by rfl, ?hy2x⟩) hS ?rest2x
      case hy2x => (intro w' hSw; (try dsimp only at hSw); go_simp; (try (with_reducible rfl)))
      (try simp only [Act.put, List.setIfInBounds_toArray, List.set_cons_zero, List.set_cons_succ, List.getElem_toArray, List.getElem_cons_succ, List.getElem_cons_zero])
      refine wpAnyH_take (i := 2) (v := ?v3x) rfl (by kernel_rfl) (by kernel_rfl) (by kernel_rfl) (fun _ _ _ h => h) (Or.inl ⟨by rfl, ?hy3x⟩) hS ?rest3x
      case hy3x => (intro w' hSw; (try dsimp only at hSw); go_simp; (try (with_reducible rfl)))
      (try simp only [Act.put, List.setIfInBounds_toArray, List.set_cons_zero, List.set_cons_succ, List.getElem_toArray, List.getElem_cons_succ, List.getElem_cons_zero])
      refine wpAnyH_take (i := 3) (v := ?v4x) rfl (by kernel_rfl) (by kernel_rfl) (by kernel_rfl) (fun _ _ _ h => h) (Or.inl ⟨by rfl, ?hy4x⟩) hS ?rest4x
      case hy4x => (intro w' hSw; (try dsimp only at hSw); go_simp; (try (with_reducible rfl)))
      (try simp only [Act.put, List.setIfInBounds_toArray, List.set_cons_zero, List.set_cons_succ, List.getElem_toArray, List.getElem_cons_succ, List.getElem_cons_zero])
      refine wpAnyH_ready (rs := [4]) (by kernel_rfl) (by simp) ?_
      refine AllReadyH.cons rfl (fun K hK => ?_) AllReadyH.nil
      (try dsimp only [List.getElem_toArray, List.getElem_cons_succ, List.getElem_cons_zero])
      (go_simp; (refine (l5RightAttr_any g A n c bs _ HU.out hn HCd.out k hk5).mono ?_); rintro e q3 ⟨a, h, rfl, hsm, _, hro, hcq, hoq⟩; have hrd := hro.rdaf; clear hro; dsimp only)
      have hO3 : Only g (g + 1) wo q3 := (Only.of_below (below_drew wo.heap.size wo) (Nat.le_refl _)).trans hoq
      have hz3 := hO3.size
      have HCq3 := Lib.hid hcq
      have HRd := Lib.hid hrd
      have K3 := Lib.hid (keeps_cur hO3)
      have HBxq := Lib.hid (HBx.out.keep K3.out (by omega))
      have HOwnq := Lib.hid (own_keep HOwn.out K3.out (fun j hj _ => by omega))
      have HKq : Hid (∀ w' : World, q3.grownBy w' (Value.slice A1 k c1).ownBlock → w'.cell? ⟨(w.heap.size + 1 + 1), 0, none⟩ = some (.slice A1 k c1) ∧ w'.frozen? ⟨(w.heap.size + 1 + 1), 0, none⟩ = false) := fun w' hg => by
        have h := HBxq.out.keep (Keeps.grown hg (P := fun j => j ≤ (w.heap.size + 1 + 1)) (fun j hj e => by have := HRow.out j e; omega)) (Nat.le_refl _)
        exact ⟨h.cells 0, h.free 0⟩
      refine hK.out _ _ (HKq.out _ ⟨rfl, rfl, rfl, Nat.le_refl _, fun _ _ _ => rfl⟩) (fun hS9 => ?_)
      clear hK K hS; have hS := hS9; clear hS9; (try dsimp only at hS)
      (try simp only [Act.put, List.setIfInBounds_toArray, List.set_cons_zero, List.set_cons_succ, List.getElem_toArray, List.getElem_cons_succ, List.getElem_cons_zero])
      refine wpAnyH_ready (rs := [5]) (by kernel_rfl) (by simp) ?_
      refine AllReadyH.cons rfl (fun K hK => ?_) AllReadyH.nil
      (try dsimp only [List.getElem_toArray, List.getElem_cons_succ, List.getElem_cons_zero])
      go_simp
      refine hK.out _ _ (HKq.out _ (grown_alloc _ _)) (fun hS9 => ?_)
      clear hK K hS; have hS := hS9; clear hS9; (try dsimp only at hS)
      (try simp only [Act.put, List.setIfInBounds_toArray, List.set_cons_zero, List.set_cons_succ, List.getElem_toArray, List.getElem_cons_succ, List.getElem_cons_zero])
      refine wpAnyH_ready (rs := [6]) (by kernel_rfl) (by simp) ?_
      refine AllReadyH.cons rfl (fun K hK => ?_) AllReadyH.nil
      (try dsimp only [List.getElem_toArray, List.getElem_cons_succ, List.getElem_cons_zero])
      (rw [if_pos (by rfl)]; refine wp_append_lies _ _ _ _ (by rfl) u0.heap.size 52 i3 _ 3 64 Tryd.underlying30 HY.out HY0.out HY1.out HY2.out rfl (by omega) _ k (ascells ats hs) (by rfl) (HOwnq.out.alloc _) ⟨q3.heap.size, 0, none⟩ 1 1 [.string a.nm, .slice h.1.1 h.1.2.1 h.1.2.2, .slice h.2.1 h.2.2.1 h.2.2.2] (by rfl) (by rfl) (World.news_of_block (cs := #[.string a.nm, .slice h.1.1 h.1.2.1 h.1.2.2, .slice h.2.1 h.2.2.1 h.2.2.2]) (t := 52) (fr := (0, 0)) (heap_alloc_new q3 _)) (by simp [Value.oneCell']) (by omega) (by simp only [maxLen]; omega) (by omega) (by simp only [World.size_alloc, World.size_drew]; omega) (q3.heap.size + 1) (by first | rfl | simp) ?_; intro g7 cap7 u6 hown7 hgrow7 hat7 hlt7)
      have hg7 : q3.grownBy u6 (Value.slice A1 k c1).ownBlock := (grown_alloc _ _).trans hgrow7
      refine hK.out _ _ (HKq.out _ hg7) (fun hS9 => ?_)
      clear hK K hS; have hS := hS9; clear hS9; (try dsimp only at hS)
      (try simp only [Act.put, List.setIfInBounds_toArray, List.set_cons_zero, List.set_cons_succ, List.getElem_toArray, List.getElem_cons_succ, List.getElem_cons_zero])
      refine wpAnyH_take (i := 7) (v := ?v5x) rfl (by kernel_rfl) (by kernel_rfl) (by kernel_rfl) (fun _ _ _ h => h) (Or.inl ⟨by rfl, ?hy5x⟩) hS ?rest5x
      case hy5x => (intro w' hSw; (try dsimp only at hSw); go_simp; (try (with_reducible rfl)))
      (try simp only [Act.put, List.setIfInBounds_toArray, List.set_cons_zero, List.set_cons_succ, List.getElem_toArray, List.getElem_cons_succ, List.getElem_cons_zero])
      refine wpAnyH_done (by kernel_rfl) ?_ _
      refine fun K hK => ?_
      go_simp
      refine hK.out _ _ ?_
      clear hK K
      have HK9 := Lib.hid (app_keeps (b := (w.heap.size + 1 + 1)) (i := 0) (x := .slice (some ⟨g7, 0, none⟩) (k + 1) cap7) hg7)
      have HB9 := Lib.hid (app_below (b := (w.heap.size + 1 + 1)) (i := 0) (B := (w.heap.size + 1 + 1)) (x := .slice (some ⟨g7, 0, none⟩) (k + 1) cap7) hg7 (by omega) (fun j hj => by have := HRow.out j hj; omega) (Nat.le_refl _))
      have hu6 := HBxq.out.keep (Keeps.grown hg7 (P := fun j => j ≤ (w.heap.size + 1 + 1)) (fun j hj e => by have := HRow.out j e; omega)) (Nat.le_refl _)
      have HBx9 := Lib.hid (hu6.set_ 0 (.slice (some ⟨g7, 0, none⟩) (k + 1) cap7))
      have HRr9 := Lib.hid ((HRr.out.keep K3.out (by omega)).keep HK9.out ⟨by omega, fun e => by have := HRow.out _ e; omega⟩)
      have HOwn9 := Lib.hid (own_keep hown7 (Keeps.set (P := fun j => j ≠ (w.heap.size + 1 + 1)) (b := (w.heap.size + 1 + 1)) (i := 0) (u := .slice (some ⟨g7, 0, none⟩) (k + 1) cap7) (by simp)) (fun j hj _ => by omega))
      have HCl9 := Lib.hid (own_keep (own_keep HCl.out K3.out (fun j hj _ => by omega)) HK9.out (fun j hj e => ⟨(HClB.out j e).2.2, fun e2 => by have h1 := HRow.out j e2; have h2 := (HClB.out j e).2.1; omega⟩))
      have hat9 : ∀ j, j < q3.heap.size → (Value.slice A1 k c1).ownBlock ≠ some j → (Value.slice (some ⟨g7, 0, none⟩) (k + 1) cap7).ownBlock ≠ some j := fun j hj hne e => by
        simp only [Value.ownBlock, Option.some.injEq] at e
        subst e
        rcases hat7 with e | e
        · exact hne e
        · omega
      have HRows9 : Hid (RowsF (fun j => u0.heap.size ≤ j ∧ (Value.slice (some ⟨g7, 0, none⟩) (k + 1) cap7).ownBlock ≠ some j) (u6.setCell ⟨(w.heap.size + 1 + 1), 0, none⟩ (.slice (some ⟨g7, 0, none⟩) (k + 1) cap7)) (hs ++ [h]) (ats ++ [a])) := by
        have h1 : RowsF (fun j => u0.heap.size ≤ j ∧ (Value.slice A1 k c1).ownBlock ≠ some j) q3 hs ats := HRows.out.keep (K3.out.mono fun j hj => by omega)
        have h2 : RdAf (fun j => u0.heap.size ≤ j ∧ (Value.slice A1 k c1).ownBlock ≠ some j) q3 a h := HRd.out.mono fun j hj _ => by
          have hj' : wo.heap.size ≤ j := hj
          exact ⟨by omega, fun e => by have := (HOwn.out.lt j e).2; omega⟩
        have h3 := (h1.snoc h2 hsm).mono (Q := fun j => (u0.heap.size ≤ j ∧ (Value.slice A1 k c1).ownBlock ≠ some j) ∧ j < q3.heap.size) fun j e1 e2 => ⟨e1, e2⟩
        exact (h3.keep (HK9.out.mono fun j hj => ⟨by omega, hj.1.2⟩)).mono fun j hj _ => ⟨hj.1.1, hat9 j hj.2 hj.1.2⟩
      have HC9 := Lib.hid (HCq3.out.below2 HB9.out (by omega)); have HO9 := Lib.hid ((HOf.out.trans hO3).below_ HB9.out (by omega))
      have s9 := HB9.out.size
      have HAl9 : Hid ((ats ++ [a]).length = k + 1) := by unfold Hid; rw [List.length_append, HAl.out]; rfl
      have HOwnA : Hid ((u6.setCell ⟨(w.heap.size + 1 + 1), 0, none⟩ (.slice (some ⟨g7, 0, none⟩) (k + 1) cap7)).ownsRow u0.heap.size 52 3 (.slice (some ⟨g7, 0, none⟩) (k + 1) cap7) (k + 1) (ascells (ats ++ [a]) (hs ++ [h]))) := by
        rw [Hid, ascells_snoc ats hs a h HRows.out.len.symm]
        exact HOwn9.out
      clear hown7 hgrow7 hat7 hg7 hu6 hsm hoq hcq hrd hat9
      go_wp2_with fail
      go_roundw
      case rel => exact ⟨k + 1, some ⟨g7, 0, none⟩, cap7, hs ++ [h], ats ++ [a], by omega, by go_num, HBx9.out, HRr9.out, HOwnA.out, HAl9.out, HRows9.out, HCl9.out, by omega, HC9.out, HO9.out⟩
      case measure => simp [intOf]; omega
    · obtain rfl : k = N := by omega
      have hsch : SchO (w.heap.size + 1) wo A1 k c1 C1 m1 d1 hs ats cs1 := ⟨own_base HOwn.out (by omega), HAl.out, HCl.out, fun j h1 h2 => by have := HRow.out j h1; have := (HClB.out j h2).2.1; omega,
        HRows.out.mono fun j hj _ => ⟨by omega, hj.2, fun e => by have := (HClB.out j e).2.1; omega⟩, HCs.out⟩
      have HSch := Lib.hid hsch
      clear hsch
      have p0 : wo.cell? ⟨(w.heap.size + 1 + 1), 0, none⟩ = some (.slice A1 k c1) := HBx.out.cells 0; have pf0 := HBx.out.free 0
      have p1 : wo.cell? ⟨(w.heap.size + 1 + 1), 1, none⟩ = some (.slice C1 m1 d1) := HBx.out.cells 1; have pf1 := HBx.out.free 1
      have HKf := Lib.hid (keeps_step (set1_keeps wo w.heap.size 0 (.slice A1 k c1)) 1 (.slice C1 m1 d1))
      have r0 : wo.cell? ⟨w.heap.size, 0, none⟩ = some (.slice none 0 0) := HRr.out.cells 0
      have r1 : wo.cell? ⟨w.heap.size, 1, none⟩ = some (.slice none 0 0) := HRr.out.cells 1
      have rf0 := HRr.out.free 0; have rf1 := HRr.out.free 1
      have hfin : ∀ w9, w9 = (wo.setCell ⟨w.heap.size, 0, none⟩ (.slice A1 k c1)).setCell ⟨w.heap.size, 1, none⟩ (.slice C1 m1 d1) → SchO w.heap.size w9 A1 k c1 C1 m1 d1 hs ats cs1 ∧ Cur w9 g A n c bs ∧ Only g (g + 1) w w9 := by
        intro w9 h9
        subst h9
        exact ⟨(HSch.out.keep HKf.out.1 (fun j hj _ => by omega)).low (by omega), HCf.out.below2 HKf.out.2 hgw, HOf.out.below_ HKf.out.2 (Nat.le_refl _)⟩
      have HFin := Lib.hid hfin
      clear hfin
      go_wp2_with ((with_reducible refine bodyPost_ret (v := .agg #[.slice A1 k c1, .slice C1 m1 d1]) ?k1 ?k2 ?k3); (case k1 => (simp [results, Tryd.results54, go_sem, r0, r1, rf0, rf1])); (case k2 => rfl); (case k3 => (exact ⟨A1, k, c1, C1, m1, d1, hs, ats, cs1, rfl, ⟨by omega, hm2, by omega⟩, (HFin.out _ rfl).1, (HFin.out _ rfl).2.1, (HFin.out _ rfl).2.2⟩)))

end Go.Proofs.YtchkmcikpamdeaaDoor
