/-
  The draw of an attribute that is right.
-/
import Derived.Test.YtchkmcikpamdeaaDoorCurs
import Derived.Test.YtchkmcikpamdeaaDoorLast
import Derived.Deep.DeepCutAuto
import Derived.Deep.RegionLaw
namespace Go.Proofs.YtchkmcikpamdeaaDoor
open Go.RowKit
set_option linter.unusedSimpArgs false
set_option linter.unusedVariables false

/-- An attribute whose rows a call owns. -/
structure AttrO (lo : Nat) (w : World) (a : AD) (h : AH) : Prop where
  c : w.ownsRow lo 3 1 (.slice h.1.1 h.1.2.1 h.1.2.2) h.1.2.1 (a.cuts.map (Value.int .i64))
  v : w.ownsRow lo 9 1 (.slice h.2.1 h.2.2.1 h.2.2.2) h.2.2.1 (a.vals.map Value.string)
  two : ∀ j, (Value.slice h.1.1 h.1.2.1 h.1.2.2).ownBlock = some j → (Value.slice h.2.1 h.2.2.1 h.2.2.2).ownBlock = some j → False
theorem AttrO.rdaf {lo : Nat} {w : World} {a : AD} {h : AH} (o : AttrO lo w a h) : RdAf (fun j => lo ≤ j) w a h := ⟨Rdf.of_own o.c (fun j hj _ _ => hj), Rdf.of_own o.v (fun j hj _ _ => hj)⟩
theorem AttrO.keep {P : Nat → Prop} {lo : Nat} {w w' : World} {a : AD} {h : AH} (o : AttrO lo w a h) (k : Keeps P w w') (hp : ∀ j, lo ≤ j → j < w.heap.size → P j) : AttrO lo w' a h := by
  have k' : Keeps (fun j => lo ≤ j ∧ j < w.heap.size) w w' := k.mono fun j hj => hp j hj.1 hj.2
  have h1 := o.c.lt; have h2 := o.v.lt
  exact ⟨own_keep o.c k' (fun j hj e => ⟨hj, (h1 j e).2⟩), own_keep o.v k' (fun j hj e => ⟨hj, (h2 j e).2⟩), o.two⟩
theorem AttrO.low {lo lo' : Nat} {w : World} {a : AD} {h : AH} (o : AttrO lo w a h) (hl : lo' ≤ lo) : AttrO lo' w a h := ⟨own_base o.c hl, own_base o.v hl, o.two⟩
/-- What a draw of an attribute may answer. -/
def AttrR (g : Nat) (A : Option Addr) (n c : Nat) (bs : List Int) (w : World) (e : Ending) (w' : World) : Prop :=
  ∃ (a : AD) (h : AH), e = .returned (.agg #[.string a.nm, .slice h.1.1 h.1.2.1 h.1.2.2, .slice h.2.1 h.2.2.1 h.2.2.2]) ∧ SmA a h ∧ (a.cuts.length ≤ 8 ∧ a.vals.length ≤ 8) ∧ AttrO w.heap.size w' a h ∧ Cur w' g A n c bs ∧ Only g (g + 1) w w'
set_option maxRecDepth 20000 in
set_option maxHeartbeats 4000000 in
theorem l5RightAttr_any (g : Nat) (A : Option Addr) (n c : Nat) (bs : List Int) (w : World) (hu : ∀ z ∈ bs, 0 ≤ z ∧ z ≤ 255) (hn : n ≤ 1073741824) (h : Cur w g A n c bs) (I : Nat) (hI : I < 5) :
    Calls Tryd.prog 65 #[.pointer (some ⟨g, 0, none⟩), .int .i64 (I : Nat)] w (AttrR g A n c bs w) := by
  have HC := Lib.hid h
  have HU := Lib.hid hu
  have hgw := h.lt
  obtain ⟨i1, hi0, hz0, hz1, hz2⟩ := info_parts info_int
  have HQ := Lib.hid hi0; have HQ0 := Lib.hid hz0; have HQ1 := Lib.hid hz1; have HQ2 := Lib.hid hz2
  clear hi0 hz0 hz1 hz2
  obtain ⟨i2, hi0, hz0, hz1, hz2⟩ := info_parts info_StringS
  have HJ := Lib.hid hi0; have HJ0 := Lib.hid hz0; have HJ1 := Lib.hid hz1; have HJ2 := Lib.hid hz2
  clear hi0 hz0 hz1 hz2
  clear h hu
  have hrem : (I : Int) % 5 = (I : Int) := by omega
  have hrem2 : (I : Int).tmod 5 = (I : Int) := by rw [Int.tmod_eq_emod_of_nonneg (by omega)]; omega
  obtain ⟨nm, hnm, hnz⟩ : ∃ nm : ByteArray, [Value.string { data := #[97, 103, 101] }, Value.string { data := #[115, 105, 122, 101] }, Value.string { data := #[99, 111, 108, 111, 117, 114] }, Value.string { data := #[107] }, Value.string { data := #[108, 111, 110, 103, 110, 97, 109, 101] }][I]'(by simpa using hI) = Value.string nm ∧ nm.size ≤ 16 := by
    rcases (by omega : I = 0 ∨ I = 1 ∨ I = 2 ∨ I = 3 ∨ I = 4) with rfl | rfl | rfl | rfl | rfl <;> exact ⟨_, rfl, by decide⟩
  have B0 := Below.refl w.heap.size w
  have s0 : w.heap.size ≤ w.heap.size := Nat.le_refl _
  go_enter Tryd.func65, Tryd.ntmps65
  have r_2 : Bx (w.alloc (.cells #[.string { data := #[] }, .slice none 0 0, .slice none 0 0] 52)) (w.heap.size) 52 #[.string { data := #[] }, .slice none 0 0, .slice none 0 0] := Bx.new _ _ _
  have B_2 := B0.alloc s0 (.cells #[.string { data := #[] }, .slice none 0 0, .slice none 0 0] 52)
  clear B0
  have cr_3 := r_2.cells
  have fr_3 := r_2.free
  clear cr_3 fr_3
  have r_4 := r_2.same (same_alloc (.cells #[.string { data := #[97, 103, 101] }, .string { data := #[115, 105, 122, 101] }, .string { data := #[99, 111, 108, 111, 117, 114] }, .string { data := #[107] }, .string { data := #[108, 111, 110, 103, 110, 97, 109, 101] }] 9) (by simp only [World.size_alloc]; omega))
  clear r_2
  have lit_5 : Bx ((w.alloc (.cells #[.string { data := #[] }, .slice none 0 0, .slice none 0 0] 52)).alloc (.cells #[.string { data := #[97, 103, 101] }, .string { data := #[115, 105, 122, 101] }, .string { data := #[99, 111, 108, 111, 117, 114] }, .string { data := #[107] }, .string { data := #[108, 111, 110, 103, 110, 97, 109, 101] }] 9)) (w.heap.size + 1) 9 #[.string { data := #[97, 103, 101] }, .string { data := #[115, 105, 122, 101] }, .string { data := #[99, 111, 108, 111, 117, 114] }, .string { data := #[107] }, .string { data := #[108, 111, 110, 103, 110, 97, 109, 101] }] := by
    have h := Bx.new (w.alloc (.cells #[.string { data := #[] }, .slice none 0 0, .slice none 0 0] 52)) 9 #[.string { data := #[97, 103, 101] }, .string { data := #[115, 105, 122, 101] }, .string { data := #[99, 111, 108, 111, 117, 114] }, .string { data := #[107] }, .string { data := #[108, 111, 110, 103, 110, 97, 109, 101] }]
    simpa only [World.size_alloc] using h
  have B_5 := B_2.alloc (by simp only [World.size_alloc]; omega) (.cells #[.string { data := #[97, 103, 101] }, .string { data := #[115, 105, 122, 101] }, .string { data := #[99, 111, 108, 111, 117, 114] }, .string { data := #[107] }, .string { data := #[108, 111, 110, 103, 110, 97, 109, 101] }] 9)
  clear B_2
  have cr_6 := r_4.cells
  have fr_6 := r_4.free
  have clit_7 := lit_5.cells
  have flit_7 := lit_5.free
  clear cr_6 fr_6
  clear clit_7 flit_7
  have r_8 := r_4.same (same_alloc (.cells #[.string nm, .slice none 0 0, .slice none 0 0] 52) (by simp only [World.size_alloc]; omega))
  clear r_4
  have lit_8 := lit_5.same (same_alloc (.cells #[.string nm, .slice none 0 0, .slice none 0 0] 52) (by simp only [World.size_alloc]; omega))
  clear lit_5
  have a_9 : Bx (((w.alloc (.cells #[.string { data := #[] }, .slice none 0 0, .slice none 0 0] 52)).alloc (.cells #[.string { data := #[97, 103, 101] }, .string { data := #[115, 105, 122, 101] }, .string { data := #[99, 111, 108, 111, 117, 114] }, .string { data := #[107] }, .string { data := #[108, 111, 110, 103, 110, 97, 109, 101] }] 9)).alloc (.cells #[.string nm, .slice none 0 0, .slice none 0 0] 52)) (w.heap.size + 1 + 1) 52 #[.string nm, .slice none 0 0, .slice none 0 0] := by
    have h := Bx.new ((w.alloc (.cells #[.string { data := #[] }, .slice none 0 0, .slice none 0 0] 52)).alloc (.cells #[.string { data := #[97, 103, 101] }, .string { data := #[115, 105, 122, 101] }, .string { data := #[99, 111, 108, 111, 117, 114] }, .string { data := #[107] }, .string { data := #[108, 111, 110, 103, 110, 97, 109, 101] }] 9)) 52 #[.string nm, .slice none 0 0, .slice none 0 0]
    simpa only [World.size_alloc] using h
  have B_9 := B_5.alloc (by simp only [World.size_alloc]; omega) (.cells #[.string nm, .slice none 0 0, .slice none 0 0] 52)
  clear B_5
  have cr_10 := r_8.cells
  have fr_10 := r_8.free
  have clit_11 := lit_8.cells
  have flit_11 := lit_8.free
  have ca_12 := a_9.cells
  have fa_12 := a_9.free
  go_wp2_with fail
  clear cr_10 fr_10
  clear clit_11 flit_11
  clear ca_12 fa_12
  obtain ⟨v13, hv13⟩ : ∃ v13, v13 = (((w.alloc (.cells #[.string { data := #[] }, .slice none 0 0, .slice none 0 0] 52)).alloc (.cells #[.string { data := #[97, 103, 101] }, .string { data := #[115, 105, 122, 101] }, .string { data := #[99, 111, 108, 111, 117, 114] }, .string { data := #[107] }, .string { data := #[108, 111, 110, 103, 110, 97, 109, 101] }] 9)).alloc (.cells #[.string nm, .slice none 0 0, .slice none 0 0] 52)) := ⟨_, rfl⟩
  have zv13 : w.heap.size + 1 + 1 + 1 ≤ v13.heap.size := by rw [hv13]; simp
  rw [← hv13] at r_8 lit_8 a_9 B_9 ⊢
  clear hv13
  have HRr0 := Lib.hid r_8; have HA0 := Lib.hid a_9
  have HCv := Lib.hid (HC.out.below B_9 (Nat.le_refl _))
  have HOv : Hid (Only g (g + 1) w v13) := Only.of_below B_9 (Nat.le_refl _)
  clear r_8 a_9 lit_8 B_9 hnm
  refine (l1Once_any g A n c bs 2 _ HU.out hn HCv.out).mono ?_
  rintro e v1 ⟨t, rfl, hc1, ho1⟩
  have s1 := ho1.size
  have K1 := keeps_cur ho1
  have HC1 := Lib.hid hc1; have HO1 := Lib.hid (HOv.out.trans ho1); have HRr1 := Lib.hid (HRr0.out.keep K1 (by omega)); have HA1 := Lib.hid (HA0.out.keep K1 (by omega))
  clear hc1 ho1 K1 HCv HOv HRr0 HA0
  cases t
  · skip
    go_wp2_with fail
    refine (l1Below_any g A n c bs 3 _ HU.out hn HC1.out).mono ?_
    rintro e v2 ⟨x, rfl, ⟨x0, x1, _⟩, hc1, ho1⟩
    have x2 := x1 (by omega)
    obtain ⟨X, rfl⟩ := Int.eq_ofNat_of_zero_le x0
    obtain ⟨N, hN⟩ : ∃ N : Nat, N = 2 + X := ⟨_, rfl⟩
    have hN3 : N ≤ 4 := by omega
    have hNx : (2 : Int) + (X : Int) = (N : Int) := by omega
    have s2 := ho1.size
    have K2 := keeps_cur ho1
    have HC2 := Lib.hid hc1; have HO2 := Lib.hid (HO1.out.trans ho1); have HRr2 := Lib.hid (HRr1.out.keep K2 (by omega)); have HA2 := Lib.hid (HA1.out.keep K2 (by omega))
    clear hc1 ho1 x1 hN K2 HC1 HO1 HRr1 HA1
    go_wp2_with fail
    clear hNx
    go_loopw [10] (fun s8 wr => ∃ (k : Nat) (A1 : Option Addr) (c1 : Nat) (ys : List ByteArray), k ≤ N ∧ s8 = .int .i64 k ∧ (∀ s ∈ ys, s.size ≤ 16) ∧ Bx wr (w.heap.size + 1 + 1) 52 #[.string nm, .slice none 0 0, .slice A1 k c1] ∧ Bx wr w.heap.size 52 #[.string { data := #[] }, .slice none 0 0, .slice none 0 0] ∧ wr.ownsRow (w.heap.size + 1 + 1 + 1) 9 1 (.slice A1 k c1) k (ys.map Value.string) ∧ Cur wr g A n c bs ∧ Only g (g + 1) w wr) (fun s8 _ => N - (intOf s8).toNat)
    case atStart => exact ⟨0, none, 0, [], Nat.zero_le _, rfl, by simp, HA2.out, HRr2.out, World.ownsRow_nil _ _ _ _, HC2.out, HO2.out⟩
    case round =>
      obtain ⟨k, A1, c1, ys, hk, rfl, hys, hbx, hrr, hown, hc, ho⟩ := hrel
      obtain ⟨wo, rfl⟩ : ∃ wo : World, wo = wr := ⟨_, rfl⟩
      have hsz := ho.size
      have hlb := hbx.lt
      have HBx := Lib.hid hbx; have HRr := Lib.hid hrr; have HOwn := Lib.hid hown; have HCf := Lib.hid hc; have HOf := Lib.hid ho; have HYs := Lib.hid hys
      have hyl : ys.length = k := by have := hown.1; simpa using this
      clear hbx hrr hown hc ho hys HA2 HRr2 HC2 HO2
      by_cases hlt : k < N
      · have HYL := Lib.hid hyl
        clear hyl
        have hk4 : k < 4 := by omega
        have hk4i : (k : Int) < 4 := by omega
        obtain ⟨s, hs, hsz2⟩ : ∃ s : ByteArray, [Value.string { data := #[114, 101, 100] }, Value.string { data := #[98, 108, 117, 101] }, Value.string { data := #[120] }, Value.string { data := #[103, 114, 101, 101, 110] }][k]'(by simpa using hk4) = Value.string s ∧ s.size ≤ 16 := by
          rcases (by omega : k = 0 ∨ k = 1 ∨ k = 2 ∨ k = 3) with rfl | rfl | rfl | rfl <;> exact ⟨_, rfl, by decide⟩
        have p0 : wo.cell? ⟨(w.heap.size + 1 + 1), 0, none⟩ = some (.string nm) := HBx.out.cells 0; have pf0 := HBx.out.free 0
        have p1 : wo.cell? ⟨(w.heap.size + 1 + 1), 1, none⟩ = some (.slice none 0 0) := HBx.out.cells 1; have pf1 := HBx.out.free 1
        have p2 : wo.cell? ⟨(w.heap.size + 1 + 1), 2, none⟩ = some (.slice A1 k c1) := HBx.out.cells 2; have pf2 := HBx.out.free 2
        have hrow : ∀ j, (Value.slice A1 k c1).ownBlock = some j → w.heap.size + 1 + 1 + 1 ≤ j := fun j hj => (HOwn.out.lt j hj).1
        have HRow := Lib.hid hrow
        have HKe : Hid (∀ (w' : World), wo.grownBy w' (Value.slice A1 k c1).ownBlock → w'.cell? ⟨(w.heap.size + 1 + 1), 2, none⟩ = some (.slice A1 k c1) ∧ w'.frozen? ⟨(w.heap.size + 1 + 1), 2, none⟩ = false) := fun w' hg => by
          have h := HBx.out.keep (Keeps.grown hg (P := fun j => j ≤ (w.heap.size + 1 + 1)) (fun j hj e => by have := HRow.out j e; omega)) (Nat.le_refl _)
          exact ⟨h.cells 2, h.free 2⟩
        clear hrow
        go_upto_region 15 with fail
        skip
        refine wp_region_last (n := 9) (S := fun w' => w'.cell? ⟨(w.heap.size + 1 + 1), 2, none⟩ = some (.slice A1 k c1) ∧ w'.frozen? ⟨(w.heap.size + 1 + 1), 2, none⟩ = false) (by kernel_rfl) rfl (by kernel_rfl) (HKe.out _ (grown_drew _)) ?_
        intro hS; (try dsimp only at hS)
        simp only [List.take_succ_cons, List.take_zero, List.getElem_toArray, List.getElem_cons_succ, List.getElem_cons_zero]
        refine wpAnyH_take (i := 0) (v := ?v1x) rfl (by kernel_rfl) (by kernel_rfl) (by kernel_rfl) (fun _ _ _ h => h) (Or.inl ⟨by rfl, ?hy1x⟩) hS ?rest1x
        case hy1x => (intro w' hSw; (try dsimp only at hSw); go_simp; (try (with_reducible rfl)))
        (try simp only [Act.put, List.setIfInBounds_toArray, List.set_cons_zero, List.set_cons_succ, List.getElem_toArray, List.getElem_cons_succ, List.getElem_cons_zero])
        refine wpAnyH_take (i := 1) (v := ?v2x) rfl (by kernel_rfl) (by kernel_rfl) (by kernel_rfl) (fun _ _ _ h => h) (Or.inl ⟨by rfl, ?hy2x⟩) hS ?rest2x
        case hy2x => (intro w' hSw; (try dsimp only at hSw); go_simp; (try (with_reducible rfl)))
        (try simp only [Act.put, List.setIfInBounds_toArray, List.set_cons_zero, List.set_cons_succ, List.getElem_toArray, List.getElem_cons_succ, List.getElem_cons_zero])
        refine wpAnyH_take (i := 3) (v := ?v3x) rfl (by kernel_rfl) (by kernel_rfl) (by kernel_rfl) (fun _ _ _ h => h) (Or.inl ⟨by rfl, ?hy3x⟩) hS ?rest3x
        case hy3x => (intro w' hSw; (try dsimp only at hSw); go_simp; (try (with_reducible rfl)))
        (try simp only [Act.put, List.setIfInBounds_toArray, List.set_cons_zero, List.set_cons_succ, List.getElem_toArray, List.getElem_cons_succ, List.getElem_cons_zero])
        refine wpAnyH_ready (rs := [2]) (by kernel_rfl) (by simp) ?_
        refine AllReadyH.cons rfl (fun K hK => ?_) AllReadyH.nil
        (try dsimp only [List.getElem_toArray, List.getElem_cons_succ, List.getElem_cons_zero])
        go_simp
        refine hK.out _ _ (HKe.out _ ((grown_drew _).trans (grown_alloc _ _))) (fun hS9 => ?_)
        clear hK K hS; have hS := hS9; clear hS9; (try dsimp only at hS)
        (try simp only [Act.put, List.setIfInBounds_toArray, List.set_cons_zero, List.set_cons_succ, List.getElem_toArray, List.getElem_cons_succ, List.getElem_cons_zero])
        refine wpAnyH_take (i := 4) (v := ?v4x) rfl (by kernel_rfl) (by kernel_rfl) (by kernel_rfl) (fun _ _ _ h => h) (Or.inl ⟨by rfl, ?hy4x⟩) hS ?rest4x
        case hy4x => (intro w' hSw; (try dsimp only at hSw); go_simp; (try (with_reducible rfl)))
        (try simp only [Act.put, List.setIfInBounds_toArray, List.set_cons_zero, List.set_cons_succ, List.getElem_toArray, List.getElem_cons_succ, List.getElem_cons_zero])
        refine wpAnyH_ready (rs := [5]) (by kernel_rfl) (by simp) ?_
        refine AllReadyH.cons rfl (fun K hK => ?_) AllReadyH.nil
        (try dsimp only [List.getElem_toArray, List.getElem_cons_succ, List.getElem_cons_zero])
        go_simp
        refine hK.out _ _ (HKe.out _ ((grown_drew _).trans (grown_alloc _ _))) (fun hS9 => ?_)
        clear hK K hS; have hS := hS9; clear hS9; (try dsimp only at hS)
        (try simp only [Act.put, List.setIfInBounds_toArray, List.set_cons_zero, List.set_cons_succ, List.getElem_toArray, List.getElem_cons_succ, List.getElem_cons_zero])
        refine wpAnyH_ready (rs := [6]) (by kernel_rfl) (by simp) ?_
        refine AllReadyH.cons rfl (fun K hK => ?_) AllReadyH.nil
        (try dsimp only [List.getElem_toArray, List.getElem_cons_succ, List.getElem_cons_zero])
        go_simp
        refine hK.out _ _ (HKe.out _ (((grown_drew _).trans (grown_alloc _ _)).trans (grown_alloc _ _))) (fun hS9 => ?_)
        clear hK K hS; have hS := hS9; clear hS9; (try dsimp only at hS)
        (try simp only [Act.put, List.setIfInBounds_toArray, List.set_cons_zero, List.set_cons_succ, List.getElem_toArray, List.getElem_cons_succ, List.getElem_cons_zero])
        refine wpAnyH_ready (rs := [7]) (by kernel_rfl) (by simp) ?_
        refine AllReadyH.cons rfl (fun K hK => ?_) AllReadyH.nil
        (try dsimp only [List.getElem_toArray, List.getElem_cons_succ, List.getElem_cons_zero])
        (rw [if_pos (by rfl)]; refine wp_append_lies _ _ _ _ (by rfl) (w.heap.size + 1 + 1 + 1) 9 i2 _ 1 16 Tryd.underlying23 HJ.out HJ0.out HJ1.out HJ2.out rfl (by omega) _ k (ys.map Value.string) (by rfl) ((HOwn.out.drew.alloc _).alloc _) ⟨wo.heap.size + 1, 0, none⟩ 1 1 [.string s] (by rfl) (by rfl) (World.news_of_block (cs := #[.string s]) (t := 9) (fr := (0, 0)) (by have h7 := heap_alloc_new (wo.drew.alloc (.cells #[.string { data := #[114, 101, 100] }, .string { data := #[98, 108, 117, 101] }, .string { data := #[120] }, .string { data := #[103, 114, 101, 101, 110] }] 9)) (.cells #[.string s] 9); rw [World.size_alloc] at h7; exact h7)) (by simp [Value.oneCell']) (by omega) (by simp only [maxLen]; omega) (by omega) (by simp only [World.size_alloc, World.size_drew]; omega) (wo.heap.size + 1 + 1) (by first | rfl | simp) ?_; intro g7 cap7 u6 hown7 hgrow7 hat7 hlt7)
        have hg7 : wo.grownBy u6 (Value.slice A1 k c1).ownBlock := (((grown_drew _).trans (grown_alloc _ _)).trans (grown_alloc _ _)).trans hgrow7
        refine hK.out _ _ (HKe.out _ hg7) (fun hS9 => ?_)
        clear hK K hS; have hS := hS9; clear hS9; (try dsimp only at hS)
        (try simp only [Act.put, List.setIfInBounds_toArray, List.set_cons_zero, List.set_cons_succ, List.getElem_toArray, List.getElem_cons_succ, List.getElem_cons_zero])
        refine wpAnyH_take (i := 8) (v := ?v5x) rfl (by kernel_rfl) (by kernel_rfl) (by kernel_rfl) (fun _ _ _ h => h) (Or.inl ⟨by rfl, ?hy5x⟩) hS ?rest5x
        case hy5x => (intro w' hSw; (try dsimp only at hSw); go_simp; (try (with_reducible rfl)))
        (try simp only [Act.put, List.setIfInBounds_toArray, List.set_cons_zero, List.set_cons_succ, List.getElem_toArray, List.getElem_cons_succ, List.getElem_cons_zero])
        refine wpAnyH_done (by kernel_rfl) ?_ _
        refine fun K hK => ?_
        go_simp
        refine hK.out _ _ ?_
        clear hK K
        have HK9 := Lib.hid (app_keeps (b := (w.heap.size + 1 + 1)) (i := 2) (x := .slice (some ⟨g7, 0, none⟩) (k + 1) cap7) hg7)
        have HB9 := Lib.hid (app_below (b := (w.heap.size + 1 + 1)) (i := 2) (B := (w.heap.size + 1 + 1)) (x := .slice (some ⟨g7, 0, none⟩) (k + 1) cap7) hg7 (by omega) (fun j hj => by have := HRow.out j hj; omega) (Nat.le_refl _))
        have hu6 := HBx.out.keep (Keeps.grown hg7 (P := fun j => j ≤ (w.heap.size + 1 + 1)) (fun j hj e => by have := HRow.out j e; omega)) (Nat.le_refl _)
        have HBx9 := Lib.hid (hu6.set_ 2 (.slice (some ⟨g7, 0, none⟩) (k + 1) cap7))
        have HRr9 := Lib.hid (HRr.out.keep HK9.out ⟨by omega, fun e => by have := HRow.out _ e; omega⟩)
        have HOwn9 := Lib.hid (own_keep hown7 (Keeps.set (P := fun j => j ≠ (w.heap.size + 1 + 1)) (b := (w.heap.size + 1 + 1)) (i := 2) (u := .slice (some ⟨g7, 0, none⟩) (k + 1) cap7) (by simp)) (fun j hj _ => by omega))
        have HC9 := Lib.hid (HCf.out.below2 HB9.out (by omega)); have HO9 := Lib.hid (HOf.out.below_ HB9.out (by omega))
        have HYs9 : Hid (∀ z ∈ ys ++ [s], z.size ≤ 16) := fun z hz => by
          rcases List.mem_append.1 hz with h | h
          · exact HYs.out z h
          · obtain rfl : z = s := by simpa using h
            exact hsz2
        clear hown7 hgrow7 hat7 hg7 hu6 hs
        go_wp2_with fail
        go_roundw
        case rel => exact ⟨k + 1, some ⟨g7, 0, none⟩, cap7, ys ++ [s], by omega, by go_num, HYs9.out, HBx9.out, HRr9.out, by rw [List.map_append]; exact HOwn9.out, HC9.out, HO9.out⟩
        case measure => simp [intOf]; omega
      · obtain rfl : k = N := by omega
        have HRdf : Hid (AttrO (w.heap.size + 1 + 1 + 1) wo ⟨nm, [], ys⟩ ((none, 0, 0), (A1, k, c1))) := ⟨World.ownsRow_nil _ _ _ _, HOwn.out, fun j h _ => by cases h⟩
        have hcap : k ≤ c1 := own_capN HOwn.out
        have HMid : Hid ((⟨nm, [], ys⟩ : AD).cuts.length ≤ 8 ∧ (⟨nm, [], ys⟩ : AD).vals.length ≤ 8) := ⟨Nat.zero_le _, by show ys.length ≤ 8; omega⟩
        have hsm : SmA ⟨nm, [], ys⟩ ((none, 0, 0), (A1, k, c1)) := ⟨hnz, by simp, by show ys.length ≤ 16; omega, HYs.out, hcap⟩
        have p0 : wo.cell? ⟨(w.heap.size + 1 + 1), 0, none⟩ = some (.string nm) := HBx.out.cells 0; have pf0 := HBx.out.free 0
        have p1 : wo.cell? ⟨(w.heap.size + 1 + 1), 1, none⟩ = some (.slice none 0 0) := HBx.out.cells 1; have pf1 := HBx.out.free 1
        have p2 : wo.cell? ⟨(w.heap.size + 1 + 1), 2, none⟩ = some (.slice A1 k c1) := HBx.out.cells 2; have pf2 := HBx.out.free 2
        have HKf := Lib.hid (keeps_step (keeps_step (set1_keeps wo w.heap.size 0 (.string nm)) 1 (.slice none 0 0)) 2 (.slice A1 k c1))
        have r0 : wo.cell? ⟨w.heap.size, 0, none⟩ = some (.string { data := #[] }) := HRr.out.cells 0
        have r1 : wo.cell? ⟨w.heap.size, 1, none⟩ = some (.slice none 0 0) := HRr.out.cells 1
        have r2 : wo.cell? ⟨w.heap.size, 2, none⟩ = some (.slice none 0 0) := HRr.out.cells 2
        have rf0 := HRr.out.free 0; have rf1 := HRr.out.free 1; have rf2 := HRr.out.free 2
        have hfin : ∀ w9, w9 = ((wo.setCell ⟨w.heap.size, 0, none⟩ (.string nm)).setCell ⟨w.heap.size, 1, none⟩ (.slice none 0 0)).setCell ⟨w.heap.size, 2, none⟩ (.slice A1 k c1) → AttrO w.heap.size w9 ⟨nm, [], ys⟩ ((none, 0, 0), (A1, k, c1)) ∧ Cur w9 g A n c bs ∧ Only g (g + 1) w w9 := by
          intro w9 h9
          subst h9
          refine ⟨(HRdf.out.keep HKf.out.1 (fun j hj _ => by omega)).low (by omega), HCf.out.below2 HKf.out.2 hgw, HOf.out.below_ HKf.out.2 (Nat.le_refl _)⟩
        have HFin := Lib.hid hfin
        have HSm := Lib.hid hsm
        clear hfin
        go_wp2_with ((with_reducible refine bodyPost_ret (v := .agg #[.string nm, .slice none 0 0, .slice A1 k c1]) ?k1 ?k2 ?k3); (case k1 => (simp [results, Tryd.results65, go_sem, r0, r1, r2, rf0, rf1, rf2])); (case k2 => rfl); (case k3 => (exact ⟨⟨nm, [], ys⟩, ((none, 0, 0), (A1, k, c1)), rfl, HSm.out, HMid.out, (HFin.out _ rfl).1, (HFin.out _ rfl).2.1, (HFin.out _ rfl).2.2⟩)))
  · skip
    go_wp2_with fail
    refine (l1Below_any g A n c bs 3 _ HU.out hn HC1.out).mono ?_
    rintro e v2 ⟨x, rfl, ⟨x0, x1, _⟩, hc1, ho1⟩
    have x2 := x1 (by omega)
    obtain ⟨X, rfl⟩ := Int.eq_ofNat_of_zero_le x0
    obtain ⟨N, hN⟩ : ∃ N : Nat, N = 1 + X := ⟨_, rfl⟩
    have hN3 : N ≤ 3 := by omega
    have hNx : (1 : Int) + (X : Int) = (N : Int) := by omega
    have s2 := ho1.size
    have K2 := keeps_cur ho1
    have HC2 := Lib.hid hc1; have HO2 := Lib.hid (HO1.out.trans ho1); have HRr2 := Lib.hid (HRr1.out.keep K2 (by omega)); have HA2 := Lib.hid (HA1.out.keep K2 (by omega))
    clear hc1 ho1 x1 hN K2 HC1 HO1 HRr1 HA1
    go_wp2_with fail
    clear hNx
    refine (pickLit g A n c 5 bs [-9999, -7, 0, 3, 20] _ _ _ rfl rfl (by omega) (by omega) HU.out hn HC2.out).mono ?_
    rintro e v3 ⟨y, rfl, hy, hc1, ho1⟩
    have hyb : -9999 ≤ y ∧ y ≤ 20 := by simp at hy; omega
    have s3 := ho1.size
    have K2 := keeps_cur ho1
    have HC3 := Lib.hid hc1; have HO3 := Lib.hid (HO2.out.trans ho1); have HRr3 := Lib.hid (HRr2.out.keep K2 (by omega)); have HA3 := Lib.hid (HA2.out.keep K2 (by omega))
    clear hc1 ho1 hy K2 HC2 HO2 HRr2 HA2
    go_wp2_with fail
    go_loopw [7, 8] (fun s7 s8 wr => ∃ (k : Nat) (A1 : Option Addr) (c1 : Nat) (ys : List Int) (y : Int), k ≤ N ∧ s8 = .int .i64 k ∧ s7 = .int .i64 y ∧ (-9999 ≤ y ∧ y ≤ 20 + 10 * k) ∧ Bx wr (w.heap.size + 1 + 1) 52 #[.string nm, .slice A1 k c1, .slice none 0 0] ∧ Bx wr w.heap.size 52 #[.string { data := #[] }, .slice none 0 0, .slice none 0 0] ∧ wr.ownsRow (w.heap.size + 1 + 1 + 1) 3 1 (.slice A1 k c1) k (ys.map (Value.int .i64)) ∧ Cur wr g A n c bs ∧ Only g (g + 1) w wr) (fun _ s8 _ => N - (intOf s8).toNat)
    case atStart => exact ⟨0, none, 0, [], y, Nat.zero_le _, rfl, rfl, by omega, HA3.out, HRr3.out, World.ownsRow_nil _ _ _ _, HC3.out, HO3.out⟩
    case round =>
      obtain ⟨k, A1, c1, ys, y, hk, rfl, rfl, hyb2, hbx, hrr, hown, hc, ho⟩ := hrel
      obtain ⟨wo, rfl⟩ : ∃ wo : World, wo = wr := ⟨_, rfl⟩
      have hsz := ho.size
      have hlb := hbx.lt
      have HBx := Lib.hid hbx; have HRr := Lib.hid hrr; have HOwn := Lib.hid hown; have HCf := Lib.hid hc; have HOf := Lib.hid ho
      have hyl : ys.length = k := by have := hown.1; simpa using this
      clear hbx hrr hown hc ho HA3 HRr3 HC3 HO3
      by_cases hlt : k < N
      · have HYL := Lib.hid hyl
        clear hyl
        have p0 : wo.cell? ⟨(w.heap.size + 1 + 1), 0, none⟩ = some (.string nm) := HBx.out.cells 0; have pf0 := HBx.out.free 0
        have p1 : wo.cell? ⟨(w.heap.size + 1 + 1), 1, none⟩ = some (.slice A1 k c1) := HBx.out.cells 1; have pf1 := HBx.out.free 1
        have p2 : wo.cell? ⟨(w.heap.size + 1 + 1), 2, none⟩ = some (.slice none 0 0) := HBx.out.cells 2; have pf2 := HBx.out.free 2
        go_wp2_with (at_builtin; refine wpList_append_lies _ rfl _ _ 40 rfl (w.heap.size + 1 + 1 + 1) 3 i1 (.int .i64 0) 1 8 Tryd.underlying40 HQ.out HQ0.out HQ1.out HQ2.out rfl (by decide) (.slice A1 k c1) k (ys.map (Value.int .i64)) rfl (HOwn.out.alloc _) ⟨wo.heap.size, 0, none⟩ 1 1 [.int .i64 y] rfl rfl (cell_one_new _ _ _) ?c2 (by omega) ?c3 ?c4 ?c5 _ rfl ?_)
        case c2 => first | rfl | (intro u hu; simp at hu; subst hu; rfl)
        case c3 => first | (unfold maxLen; omega) | omega
        case c4 => omega
        case c5 => first | (simp only [World.size_alloc]; omega) | omega
        intro g7 cap7 u6 hown7 hgrow7 hat7 hlt7
        have hg7 : wo.grownBy u6 (Value.slice A1 k c1).ownBlock := (grown_alloc _ _).trans hgrow7
        have hrow : ∀ j, (Value.slice A1 k c1).ownBlock = some j → w.heap.size + 1 + 1 + 1 ≤ j := fun j hj => (HOwn.out.lt j hj).1
        have HK9 := Lib.hid (app_keeps (b := (w.heap.size + 1 + 1)) (i := 1) (x := .slice (some ⟨g7, 0, none⟩) (k + 1) cap7) hg7)
        have HB9 := Lib.hid (app_below (b := (w.heap.size + 1 + 1)) (i := 1) (B := (w.heap.size + 1 + 1)) (x := .slice (some ⟨g7, 0, none⟩) (k + 1) cap7) hg7 (by omega) (fun j hj => by have := hrow j hj; omega) (Nat.le_refl _))
        have hu6 := HBx.out.keep (Keeps.grown hg7 (P := fun j => j ≤ (w.heap.size + 1 + 1)) (fun j hj e => by have := hrow j e; omega)) (Nat.le_refl _)
        have hc6 : u6.cell? ⟨(w.heap.size + 1 + 1), 1, none⟩ = some (.slice A1 k c1) := hu6.cells 1
        have hf6 : u6.frozen? ⟨(w.heap.size + 1 + 1), 1, none⟩ = false := hu6.free 1
        have HBx9 := Lib.hid (hu6.set_ 1 (.slice (some ⟨g7, 0, none⟩) (k + 1) cap7))
        have HRr9 := Lib.hid (HRr.out.keep HK9.out ⟨by omega, fun e => by have := hrow _ e; omega⟩)
        have HOwn9 := Lib.hid (own_keep hown7 (Keeps.set (P := fun j => j ≠ (w.heap.size + 1 + 1)) (b := (w.heap.size + 1 + 1)) (i := 1) (u := .slice (some ⟨g7, 0, none⟩) (k + 1) cap7) (by simp)) (fun j hj _ => by omega))
        have HC9 := Lib.hid (HCf.out.below2 HB9.out (by omega)); have HO9 := Lib.hid (HOf.out.below_ HB9.out (by omega))
        have s9 := HB9.out.size
        clear hown7 hgrow7 hat7 hg7 hrow hu6
        go_wp2_with fail
        refine (l1Below_any g A n c bs 6 _ HU.out hn HC9.out).mono ?_
        rintro e v5 ⟨x, rfl, ⟨x0, x1, _⟩, hc1, ho1⟩
        have x2 := x1 (by omega)
        have K2 := keeps_cur ho1
        have s5 := ho1.size
        have HCx := Lib.hid hc1; have HOx := Lib.hid (HO9.out.trans ho1); have HRrx := Lib.hid (HRr9.out.keep K2 (by omega)); have HBxx := Lib.hid (HBx9.out.keep K2 (by omega))
        have HOwnx := Lib.hid (own_keep HOwn9.out K2 (fun j hj _ => by omega))
        clear hc1 ho1 x1 K2 HC9 HO9 HRr9 HBx9 HOwn9
        go_wp2_with fail
        go_roundw
        case rel => exact ⟨k + 1, some ⟨g7, 0, none⟩, cap7, ys ++ [y], y + 1 + x, by omega, by go_num, rfl, by omega, HBxx.out, HRrx.out, by rw [List.map_append]; exact HOwnx.out, HCx.out, HOx.out⟩
        case measure => simp [intOf]; omega
      · obtain rfl : k = N := by omega
        have HRdf : Hid (AttrO (w.heap.size + 1 + 1 + 1) wo ⟨nm, ys, []⟩ ((A1, k, c1), (none, 0, 0))) := ⟨HOwn.out, World.ownsRow_nil _ _ _ _, fun j _ h => by cases h⟩
        have HMid : Hid ((⟨nm, ys, []⟩ : AD).cuts.length ≤ 8 ∧ (⟨nm, ys, []⟩ : AD).vals.length ≤ 8) := ⟨by show ys.length ≤ 8; omega, Nat.zero_le _⟩
        have hsm : SmA ⟨nm, ys, []⟩ ((A1, k, c1), (none, 0, 0)) := ⟨hnz, by show ys.length ≤ 16; omega, by simp, by simp, Nat.le_refl _⟩
        have p0 : wo.cell? ⟨(w.heap.size + 1 + 1), 0, none⟩ = some (.string nm) := HBx.out.cells 0; have pf0 := HBx.out.free 0
        have p1 : wo.cell? ⟨(w.heap.size + 1 + 1), 1, none⟩ = some (.slice A1 k c1) := HBx.out.cells 1; have pf1 := HBx.out.free 1
        have p2 : wo.cell? ⟨(w.heap.size + 1 + 1), 2, none⟩ = some (.slice none 0 0) := HBx.out.cells 2; have pf2 := HBx.out.free 2
        have HKf := Lib.hid (keeps_step (keeps_step (set1_keeps wo w.heap.size 0 (.string nm)) 1 (.slice A1 k c1)) 2 (.slice none 0 0))
        have r0 : wo.cell? ⟨w.heap.size, 0, none⟩ = some (.string { data := #[] }) := HRr.out.cells 0
        have r1 : wo.cell? ⟨w.heap.size, 1, none⟩ = some (.slice none 0 0) := HRr.out.cells 1
        have r2 : wo.cell? ⟨w.heap.size, 2, none⟩ = some (.slice none 0 0) := HRr.out.cells 2
        have rf0 := HRr.out.free 0; have rf1 := HRr.out.free 1; have rf2 := HRr.out.free 2
        have hfin : ∀ w9, w9 = ((wo.setCell ⟨w.heap.size, 0, none⟩ (.string nm)).setCell ⟨w.heap.size, 1, none⟩ (.slice A1 k c1)).setCell ⟨w.heap.size, 2, none⟩ (.slice none 0 0) → AttrO w.heap.size w9 ⟨nm, ys, []⟩ ((A1, k, c1), (none, 0, 0)) ∧ Cur w9 g A n c bs ∧ Only g (g + 1) w w9 := by
          intro w9 h9
          subst h9
          refine ⟨(HRdf.out.keep HKf.out.1 (fun j hj _ => by omega)).low (by omega), HCf.out.below2 HKf.out.2 hgw, HOf.out.below_ HKf.out.2 (Nat.le_refl _)⟩
        have HFin := Lib.hid hfin
        have HSm := Lib.hid hsm
        clear hfin
        go_wp2_with ((with_reducible refine bodyPost_ret (v := .agg #[.string nm, .slice A1 k c1, .slice none 0 0]) ?k1 ?k2 ?k3); (case k1 => (simp [results, Tryd.results65, go_sem, r0, r1, r2, rf0, rf1, rf2])); (case k2 => rfl); (case k3 => (exact ⟨⟨nm, ys, []⟩, ((A1, k, c1), (none, 0, 0)), rfl, HSm.out, HMid.out, (HFin.out _ rfl).1, (HFin.out _ rfl).2.1, (HFin.out _ rfl).2.2⟩)))

end Go.Proofs.YtchkmcikpamdeaaDoor
