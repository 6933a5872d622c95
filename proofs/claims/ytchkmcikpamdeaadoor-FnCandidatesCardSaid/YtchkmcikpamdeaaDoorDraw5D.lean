/-
  The draw of whatever schema.
-/
import Derived.Test.YtchkmcikpamdeaaDoorDraw5C
import Derived.Deep.CutBlock
namespace Go.Proofs.YtchkmcikpamdeaaDoor
open Go.RowKit
set_option linter.unusedSimpArgs false
set_option linter.unusedVariables false

theorem Rdf.take_ {P : Nat → Prop} {w : World} {A : Option Addr} {n k : Nat} {xs : List Value} (h : Rdf P w A n xs) (hk : k ≤ n) : Rdf P w A k (xs.take k) :=
  ⟨⟨by rw [List.length_take, h.rd.len]; omega, fun hp => by
    obtain ⟨b, off, e, hlt, hc⟩ := h.rd.ex (by omega)
    exact ⟨b, off, e, hlt, fun j u hu => hc j u (by
      rw [List.getElem?_take] at hu
      split at hu
      · exact hu
      · cases hu)⟩⟩, fun hp => h.far (by omega)⟩
/-- What a draw of whatever schema may answer. -/
def SchD (g : Nat) (A : Option Addr) (n c : Nat) (bs : List Int) (w : World) (e : Ending) (w' : World) : Prop :=
  ∃ (A' : Option Addr) (n' c' : Nat) (C' : Option Addr) (m' d' : Nat) (hs : List AH) (ats : List AD) (cs : List ByteArray), e = .returned (.agg #[.slice A' n' c', .slice C' m' d']) ∧ SchF (fun j => w.heap.size ≤ j) w' A' C' n' m' d' hs ats cs ∧ Cur w' g A n c bs ∧ Only g (g + 1) w w'
set_option maxRecDepth 20000 in
set_option maxHeartbeats 8000000 in
theorem l5Draw_any (g : Nat) (A : Option Addr) (n c : Nat) (bs : List Int) (w : World) (hu : ∀ z ∈ bs, 0 ≤ z ∧ z ≤ 255) (hn : n ≤ 1073741824) (h : Cur w g A n c bs) :
    Calls Tryd.prog 43 #[.pointer (some ⟨g, 0, none⟩)] w (SchD g A n c bs w) := by
  have HC := Lib.hid h
  have HU := Lib.hid hu
  have hgw := h.lt
  obtain ⟨i2, hi0, hz0, hz1, hz2⟩ := info_parts info_StringS
  have HJ := Lib.hid hi0; have HJ0 := Lib.hid hz0; have HJ1 := Lib.hid hz1; have HJ2 := Lib.hid hz2
  clear hi0 hz0 hz1 hz2
  obtain ⟨i3, hi0, hz0, hz1, hz2⟩ := info_parts info_Attr
  have HY := Lib.hid hi0; have HY0 := Lib.hid hz0; have HY1 := Lib.hid hz1; have HY2 := Lib.hid hz2
  clear hi0 hz0 hz1 hz2
  clear h hu
  have B0 := Below.refl w.heap.size w
  have s0 : w.heap.size ≤ w.heap.size := Nat.le_refl _
  go_enter Tryd.func43, Tryd.ntmps43
  have r_2 : Bx (w.alloc (.cells #[.slice none 0 0, .slice none 0 0] 32)) (w.heap.size) 32 #[.slice none 0 0, .slice none 0 0] := Bx.new _ _ _
  have B_2 := B0.alloc s0 (.cells #[.slice none 0 0, .slice none 0 0] 32)
  clear B0
  have cr_3 := r_2.cells
  have fr_3 := r_2.free
  clear cr_3 fr_3
  have HC0 := Lib.hid (HC.out.below B_2 (Nat.le_refl _)); have HO0 : Hid (Only g (g + 1) w _) := Only.of_below B_2 (Nat.le_refl _); have HR0 := Lib.hid r_2
  clear r_2 B_2
  go_wp2_with fail
  refine (l5Right_any g A n c bs _ HU.out hn HC0.out).mono ?_
  rintro e v2 ⟨A1, n1, c1, C1, m1, d1, hs, ats, cs, rfl, ⟨hn5, hm2, hm5⟩, hso, hc1, ho1⟩
  have s2 := ho1.size
  simp only [World.size_alloc] at s2 hso
  obtain ⟨BO, hBO⟩ : ∃ BO, BO = v2.heap.size := ⟨_, rfl⟩
  obtain ⟨v, hv⟩ : ∃ v, v = v2.alloc (.cells #[.slice A1 n1 c1, .slice C1 m1 d1] 32) := ⟨_, rfl⟩
  have HBv : Hid (Bx v BO 32 #[.slice A1 n1 c1, .slice C1 m1 d1]) := by rw [hv, hBO]; exact Bx.new _ _ _
  have hKv : Keeps (fun j => True) v2 v := by rw [hv]; exact Keeps.alloc _
  have hzv : v.heap.size = BO + 1 := by rw [hv, World.size_alloc, hBO]
  have HAB : Hid (∀ j, (Value.slice A1 n1 c1).ownBlock = some j → j < BO) := fun j hj => by have := (hso.hd.lt j hj).2; omega
  have HCB : Hid (∀ j, (Value.slice C1 m1 d1).ownBlock = some j → j < BO) := fun j hj => by have := (hso.cl.lt j hj).2; omega
  have HRv0 : Hid (RowsF (fun j => (w.heap.size + 1 ≤ j ∧ (Value.slice A1 n1 c1).ownBlock ≠ some j ∧ (Value.slice C1 m1 d1).ownBlock ≠ some j) ∧ j < BO) v hs ats) := (hso.rows.mono (fun j h1 h2 => ⟨h1, by omega⟩)).keep (hKv.mono (fun _ _ => trivial))
  have HSv := Lib.hid (hso.keep hKv (fun _ _ _ => trivial))
  have HCv : Hid (Cur v g A n c bs) := by rw [hv]; exact hc1.below (below_alloc1 _) (Nat.le_refl _)
  have HOv : Hid (Only g (g + 1) w v) := by rw [hv]; exact (HO0.out.trans ho1).below_ (below_alloc1 _) (by omega)
  have HRv := Lib.hid ((HR0.out.keep (keeps_cur ho1) (by omega)).keep hKv trivial)
  have hBOl : w.heap.size < BO := by omega
  have hgB : g < BO := by omega
  have HBV := Lib.hid hv
  clear hc1 ho1 hso hKv hv HO0 HC0 HR0
  go_wp2_with fail
  rw [← HBV.out, ← hBO]
  clear HBV
  refine (l1Below_any g A n c bs 12 _ HU.out hn HCv.out).mono ?_
  rintro e u ⟨x, rfl, ⟨x0, _, _⟩, hc1, ho1⟩
  have su := ho1.size
  have hBu : BO < u.heap.size := by omega
  have K2 := keeps_cur ho1
  have HSo := Lib.hid (HSv.out.keep K2 (fun j hj _ => by omega))
  have HBu := Lib.hid (HBv.out.keep K2 (by omega)); have HRr := Lib.hid (HRv.out.keep K2 (by omega)); have HCu := Lib.hid hc1; have HOu := Lib.hid (HOv.out.trans ho1)
  have hrows := HRv0.out.keep (K2.mono (fun j hj => by omega))
  have HRB := Lib.hid (hrows.mono (Q := fun j => (w.heap.size + 1 ≤ j ∧ (Value.slice A1 n1 c1).ownBlock ≠ some j) ∧ j < BO) (fun j hj _ => ⟨⟨hj.1.1, hj.1.2.1⟩, hj.2⟩))
  have HRC := Lib.hid (hrows.mono (Q := fun j => (w.heap.size + 1 ≤ j ∧ (Value.slice C1 m1 d1).ownBlock ≠ some j) ∧ j < BO) (fun j hj _ => ⟨⟨hj.1.1, hj.1.2.2⟩, hj.2⟩))
  have HSF : Hid (SchF (fun j => w.heap.size + 1 ≤ j ∧ j ≠ BO) u A1 C1 n1 m1 d1 hs ats cs) := ⟨Rdf.of_ownN HSo.out.hd (fun j hj _ e => ⟨hj, by have := HAB.out j e; omega⟩), HSo.out.len, hrows.mono (fun j hj _ => ⟨hj.1.1, by omega⟩), Rdf.of_own HSo.out.cl (fun j hj _ e => ⟨hj, by have := HCB.out j e; omega⟩), by omega, by omega, own_capN HSo.out.cl, HSo.out.strs⟩
  clear hc1 ho1 K2 hrows HCv HOv HBv HRv HSv HRv0 hzv hBO
  go_upto_block 0 with fail
  go_cut [] (fun wx => ∃ (A2 : Option Addr) (n2 c2 : Nat) (C2 : Option Addr) (m2 d2 : Nat) (hs2 : List AH) (ats2 : List AD) (cs2 : List ByteArray), Bx wx BO 32 #[.slice A2 n2 c2, .slice C2 m2 d2] ∧ SchF (fun j => w.heap.size + 1 ≤ j ∧ j ≠ BO) wx A2 C2 n2 m2 d2 hs2 ats2 cs2 ∧ Bx wx w.heap.size 32 #[.slice none 0 0, .slice none 0 0] ∧ Cur wx g A n c bs ∧ Only g (g + 1) w wx)
  case first =>
    by_cases hsw0 : x = 0
    · subst hsw0
      have p0 : u.cell? ⟨BO, 0, none⟩ = some (.slice A1 n1 c1) := HBu.out.cells 0; have pf0 := HBu.out.free 0
      have p1 : u.cell? ⟨BO, 1, none⟩ = some (.slice C1 m1 d1) := HBu.out.cells 1; have pf1 := HBu.out.free 1
      have HCd := Lib.hid (HCu.out.below2 (below_drew u.heap.size u) (by omega))
      have hRow : ∀ j, (Value.slice A1 n1 c1).ownBlock = some j → w.heap.size + 1 ≤ j ∧ j < BO := fun j hj => ⟨(HSo.out.hd.lt j hj).1, HAB.out j hj⟩
      have HRow := Lib.hid hRow
      clear hRow
      have HKe : Hid (∀ w' : World, u.grownBy w' (Value.slice A1 n1 c1).ownBlock → w'.cell? ⟨BO, 0, none⟩ = some (.slice A1 n1 c1) ∧ w'.frozen? ⟨BO, 0, none⟩ = false) := fun w' hg => by
        have h := HBu.out.keep (Keeps.grown hg (P := fun j => j = BO) (fun j hj e => by have := HRow.out j e; omega)) rfl
        exact ⟨h.cells 0, h.free 0⟩
      go_upto_region 4 with fail
      skip
      refine wp_region_last (n := 7) (S := fun w' => w'.cell? ⟨BO, 0, none⟩ = some (.slice A1 n1 c1) ∧ w'.frozen? ⟨BO, 0, none⟩ = false) (by kernel_rfl) rfl (by kernel_rfl) (HKe.out _ (grown_drew _)) ?_
      intro hS; (try dsimp only at hS)
      simp only [List.take_succ_cons, List.take_zero, List.getElem_toArray, List.getElem_cons_succ, List.getElem_cons_zero]
      refine wpAnyH_take (i := 0) (v := ?v9x) rfl (by kernel_rfl) (by kernel_rfl) (by kernel_rfl) (fun _ _ _ h => h) (Or.inl ⟨by rfl, ?hy9x⟩) hS ?rest9x
      case hy9x => (intro w' hSw; (try dsimp only at hSw); go_simp; (try (with_reducible rfl)))
      (try simp only [Act.put, List.setIfInBounds_toArray, List.set_cons_zero, List.set_cons_succ, List.getElem_toArray, List.getElem_cons_succ, List.getElem_cons_zero])
      refine wpAnyH_take (i := 1) (v := ?v10x) rfl (by kernel_rfl) (by kernel_rfl) (by kernel_rfl) (fun _ _ _ h => h) (Or.inl ⟨by rfl, ?hy10x⟩) hS ?rest10x
      case hy10x => (intro w' hSw; (try dsimp only at hSw); go_simp; (try (with_reducible rfl)))
      (try simp only [Act.put, List.setIfInBounds_toArray, List.set_cons_zero, List.set_cons_succ, List.getElem_toArray, List.getElem_cons_succ, List.getElem_cons_zero])
      refine wpAnyH_take (i := 2) (v := ?v11x) rfl (by kernel_rfl) (by kernel_rfl) (by kernel_rfl) (fun _ _ _ h => h) (Or.inl ⟨by rfl, ?hy11x⟩) hS ?rest11x
      case hy11x => (intro w' hSw; (try dsimp only at hSw); go_simp; (try (with_reducible rfl)))
      (try simp only [Act.put, List.setIfInBounds_toArray, List.set_cons_zero, List.set_cons_succ, List.getElem_toArray, List.getElem_cons_succ, List.getElem_cons_zero])
      refine wpAnyH_ready (rs := [3]) (by kernel_rfl) (by simp) ?_
      refine AllReadyH.cons rfl (fun K hK => ?_) AllReadyH.nil
      (try dsimp only [List.getElem_toArray, List.getElem_cons_succ, List.getElem_cons_zero])
      (go_simp; (refine (l5DrawAttr_any g A n c bs _ HU.out hn HCd.out).mono ?_); rintro e q3 ⟨a, h, rfl, hsm, hrd, hcq, hoq⟩; dsimp only)
      have hO3 : Only g (g + 1) u q3 := (Only.of_below (below_drew u.heap.size u) (Nat.le_refl _)).trans hoq
      have hz3 := hO3.size
      have HCq3 := Lib.hid hcq
      have K3 := Lib.hid (keeps_cur hO3)
      have HBq := Lib.hid (HBu.out.keep K3.out (by omega))
      have HSq := Lib.hid (HSo.out.keep K3.out (fun j hj _ => by omega))
      have HKq : Hid (∀ w' : World, q3.grownBy w' (Value.slice A1 n1 c1).ownBlock → w'.cell? ⟨BO, 0, none⟩ = some (.slice A1 n1 c1) ∧ w'.frozen? ⟨BO, 0, none⟩ = false) := fun w' hg => by
        have h := HBq.out.keep (Keeps.grown hg (P := fun j => j = BO) (fun j hj e => by have := HRow.out j e; omega)) rfl
        exact ⟨h.cells 0, h.free 0⟩
      have HRd := Lib.hid hrd
      refine hK.out _ _ (HKq.out _ ⟨rfl, rfl, rfl, Nat.le_refl _, fun _ _ _ => rfl⟩) (fun hS9 => ?_)
      clear hK K hS; have hS := hS9; clear hS9; (try dsimp only at hS)
      (try simp only [Act.put, List.setIfInBounds_toArray, List.set_cons_zero, List.set_cons_succ, List.getElem_toArray, List.getElem_cons_succ, List.getElem_cons_zero])
      refine wpAnyH_ready (rs := [4]) (by kernel_rfl) (by simp) ?_
      refine AllReadyH.cons rfl (fun K hK => ?_) AllReadyH.nil
      (try dsimp only [List.getElem_toArray, List.getElem_cons_succ, List.getElem_cons_zero])
      go_simp
      refine hK.out _ _ (HKq.out _ (grown_alloc _ _)) (fun hS9 => ?_)
      clear hK K hS; have hS := hS9; clear hS9; (try dsimp only at hS)
      (try simp only [Act.put, List.setIfInBounds_toArray, List.set_cons_zero, List.set_cons_succ, List.getElem_toArray, List.getElem_cons_succ, List.getElem_cons_zero])
      refine wpAnyH_ready (rs := [5]) (by kernel_rfl) (by simp) ?_
      refine AllReadyH.cons rfl (fun K hK => ?_) AllReadyH.nil
      (try dsimp only [List.getElem_toArray, List.getElem_cons_succ, List.getElem_cons_zero])
      (rw [if_pos (by rfl)]; refine wp_append_lies _ _ _ _ (by rfl) (w.heap.size + 1) 52 i3 _ 3 64 Tryd.underlying30 HY.out HY0.out HY1.out HY2.out rfl (by omega) _ (n1) (ascells ats hs) (by rfl) (HSq.out.hd.alloc _) ⟨q3.heap.size, 0, none⟩ 1 1 [.string a.nm, .slice h.1.1 h.1.2.1 h.1.2.2, .slice h.2.1 h.2.2.1 h.2.2.2] (by rfl) (by rfl) (World.news_of_block (cs := #[.string a.nm, .slice h.1.1 h.1.2.1 h.1.2.2, .slice h.2.1 h.2.2.1 h.2.2.2]) (t := 52) (fr := (0, 0)) (heap_alloc_new q3 _)) (by simp [Value.oneCell']) (by omega) (by simp only [maxLen]; omega) (by omega) (by simp only [World.size_alloc, World.size_drew]; omega) (q3.heap.size + 1) (by first | rfl | simp) ?_; intro g7 cap7 u6 hown7 hgrow7 hat7 hlt7)
      have hg7 : q3.grownBy u6 (Value.slice A1 n1 c1).ownBlock := (grown_alloc _ _).trans hgrow7
      refine hK.out _ _ (HKq.out _ hg7) (fun hS9 => ?_)
      clear hK K hS; have hS := hS9; clear hS9; (try dsimp only at hS)
      (try simp only [Act.put, List.setIfInBounds_toArray, List.set_cons_zero, List.set_cons_succ, List.getElem_toArray, List.getElem_cons_succ, List.getElem_cons_zero])
      refine wpAnyH_take (i := 6) (v := ?v12x) rfl (by kernel_rfl) (by kernel_rfl) (by kernel_rfl) (fun _ _ _ h => h) (Or.inl ⟨by rfl, ?hy12x⟩) hS ?rest12x
      case hy12x => (intro w' hSw; (try dsimp only at hSw); go_simp; (try (with_reducible rfl)))
      (try simp only [Act.put, List.setIfInBounds_toArray, List.set_cons_zero, List.set_cons_succ, List.getElem_toArray, List.getElem_cons_succ, List.getElem_cons_zero])
      refine wpAnyH_done (by kernel_rfl) ?_ _
      refine fun K hK => ?_
      go_simp
      refine hK.out _ _ ?_
      clear hK K
      have HK9 := Lib.hid (app_keeps (b := BO) (i := 0) (x := .slice (some ⟨g7, 0, none⟩) (n1 + 1) cap7) hg7)
      have HB9 := Lib.hid (app_below (b := BO) (i := 0) (B := w.heap.size) (x := .slice (some ⟨g7, 0, none⟩) (n1 + 1) cap7) hg7 (by omega) (fun j hj => Nat.le_trans (Nat.le_succ _) (HRow.out j hj).1) (by omega))
      have hu6 := HBq.out.keep (Keeps.grown hg7 (P := fun j => j = BO) (fun j hj e => by have := HRow.out j e; omega)) rfl
      have HB2 := Lib.hid (hu6.set_ 0 (.slice (some ⟨g7, 0, none⟩) (n1 + 1) cap7))
      have HRr9 := Lib.hid ((HRr.out.keep K3.out (by omega)).keep HK9.out ⟨by omega, fun e => by have := HRow.out _ e; omega⟩)
      have h9 : ∀ j, (Value.slice (some ⟨g7, 0, none⟩) (n1 + 1) cap7).ownBlock = some j → j ≠ BO := fun j h3 e => by
        simp only [Value.ownBlock, Option.some.injEq] at h3
        rcases hat7 with e2 | e2
        · have := HRow.out _ e2; omega
        · omega
      have HOwn9 := Lib.hid (own_keep hown7 (Keeps.set (P := fun j => j ≠ BO) (b := BO) (i := 0) (u := .slice (some ⟨g7, 0, none⟩) (n1 + 1) cap7) (by simp)) (fun j hj e => h9 j e))
      have HC9 := Lib.hid (HCq3.out.below2 HB9.out hgw); have HO9 := Lib.hid ((HOu.out.trans hO3).below_ HB9.out (Nat.le_refl _))
      have HOwnA : Hid ((u6.setCell ⟨BO, 0, none⟩ (.slice (some ⟨g7, 0, none⟩) (n1 + 1) cap7)).ownsRow (w.heap.size + 1) 52 3 (.slice (some ⟨g7, 0, none⟩) (n1 + 1) cap7) (n1 + 1) (ascells (ats ++ [a]) (hs ++ [h]))) := by
        rw [Hid, ascells_snoc ats hs a h HSo.out.rows.len.symm]
        exact HOwn9.out
      have HSF9 : Hid (SchF (fun j => w.heap.size + 1 ≤ j ∧ j ≠ BO) (u6.setCell ⟨BO, 0, none⟩ (.slice (some ⟨g7, 0, none⟩) (n1 + 1) cap7)) (some ⟨g7, 0, none⟩) C1 (n1 + 1) m1 d1 (hs ++ [h]) (ats ++ [a]) cs) := by
        refine ⟨Rdf.of_ownN HOwnA.out (fun j hj _ e => ⟨hj, h9 j e⟩), by rw [List.length_append, HSo.out.len]; rfl, ?_, Rdf.of_own (own_keep HSq.out.cl HK9.out (fun j hj e => ⟨by have := HCB.out j e; omega, fun e2 => HSo.out.two j e2 e⟩)) (fun j hj _ e => ⟨hj, by have := HCB.out j e; omega⟩), by omega, by omega, own_capN HSo.out.cl, HSo.out.strs⟩
        have h1 : RowsF (fun j => (w.heap.size + 1 ≤ j ∧ (Value.slice A1 n1 c1).ownBlock ≠ some j) ∧ j < BO) q3 hs ats := HRB.out.keep (K3.out.mono fun j hj => by omega)
        have h2 := (h1.keep (HK9.out.mono fun j hj => ⟨by omega, hj.1.2⟩)).mono (Q := fun j => w.heap.size + 1 ≤ j ∧ j ≠ BO) (fun j hj _ => ⟨hj.1.1, by omega⟩)
        have h3 := (HRd.out.keep (HK9.out.mono (Q := fun j => u.heap.size ≤ j) fun j hj => ⟨by omega, fun e => by have := HRow.out j e; omega⟩)).mono (Q := fun j => w.heap.size + 1 ≤ j ∧ j ≠ BO) (fun j hj _ => by have hj' : u.heap.size ≤ j := hj; exact ⟨by omega, by omega⟩)
        exact h2.snoc h3 hsm
      clear hown7 hgrow7 hat7 hg7 hu6 hcq hoq h9 hsm hrd
      go_wp2_with fail
      go_meet
      exact ⟨some ⟨g7, 0, none⟩, n1 + 1, cap7, C1, m1, d1, hs ++ [h], ats ++ [a], cs, HB2.out, HSF9.out, HRr9.out, HC9.out, HO9.out⟩
    · have esw0 : (x == 0) = false := beq_false_of_ne hsw0
      have dsw0 : decide (x = 0) = false := decide_eq_false hsw0
      by_cases hsw1 : x = 1
      · subst hsw1
        have p0 : u.cell? ⟨BO, 0, none⟩ = some (.slice A1 n1 c1) := HBu.out.cells 0; have pf0 := HBu.out.free 0
        have p1 : u.cell? ⟨BO, 1, none⟩ = some (.slice C1 m1 d1) := HBu.out.cells 1; have pf1 := HBu.out.free 1
        have HCd := Lib.hid (HCu.out.below2 (below_drew u.heap.size u) (by omega))
        have hRow : ∀ j, (Value.slice C1 m1 d1).ownBlock = some j → w.heap.size + 1 ≤ j ∧ j < BO := fun j hj => ⟨(HSo.out.cl.lt j hj).1, HCB.out j hj⟩
        have HRow := Lib.hid hRow
        clear hRow
        have HKe : Hid (∀ w' : World, u.grownBy w' (Value.slice C1 m1 d1).ownBlock → w'.cell? ⟨BO, 1, none⟩ = some (.slice C1 m1 d1) ∧ w'.frozen? ⟨BO, 1, none⟩ = false) := fun w' hg => by
          have h := HBu.out.keep (Keeps.grown hg (P := fun j => j = BO) (fun j hj e => by have := HRow.out j e; omega)) rfl
          exact ⟨h.cells 1, h.free 1⟩
        go_upto_region 6 with fail
        skip
        refine wp_region_last (n := 8) (S := fun w' => w'.cell? ⟨BO, 1, none⟩ = some (.slice C1 m1 d1) ∧ w'.frozen? ⟨BO, 1, none⟩ = false) (by kernel_rfl) rfl (by kernel_rfl) (HKe.out _ (grown_drew _)) ?_
        intro hS; (try dsimp only at hS)
        simp only [List.take_succ_cons, List.take_zero, List.getElem_toArray, List.getElem_cons_succ, List.getElem_cons_zero]
        refine wpAnyH_take (i := 0) (v := ?v13x) rfl (by kernel_rfl) (by kernel_rfl) (by kernel_rfl) (fun _ _ _ h => h) (Or.inl ⟨by rfl, ?hy13x⟩) hS ?rest13x
        case hy13x => (intro w' hSw; (try dsimp only at hSw); go_simp; (try (with_reducible rfl)))
        (try simp only [Act.put, List.setIfInBounds_toArray, List.set_cons_zero, List.set_cons_succ, List.getElem_toArray, List.getElem_cons_succ, List.getElem_cons_zero])
        refine wpAnyH_take (i := 1) (v := ?v14x) rfl (by kernel_rfl) (by kernel_rfl) (by kernel_rfl) (fun _ _ _ h => h) (Or.inl ⟨by rfl, ?hy14x⟩) hS ?rest14x
        case hy14x => (intro w' hSw; (try dsimp only at hSw); go_simp; (try (with_reducible rfl)))
        (try simp only [Act.put, List.setIfInBounds_toArray, List.set_cons_zero, List.set_cons_succ, List.getElem_toArray, List.getElem_cons_succ, List.getElem_cons_zero])
        refine wpAnyH_take (i := 2) (v := ?v15x) rfl (by kernel_rfl) (by kernel_rfl) (by kernel_rfl) (fun _ _ _ h => h) (Or.inl ⟨by rfl, ?hy15x⟩) hS ?rest15x
        case hy15x => (intro w' hSw; (try dsimp only at hSw); go_simp; (try (with_reducible rfl)))
        (try simp only [Act.put, List.setIfInBounds_toArray, List.set_cons_zero, List.set_cons_succ, List.getElem_toArray, List.getElem_cons_succ, List.getElem_cons_zero])
        refine wpAnyH_ready (rs := [3]) (by kernel_rfl) (by simp) ?_
        refine AllReadyH.cons rfl (fun K hK => ?_) AllReadyH.nil
        (try dsimp only [List.getElem_toArray, List.getElem_cons_succ, List.getElem_cons_zero])
        go_simp
        refine hK.out _ _ (HKe.out _ ((grown_drew _).trans (grown_alloc _ _))) (fun hS9 => ?_)
        clear hK K hS; have hS := hS9; clear hS9; (try dsimp only at hS)
        (try simp only [Act.put, List.setIfInBounds_toArray, List.set_cons_zero, List.set_cons_succ, List.getElem_toArray, List.getElem_cons_succ, List.getElem_cons_zero])
        refine wpAnyH_ready (rs := [4]) (by kernel_rfl) (by simp) ?_
        refine AllReadyH.cons rfl (fun K hK => ?_) AllReadyH.nil
        (try dsimp only [List.getElem_toArray, List.getElem_cons_succ, List.getElem_cons_zero])
        (go_simp; (refine (pickLitS g A n c 3 bs [{ data := #[110, 111] }, { data := #[111, 116, 104, 101, 114] }, { data := #[] }] u.drew #[.string { data := #[110, 111] }, .string { data := #[111, 116, 104, 101, 114] }, .string { data := #[] }] 9 rfl rfl (by omega) (by omega) HU.out hn HCd.out).mono ?_); rintro e q3 ⟨y, rfl, hy, hcq, hoq⟩; dsimp only)
        have hO3 : Only g (g + 1) u q3 := (Only.of_below (below_drew u.heap.size u) (Nat.le_refl _)).trans hoq
        have hz3 := hO3.size
        have HCq3 := Lib.hid hcq
        have K3 := Lib.hid (keeps_cur hO3)
        have HBq := Lib.hid (HBu.out.keep K3.out (by omega))
        have HSq := Lib.hid (HSo.out.keep K3.out (fun j hj _ => by omega))
        have HKq : Hid (∀ w' : World, q3.grownBy w' (Value.slice C1 m1 d1).ownBlock → w'.cell? ⟨BO, 1, none⟩ = some (.slice C1 m1 d1) ∧ w'.frozen? ⟨BO, 1, none⟩ = false) := fun w' hg => by
          have h := HBq.out.keep (Keeps.grown hg (P := fun j => j = BO) (fun j hj e => by have := HRow.out j e; omega)) rfl
          exact ⟨h.cells 1, h.free 1⟩
        refine hK.out _ _ (HKq.out _ ⟨rfl, rfl, rfl, Nat.le_refl _, fun _ _ _ => rfl⟩) (fun hS9 => ?_)
        clear hK K hS; have hS := hS9; clear hS9; (try dsimp only at hS)
        (try simp only [Act.put, List.setIfInBounds_toArray, List.set_cons_zero, List.set_cons_succ, List.getElem_toArray, List.getElem_cons_succ, List.getElem_cons_zero])
        refine wpAnyH_ready (rs := [5]) (by kernel_rfl) (by simp) ?_
        refine AllReadyH.cons rfl (fun K hK => ?_) AllReadyH.nil
        (try dsimp only [List.getElem_toArray, List.getElem_cons_succ, List.getElem_cons_zero])
        go_simp
        refine hK.out _ _ (HKq.out _ (grown_alloc _ _)) (fun hS9 => ?_)
        clear hK K hS; have hS := hS9; clear hS9; (try dsimp only at hS)
        (try simp only [Act.put, List.setIfInBounds_toArray, List.set_cons_zero, List.set_cons_succ, List.getElem_toArray, List.getElem_cons_succ, List.getElem_cons_zero])
        refine wpAnyH_ready (rs := [6]) (by kernel_rfl) (by simp) ?_
        refine AllReadyH.cons rfl (fun K hK => ?_) AllReadyH.nil
        (try dsimp only [List.getElem_toArray, List.getElem_cons_succ, List.getElem_cons_zero])
        (rw [if_pos (by rfl)]; refine wp_append_lies _ _ _ _ (by rfl) (w.heap.size + 1) 9 i2 _ 1 16 Tryd.underlying23 HJ.out HJ0.out HJ1.out HJ2.out rfl (by omega) _ (m1) (cs.map Value.string) (by rfl) (HSq.out.cl.alloc _) ⟨q3.heap.size, 0, none⟩ 1 1 [.string y] (by rfl) (by rfl) (World.news_of_block (cs := #[.string y]) (t := 9) (fr := (0, 0)) (heap_alloc_new q3 _)) (by simp [Value.oneCell']) (by omega) (by simp only [maxLen]; omega) (by omega) (by simp only [World.size_alloc, World.size_drew]; omega) (q3.heap.size + 1) (by first | rfl | simp) ?_; intro g7 cap7 u6 hown7 hgrow7 hat7 hlt7)
        have hg7 : q3.grownBy u6 (Value.slice C1 m1 d1).ownBlock := (grown_alloc _ _).trans hgrow7
        refine hK.out _ _ (HKq.out _ hg7) (fun hS9 => ?_)
        clear hK K hS; have hS := hS9; clear hS9; (try dsimp only at hS)
        (try simp only [Act.put, List.setIfInBounds_toArray, List.set_cons_zero, List.set_cons_succ, List.getElem_toArray, List.getElem_cons_succ, List.getElem_cons_zero])
        refine wpAnyH_take (i := 7) (v := ?v16x) rfl (by kernel_rfl) (by kernel_rfl) (by kernel_rfl) (fun _ _ _ h => h) (Or.inl ⟨by rfl, ?hy16x⟩) hS ?rest16x
        case hy16x => (intro w' hSw; (try dsimp only at hSw); go_simp; (try (with_reducible rfl)))
        (try simp only [Act.put, List.setIfInBounds_toArray, List.set_cons_zero, List.set_cons_succ, List.getElem_toArray, List.getElem_cons_succ, List.getElem_cons_zero])
        refine wpAnyH_done (by kernel_rfl) ?_ _
        refine fun K hK => ?_
        go_simp
        refine hK.out _ _ ?_
        clear hK K
        have HYb := Lib.hid (show y.size ≤ 16 by simp only [List.mem_cons, List.not_mem_nil, or_false] at hy; rcases hy with rfl | rfl | rfl <;> decide)
        have HK9 := Lib.hid (app_keeps (b := BO) (i := 1) (x := .slice (some ⟨g7, 0, none⟩) (m1 + 1) cap7) hg7)
        have HB9 := Lib.hid (app_below (b := BO) (i := 1) (B := w.heap.size) (x := .slice (some ⟨g7, 0, none⟩) (m1 + 1) cap7) hg7 (by omega) (fun j hj => Nat.le_trans (Nat.le_succ _) (HRow.out j hj).1) (by omega))
        have hu6 := HBq.out.keep (Keeps.grown hg7 (P := fun j => j = BO) (fun j hj e => by have := HRow.out j e; omega)) rfl
        have HB2 := Lib.hid (hu6.set_ 1 (.slice (some ⟨g7, 0, none⟩) (m1 + 1) cap7))
        have HRr9 := Lib.hid ((HRr.out.keep K3.out (by omega)).keep HK9.out ⟨by omega, fun e => by have := HRow.out _ e; omega⟩)
        have h9 : ∀ j, (Value.slice (some ⟨g7, 0, none⟩) (m1 + 1) cap7).ownBlock = some j → j ≠ BO := fun j h3 e => by
          simp only [Value.ownBlock, Option.some.injEq] at h3
          rcases hat7 with e2 | e2
          · have := HRow.out _ e2; omega
          · omega
        have HOwn9 := Lib.hid (own_keep hown7 (Keeps.set (P := fun j => j ≠ BO) (b := BO) (i := 1) (u := .slice (some ⟨g7, 0, none⟩) (m1 + 1) cap7) (by simp)) (fun j hj e => h9 j e))
        have HC9 := Lib.hid (HCq3.out.below2 HB9.out hgw); have HO9 := Lib.hid ((HOu.out.trans hO3).below_ HB9.out (Nat.le_refl _))
        have HSF9 : Hid (SchF (fun j => w.heap.size + 1 ≤ j ∧ j ≠ BO) (u6.setCell ⟨BO, 1, none⟩ (.slice (some ⟨g7, 0, none⟩) (m1 + 1) cap7)) A1 (some ⟨g7, 0, none⟩) n1 (m1 + 1) cap7 hs ats (cs ++ [y])) := by
          refine ⟨Rdf.of_ownN (own_keep HSq.out.hd HK9.out (fun j hj e => ⟨by have := HAB.out j e; omega, fun e2 => HSo.out.two j e e2⟩)) (fun j hj _ e => ⟨hj, by have := HAB.out j e; omega⟩), HSo.out.len, ?_, Rdf.of_own (by rw [List.map_append]; exact HOwn9.out) (fun j hj _ e => ⟨hj, h9 j e⟩), by omega, by omega, own_capN HOwn9.out, fun s hs => by
            rcases List.mem_append.1 hs with e | e
            · exact HSo.out.strs s e
            · obtain rfl : s = y := by simpa using e
              exact HYb.out⟩
          have h1 : RowsF (fun j => (w.heap.size + 1 ≤ j ∧ (Value.slice C1 m1 d1).ownBlock ≠ some j) ∧ j < BO) q3 hs ats := HRC.out.keep (K3.out.mono fun j hj => by omega)
          exact (h1.keep (HK9.out.mono fun j hj => ⟨by omega, hj.1.2⟩)).mono (Q := fun j => w.heap.size + 1 ≤ j ∧ j ≠ BO) (fun j hj _ => ⟨hj.1.1, by omega⟩)
        clear hown7 hgrow7 hat7 hg7 hu6 hcq hoq h9 hy
        go_wp2_with fail
        go_meet
        exact ⟨A1, n1, c1, some ⟨g7, 0, none⟩, m1 + 1, cap7, hs, ats, cs ++ [y], HB2.out, HSF9.out, HRr9.out, HC9.out, HO9.out⟩
      · have esw1 : (x == 1) = false := beq_false_of_ne hsw1
        have dsw1 : decide (x = 1) = false := decide_eq_false hsw1
        by_cases hsw2 : x = 2
        · subst hsw2
          have p0 : u.cell? ⟨BO, 0, none⟩ = some (.slice A1 n1 c1) := HBu.out.cells 0; have pf0 := HBu.out.free 0
          have p1 : u.cell? ⟨BO, 1, none⟩ = some (.slice C1 m1 d1) := HBu.out.cells 1; have pf1 := HBu.out.free 1
          have HB_ := Lib.hid ((HBu.out.set_ 0 (.slice (some ⟨u.heap.size, 0, none⟩) 0 0)).keep (Keeps.alloc (P := fun j => True) (.cells #[] 52)) trivial)
          have HK_ : Hid (Keeps (fun j => j ≠ BO) u ((u.setCell ⟨BO, 0, none⟩ (.slice (some ⟨u.heap.size, 0, none⟩) 0 0)).alloc (.cells #[] 52)) ∧ Below w.heap.size u ((u.setCell ⟨BO, 0, none⟩ (.slice (some ⟨u.heap.size, 0, none⟩) 0 0)).alloc (.cells #[] 52))) := ⟨(Keeps.set (by simp)).trans (Keeps.alloc _), ((Below.refl w.heap.size u).setCell (p := ⟨BO, 0, none⟩) (show w.heap.size ≤ BO by omega) _).alloc (by simp only [World.size_setCell]; omega) _⟩
          have HSF9 : Hid (SchF (fun j => w.heap.size + 1 ≤ j ∧ j ≠ BO) ((u.setCell ⟨BO, 0, none⟩ (.slice (some ⟨u.heap.size, 0, none⟩) 0 0)).alloc (.cells #[] 52)) (some ⟨u.heap.size, 0, none⟩) C1 0 m1 d1 [] [] cs) := ⟨Rdf.nil_ _, rfl, RowsF.nil _ _, (HSF.out.keep (HK_.out.1.mono (fun j hj => hj.2))).cl, by omega, by omega, HSF.out.md, HSF.out.strs⟩
          have HRr9 := Lib.hid (HRr.out.keep HK_.out.1 (by omega))
          have HC9 := Lib.hid (HCu.out.below2 HK_.out.2 hgw); have HO9 := Lib.hid (HOu.out.below_ HK_.out.2 (Nat.le_refl _))
          go_wp2_with fail
          go_meet
          exact ⟨some ⟨u.heap.size, 0, none⟩, 0, 0, C1, m1, d1, [], [], cs, HB_.out, HSF9.out, HRr9.out, HC9.out, HO9.out⟩
        · have esw2 : (x == 2) = false := beq_false_of_ne hsw2
          have dsw2 : decide (x = 2) = false := decide_eq_false hsw2
          by_cases hsw3 : x = 3
          · subst hsw3
            have p0 : u.cell? ⟨BO, 0, none⟩ = some (.slice A1 n1 c1) := HBu.out.cells 0; have pf0 := HBu.out.free 0
            have p1 : u.cell? ⟨BO, 1, none⟩ = some (.slice C1 m1 d1) := HBu.out.cells 1; have pf1 := HBu.out.free 1
            have hd1 : 1 ≤ d1 := by have := HSF.out.md; omega
            have hd1i : (1 : Int) ≤ (d1 : Int) := by omega
            have HB_ := Lib.hid (HBu.out.set_ 1 (.slice C1 1 d1))
            have HK_ := Lib.hid (set1_keeps u BO 1 (.slice C1 1 d1))
            have HSF9 : Hid (SchF (fun j => w.heap.size + 1 ≤ j ∧ j ≠ BO) (u.setCell ⟨BO, 1, none⟩ (.slice C1 1 d1)) A1 C1 n1 1 d1 hs ats (cs.take 1)) := by
              have h := HSF.out.keep (HK_.out.1.mono (fun j hj => hj.2))
              exact ⟨h.hd, h.len, h.rows, by rw [List.map_take]; exact h.cl.take_ (by omega), h.hn, by omega, by omega, fun s hs => h.strs s (List.mem_of_mem_take hs)⟩
            have HRr9 := Lib.hid (HRr.out.keep HK_.out.1 (by omega))
            have HC9 := Lib.hid (HCu.out.below2 (HK_.out.2.mono (show w.heap.size ≤ BO by omega)) hgw); have HO9 := Lib.hid (HOu.out.below_ (HK_.out.2.mono (show w.heap.size ≤ BO by omega)) (Nat.le_refl _))
            go_wp2_with fail
            go_meet
            exact ⟨A1, n1, c1, C1, 1, d1, hs, ats, cs.take 1, HB_.out, HSF9.out, HRr9.out, HC9.out, HO9.out⟩
          · have esw3 : (x == 3) = false := beq_false_of_ne hsw3
            have dsw3 : decide (x = 3) = false := decide_eq_false hsw3
            have p0 : u.cell? ⟨BO, 0, none⟩ = some (.slice A1 n1 c1) := HBu.out.cells 0; have pf0 := HBu.out.free 0
            have p1 : u.cell? ⟨BO, 1, none⟩ = some (.slice C1 m1 d1) := HBu.out.cells 1; have pf1 := HBu.out.free 1
            go_wp2_with fail
            go_meet
            exact ⟨A1, n1, c1, C1, m1, d1, hs, ats, cs, HBu.out, HSF.out, HRr.out, HCu.out, HOu.out⟩
  obtain ⟨A9, n9, c9, C9, m9, d9, hs9, ats9, cs9, hbx, hsf, hrr, hc, ho⟩ := hcut
  obtain ⟨u9, rfl⟩ : ∃ u9 : World, u9 = wc := ⟨_, rfl⟩
  have hlu := hbx.lt
  have HBx := Lib.hid hbx; have HSF9 := Lib.hid hsf; have HRr := Lib.hid hrr; have HCf := Lib.hid hc; have HOf := Lib.hid ho
  clear hbx hsf hrr hc ho
  have p0 : u9.cell? ⟨BO, 0, none⟩ = some (.slice A9 n9 c9) := HBx.out.cells 0; have pf0 := HBx.out.free 0
  have p1 : u9.cell? ⟨BO, 1, none⟩ = some (.slice C9 m9 d9) := HBx.out.cells 1; have pf1 := HBx.out.free 1
  have HKf := Lib.hid (keeps_step (set1_keeps u9 w.heap.size 0 (.slice A9 n9 c9)) 1 (.slice C9 m9 d9))
  have r0 : u9.cell? ⟨w.heap.size, 0, none⟩ = some (.slice none 0 0) := HRr.out.cells 0
  have r1 : u9.cell? ⟨w.heap.size, 1, none⟩ = some (.slice none 0 0) := HRr.out.cells 1
  have rf0 := HRr.out.free 0; have rf1 := HRr.out.free 1
  have hfin : ∀ w9, w9 = (u9.setCell ⟨w.heap.size, 0, none⟩ (.slice A9 n9 c9)).setCell ⟨w.heap.size, 1, none⟩ (.slice C9 m9 d9) → SchF (fun j => w.heap.size ≤ j) w9 A9 C9 n9 m9 d9 hs9 ats9 cs9 ∧ Cur w9 g A n c bs ∧ Only g (g + 1) w w9 := by
    intro w9 h9
    subst h9
    exact ⟨((HSF9.out.keep (HKf.out.1.mono (fun j hj => by have := hj.1; omega))).mono (fun j hj _ => by have := hj.1; omega)), HCf.out.below2 HKf.out.2 hgw, HOf.out.below_ HKf.out.2 (Nat.le_refl _)⟩
  have HFin := Lib.hid hfin
  clear hfin
  go_wp2_with ((with_reducible refine bodyPost_ret (v := .agg #[.slice A9 n9 c9, .slice C9 m9 d9]) ?k1 ?k2 ?k3); (case k1 => (simp [results, Tryd.results43, go_sem, r0, r1, rf0, rf1])); (case k2 => rfl); (case k3 => (exact ⟨A9, n9, c9, C9, m9, d9, hs9, ats9, cs9, rfl, (HFin.out _ rfl).1, (HFin.out _ rfl).2.1, (HFin.out _ rfl).2.2⟩)))

end Go.Proofs.YtchkmcikpamdeaaDoor
