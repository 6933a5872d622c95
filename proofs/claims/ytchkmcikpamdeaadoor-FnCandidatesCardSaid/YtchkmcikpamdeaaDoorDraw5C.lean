/-
  The draw of whatever attribute.
-/
import Derived.Test.YtchkmcikpamdeaaDoorDraw5B
import Derived.Deep.CutBlock
namespace Go.Proofs.YtchkmcikpamdeaaDoor
open Go.RowKit
set_option linter.unusedSimpArgs false
set_option linter.unusedVariables false

/-- What a draw of whatever attribute may answer. -/
def AttrD (g : Nat) (A : Option Addr) (n c : Nat) (bs : List Int) (w : World) (e : Ending) (w' : World) : Prop :=
  ∃ (a : AD) (h : AH), e = .returned (.agg #[.string a.nm, .slice h.1.1 h.1.2.1 h.1.2.2, .slice h.2.1 h.2.2.1 h.2.2.2]) ∧ SmA a h ∧ RdAf (fun k => w.heap.size ≤ k) w' a h ∧ Cur w' g A n c bs ∧ Only g (g + 1) w w'
set_option maxRecDepth 20000 in
set_option maxHeartbeats 8000000 in
theorem l5DrawAttr_any (g : Nat) (A : Option Addr) (n c : Nat) (bs : List Int) (w : World) (hu : ∀ z ∈ bs, 0 ≤ z ∧ z ≤ 255) (hn : n ≤ 1073741824) (h : Cur w g A n c bs) :
    Calls Tryd.prog 55 #[.pointer (some ⟨g, 0, none⟩)] w (AttrD g A n c bs w) := by
  have HC := Lib.hid h
  have HU := Lib.hid hu
  have hgw := h.lt
  obtain ⟨i1, hi0, hz0, hz1, hz2⟩ := info_parts info_int
  have HQ := Lib.hid hi0; have HQ0 := Lib.hid hz0; have HQ1 := Lib.hid hz1; have HQ2 := Lib.hid hz2
  clear hi0 hz0 hz1 hz2
  obtain ⟨i2, hi0, hz0, hz1, hz2⟩ := info_parts info_StringS
  have HJ := Lib.hid hi0; have HJ0 := Lib.hid hz0; have HJ1 := Lib.hid hz1; have HJ2 := Lib.hid hz2
  clear hi0 hz0 hz1 hz2
  clear h hu
  have B0 := Below.refl w.heap.size w
  have s0 : w.heap.size ≤ w.heap.size := Nat.le_refl _
  go_enter Tryd.func55, Tryd.ntmps55
  have r_2 : Bx (w.alloc (.cells #[.string { data := #[] }, .slice none 0 0, .slice none 0 0] 52)) (w.heap.size) 52 #[.string { data := #[] }, .slice none 0 0, .slice none 0 0] := Bx.new _ _ _
  have B_2 := B0.alloc s0 (.cells #[.string { data := #[] }, .slice none 0 0, .slice none 0 0] 52)
  clear B0
  have cr_3 := r_2.cells
  have fr_3 := r_2.free
  clear cr_3 fr_3
  have HC0 := Lib.hid (HC.out.below B_2 (Nat.le_refl _)); have HO0 : Hid (Only g (g + 1) w _) := Only.of_below B_2 (Nat.le_refl _); have HR0 := Lib.hid r_2
  clear r_2 B_2
  go_wp2_with fail
  refine (l1Below_any g A n c bs 5 _ HU.out hn HC0.out).mono ?_
  rintro e v1 ⟨x, rfl, ⟨x0, x1, _⟩, hc1, ho1⟩
  have x2 := x1 (by omega)
  obtain ⟨X, rfl⟩ := Int.eq_ofNat_of_zero_le x0
  have hX5 : X < 5 := by omega
  have s1 := ho1.size
  simp only [World.size_alloc] at s1
  have HC1 := Lib.hid hc1; have HO1 := Lib.hid (HO0.out.trans ho1); have HR1 := Lib.hid (HR0.out.keep (keeps_cur ho1) (by omega))
  clear hc1 ho1 x1 x2 HC0 HO0 HR0
  go_wp2_with fail
  refine (l5RightAttr_any g A n c bs _ HU.out hn HC1.out X hX5).mono ?_
  rintro e v2 ⟨a, h, rfl, hsm, hln, hao, hc1, ho1⟩
  have s2 := ho1.size
  have HSm := Lib.hid hsm; have HLen := Lib.hid hln
  obtain ⟨BO, hBO⟩ : ∃ BO, BO = v2.heap.size := ⟨_, rfl⟩
  obtain ⟨v, hv⟩ : ∃ v, v = v2.alloc (.cells #[.string a.nm, .slice h.1.1 h.1.2.1 h.1.2.2, .slice h.2.1 h.2.2.1 h.2.2.2] 52) := ⟨_, rfl⟩
  have HBv : Hid (Bx v BO 52 #[.string a.nm, .slice h.1.1 h.1.2.1 h.1.2.2, .slice h.2.1 h.2.2.1 h.2.2.2]) := by rw [hv, hBO]; exact Bx.new _ _ _
  have hKv : Keeps (fun j => True) v2 v := by rw [hv]; exact Keeps.alloc _
  have hzv : v.heap.size = BO + 1 := by rw [hv, World.size_alloc, hBO]
  have HAv : Hid (AttrO v1.heap.size v a h) := hao.keep hKv (fun _ _ _ => trivial)
  have HCv : Hid (Cur v g A n c bs) := by rw [hv]; exact hc1.below (below_alloc1 _) (Nat.le_refl _)
  have HOv : Hid (Only g (g + 1) w v) := by rw [hv]; exact (HO1.out.trans ho1).below_ (below_alloc1 _) (by omega)
  have HRv := Lib.hid ((HR1.out.keep (keeps_cur ho1) (by omega)).keep hKv trivial)
  have hab : ∀ j, ((Value.slice h.1.1 h.1.2.1 h.1.2.2).ownBlock = some j ∨ (Value.slice h.2.1 h.2.2.1 h.2.2.2).ownBlock = some j) → v1.heap.size ≤ j ∧ j < BO := fun j hj => by
    rcases hj with hj | hj
    · have := hao.c.lt j hj; omega
    · have := hao.v.lt j hj; omega
  have HABo : Hid (∀ j, ((Value.slice h.1.1 h.1.2.1 h.1.2.2).ownBlock = some j ∨ (Value.slice h.2.1 h.2.2.1 h.2.2.2).ownBlock = some j) → j < BO) := fun j hj => (hab j hj).2
  have HRn : Hid ((Value.slice h.1.1 h.1.2.1 h.1.2.2).ownBlock = some w.heap.size ∨ True → True) := fun _ => trivial
  have HRn : Hid (∀ {o : Option Nat}, o = some w.heap.size → (o = (Value.slice h.1.1 h.1.2.1 h.1.2.2).ownBlock ∨ o = (Value.slice h.2.1 h.2.2.1 h.2.2.2).ownBlock) → False) := fun {o} e e2 => by
    subst e
    have := hab w.heap.size (by rcases e2 with e2 | e2; exact .inl e2.symm; exact .inr e2.symm)
    omega
  have hBOl : w.heap.size < BO := by omega
  have hgB : g < BO := by omega
  have HBV := Lib.hid hv
  clear hab hc1 ho1 hao hKv hv HO1 HC1 HR1 hsm hln
  go_wp2_with fail
  rw [← HBV.out, ← hBO]
  clear HBV
  refine (l1Below_any g A n c bs 14 _ HU.out hn HCv.out).mono ?_
  rintro e u ⟨x, rfl, ⟨x0, _, _⟩, hc1, ho1⟩
  have su := ho1.size
  have hBu : BO < u.heap.size := by omega
  have K2 := keeps_cur ho1
  have hHA : AttrO (w.heap.size + 1) u a h := (HAv.out.keep K2 (fun j hj _ => by omega)).low (by omega)
  have HAu := Lib.hid hHA
  have HBu := Lib.hid (HBv.out.keep K2 (by omega)); have HRr := Lib.hid (HRv.out.keep K2 (by omega)); have HCu := Lib.hid hc1; have HOu := Lib.hid (HOv.out.trans ho1)
  have HRdf : Hid (RdAf (fun j => w.heap.size + 1 ≤ j ∧ j ≠ BO) u a h) := ⟨Rdf.of_own hHA.c (fun j hj _ e => ⟨hj, by have := HABo.out j (.inl e); omega⟩), Rdf.of_own hHA.v (fun j hj _ e => ⟨hj, by have := HABo.out j (.inr e); omega⟩)⟩
  clear hc1 ho1 K2 hHA HCv HOv HBv HRv HAv hzv hBO
  go_upto_block 0 with fail
  go_cut [] (fun wx => ∃ (a : AD) (h : AH), Bx wx BO 52 #[.string (a).nm, .slice (h).1.1 (h).1.2.1 (h).1.2.2, .slice (h).2.1 (h).2.2.1 (h).2.2.2] ∧ RdAf (fun j => w.heap.size + 1 ≤ j ∧ j ≠ BO) wx (a) (h) ∧ SmA (a) (h) ∧ Bx wx w.heap.size 52 #[.string { data := #[] }, .slice none 0 0, .slice none 0 0] ∧ Cur wx g A n c bs ∧ Only g (g + 1) w wx)
  case first =>
    by_cases hsw0 : x = 0
    · subst hsw0
      have p0 : u.cell? ⟨BO, 0, none⟩ = some (.string a.nm) := HBu.out.cells 0; have pf0 := HBu.out.free 0
      have p1 : u.cell? ⟨BO, 1, none⟩ = some (.slice h.1.1 h.1.2.1 h.1.2.2) := HBu.out.cells 1; have pf1 := HBu.out.free 1
      have p2 : u.cell? ⟨BO, 2, none⟩ = some (.slice h.2.1 h.2.2.1 h.2.2.2) := HBu.out.cells 2; have pf2 := HBu.out.free 2
      go_wp2_with fail
      refine (pickLitS g A n c 4 bs [{ data := #[] }, { data := #[85, 112, 112, 101, 114] }, { data := #[119, 97, 121, 116, 111, 111, 108, 111, 110, 103] }, { data := #[97, 32, 98] }] _ _ _ rfl rfl (by omega) (by omega) HU.out hn HCu.out).mono ?_
      rintro e q3 ⟨y, rfl, hy, hcq, hoq⟩
      have HYb := Lib.hid (show y.size ≤ 16 by simp only [List.mem_cons, List.not_mem_nil, or_false] at hy; rcases hy with rfl | rfl | rfl | rfl <;> decide)
      have K3 := Lib.hid (keeps_cur hoq)
      have hz3 := hoq.size
      have HBq := Lib.hid (HBu.out.keep K3.out (by omega))
      have HK9 := Lib.hid (set1_keeps q3 BO 0 (.string y))
      have HB2 := Lib.hid (HBq.out.set_ 0 (.string y))
      have HRd9 : Hid (RdAf (fun j => w.heap.size + 1 ≤ j ∧ j ≠ BO) (q3.setCell ⟨BO, 0, none⟩ (.string y)) ⟨y, a.cuts, a.vals⟩ h) := by
        have h1 := ((HRdf.out.keep (K3.out.mono (fun j hj => by omega))).keep (HK9.out.1.mono (fun j hj => hj.2)))
        exact ⟨h1.cuts, h1.vals⟩
      have HSm9 : Hid (SmA ⟨y, a.cuts, a.vals⟩ h) := ⟨HYb.out, HSm.out.cuts, HSm.out.vals, HSm.out.strs, HSm.out.cap⟩
      have HRr9 := Lib.hid ((HRr.out.keep K3.out (by omega)).keep HK9.out.1 (by omega))
      have HC9 := Lib.hid (hcq.below2 HK9.out.2 (by omega)); have HO9 := Lib.hid ((HOu.out.trans hoq).below_ (HK9.out.2.mono (show w.heap.size ≤ BO by omega)) (Nat.le_refl _))
      have q0 : q3.cell? ⟨BO, 0, none⟩ = some (.string a.nm) := HBq.out.cells 0
      have qf0 := HBq.out.free 0
      clear hcq hoq hy p0 p1 p2 pf0 pf1 pf2
      go_wp2_with fail
      go_meet
      exact ⟨⟨y, a.cuts, a.vals⟩, h, HB2.out, HRd9.out, HSm9.out, HRr9.out, HC9.out, HO9.out⟩
    · have esw0 : (x == 0) = false := beq_false_of_ne hsw0
      have dsw0 : decide (x = 0) = false := decide_eq_false hsw0
      by_cases hsw1 : x = 1
      · subst hsw1
        have p0 : u.cell? ⟨BO, 0, none⟩ = some (.string a.nm) := HBu.out.cells 0; have pf0 := HBu.out.free 0
        have p1 : u.cell? ⟨BO, 1, none⟩ = some (.slice h.1.1 h.1.2.1 h.1.2.2) := HBu.out.cells 1; have pf1 := HBu.out.free 1
        have p2 : u.cell? ⟨BO, 2, none⟩ = some (.slice h.2.1 h.2.2.1 h.2.2.2) := HBu.out.cells 2; have pf2 := HBu.out.free 2
        have HCd := Lib.hid (HCu.out.below2 (below_drew u.heap.size u) (by omega))
        have hRow : ∀ j, (Value.slice h.1.1 h.1.2.1 h.1.2.2).ownBlock = some j → w.heap.size + 1 ≤ j ∧ j < BO := fun j hj => ⟨(HAu.out.c.lt j hj).1, HABo.out j (by first | exact .inl hj | exact .inr hj)⟩
        have HRow := Lib.hid hRow
        have hl8 : h.1.2.1 ≤ 8 := by
          have h1 := HLen.out
          have h2 : a.cuts.length = h.1.2.1 := by simpa using HAu.out.c.1
          omega
        clear hRow
        have HKe : Hid (∀ w' : World, u.grownBy w' (Value.slice h.1.1 h.1.2.1 h.1.2.2).ownBlock → w'.cell? ⟨BO, 1, none⟩ = some (.slice h.1.1 h.1.2.1 h.1.2.2) ∧ w'.frozen? ⟨BO, 1, none⟩ = false) := fun w' hg => by
          have h := HBu.out.keep (Keeps.grown hg (P := fun j => j = BO) (fun j hj e => by have := HRow.out j e; omega)) rfl
          exact ⟨h.cells 1, h.free 1⟩
        go_upto_region 6 with fail
        skip
        refine wp_region_last (n := 8) (S := fun w' => w'.cell? ⟨BO, 1, none⟩ = some (.slice h.1.1 h.1.2.1 h.1.2.2) ∧ w'.frozen? ⟨BO, 1, none⟩ = false) (by kernel_rfl) rfl (by kernel_rfl) (HKe.out _ (grown_drew _)) ?_
        intro hS; (try dsimp only at hS)
        simp only [List.take_succ_cons, List.take_zero, List.getElem_toArray, List.getElem_cons_succ, List.getElem_cons_zero]
        refine wpAnyH_take (i := 0) (v := ?v1x) rfl (by kernel_rfl) (by kernel_rfl) (by kernel_rfl) (fun _ _ _ h => h) (Or.inl ⟨by rfl, ?hy1x⟩) hS ?rest1x
        case hy1x => (intro w' hSw; (try dsimp only at hSw); go_simp; (try (with_reducible rfl)))
        (try simp only [Act.put, List.setIfInBounds_toArray, List.set_cons_zero, List.set_cons_succ, List.getElem_toArray, List.getElem_cons_succ, List.getElem_cons_zero])
        refine wpAnyH_take (i := 1) (v := ?v2x) rfl (by kernel_rfl) (by kernel_rfl) (by kernel_rfl) (fun _ _ _ h => h) (Or.inl ⟨by rfl, ?hy2x⟩) hS ?rest2x
        case hy2x => (intro w' hSw; (try dsimp only at hSw); go_simp; (try (with_reducible rfl)))
        (try simp only [Act.put, List.setIfInBounds_toArray, List.set_cons_zero, List.set_cons_succ, List.getElem_toArray, List.getElem_cons_succ, List.getElem_cons_zero])
        refine wpAnyH_take (i := 2) (v := ?v3x) rfl (by kernel_rfl) (by kernel_rfl) (by kernel_rfl) (fun _ _ _ h => h) (Or.inl ⟨by rfl, ?hy3x⟩) hS ?rest3x
        case hy3x => (intro w' hSw; (try dsimp only at hSw); go_simp; (try (with_reducible rfl)))
        (try simp only [Act.put, List.setIfInBounds_toArray, List.set_cons_zero, List.set_cons_succ, List.getElem_toArray, List.getElem_cons_succ, List.getElem_cons_zero])
        refine wpAnyH_ready (rs := [3]) (by kernel_rfl) (by simp) ?_
        refine AllReadyH.cons rfl (fun K hK => ?_) AllReadyH.nil
        (try dsimp only [List.getElem_toArray, List.getElem_cons_succ, List.getElem_cons_zero])
        go_simp
        refine hK.out _ _ (HKe.out _ ((grown_drew _).trans (grown_alloc _ _))) (fun hS9 => ?_)
        clear hK K hS; have hS := hS9; clear hS9; (try dsimp only at hS)
        (try simp only [Act.put, List.setIfInBounds_toArray, List.set_cons_zero, List.set_cons_succ, List.getElem_toArray, List.getElem_cons_succ, List.getElem_cons_zero])
        refine wpAnyH_ready (rs := [4]) (by kernel_rfl) (by simp) ?_
        refine AllReadyH.cons rfl (fun K hK => ?_) AllReadyH.nil
        (try dsimp only [List.getElem_toArray, List.getElem_cons_succ, List.getElem_cons_zero])
        (go_simp; (refine (pickLit g A n c 4 bs [-10000, 9999, 9998, 0] u.drew #[.int .i64 (-10000), .int .i64 9999, .int .i64 9998, .int .i64 0] 3 rfl rfl (by omega) (by omega) HU.out hn HCd.out).mono ?_); rintro e q3 ⟨y, rfl, hy, hcq, hoq⟩; dsimp only)
        have hO3 : Only g (g + 1) u q3 := (Only.of_below (below_drew u.heap.size u) (Nat.le_refl _)).trans hoq
        have hz3 := hO3.size
        have HCq3 := Lib.hid hcq
        have K3 := Lib.hid (keeps_cur hO3)
        have HBq := Lib.hid (HBu.out.keep K3.out (by omega))
        have HAq := Lib.hid (HAu.out.keep K3.out (fun j hj _ => by omega))
        have HKq : Hid (∀ w' : World, q3.grownBy w' (Value.slice h.1.1 h.1.2.1 h.1.2.2).ownBlock → w'.cell? ⟨BO, 1, none⟩ = some (.slice h.1.1 h.1.2.1 h.1.2.2) ∧ w'.frozen? ⟨BO, 1, none⟩ = false) := fun w' hg => by
          have h := HBq.out.keep (Keeps.grown hg (P := fun j => j = BO) (fun j hj e => by have := HRow.out j e; omega)) rfl
          exact ⟨h.cells 1, h.free 1⟩
        refine hK.out _ _ (HKq.out _ ⟨rfl, rfl, rfl, Nat.le_refl _, fun _ _ _ => rfl⟩) (fun hS9 => ?_)
        clear hK K hS; have hS := hS9; clear hS9; (try dsimp only at hS)
        (try simp only [Act.put, List.setIfInBounds_toArray, List.set_cons_zero, List.set_cons_succ, List.getElem_toArray, List.getElem_cons_succ, List.getElem_cons_zero])
        refine wpAnyH_ready (rs := [5]) (by kernel_rfl) (by simp) ?_
        refine AllReadyH.cons rfl (fun K hK => ?_) AllReadyH.nil
        (try dsimp only [List.getElem_toArray, List.getElem_cons_succ, List.getElem_cons_zero])
        go_simp
        refine hK.out _ _ (HKq.out _ (grown_alloc _ _)) (fun hS9 => ?_)
        clear hK K hS; have hS := hS9; clear hS9; (try dsimp only at hS)
        (try simp only [Act.put, List.setIfInBounds_toArray, List.set_cons_zero, List.set_cons_succ, List.getElem_toArray, List.getElem_cons_succ, List.getElem_cons_zero])
        refine wpAnyH_ready (rs := [6]) (by kernel_rfl) (by simp) ?_
        refine AllReadyH.cons rfl (fun K hK => ?_) AllReadyH.nil
        (try dsimp only [List.getElem_toArray, List.getElem_cons_succ, List.getElem_cons_zero])
        (rw [if_pos (by rfl)]; refine wp_append_lies _ _ _ _ (by rfl) (w.heap.size + 1) 3 i1 _ 1 8 Tryd.underlying40 HQ.out HQ0.out HQ1.out HQ2.out rfl (by omega) _ (h.1.2.1) (a.cuts.map (Value.int .i64)) (by rfl) (HAq.out.c.alloc _) ⟨q3.heap.size, 0, none⟩ 1 1 [.int .i64 y] (by rfl) (by rfl) (World.news_of_block (cs := #[.int .i64 y]) (t := 3) (fr := (0, 0)) (heap_alloc_new q3 _)) (by simp [Value.oneCell']) (by omega) (by simp only [maxLen]; omega) (by omega) (by simp only [World.size_alloc, World.size_drew]; omega) (q3.heap.size + 1) (by first | rfl | simp) ?_; intro g7 cap7 u6 hown7 hgrow7 hat7 hlt7)
        have hg7 : q3.grownBy u6 (Value.slice h.1.1 h.1.2.1 h.1.2.2).ownBlock := (grown_alloc _ _).trans hgrow7
        refine hK.out _ _ (HKq.out _ hg7) (fun hS9 => ?_)
        clear hK K hS; have hS := hS9; clear hS9; (try dsimp only at hS)
        (try simp only [Act.put, List.setIfInBounds_toArray, List.set_cons_zero, List.set_cons_succ, List.getElem_toArray, List.getElem_cons_succ, List.getElem_cons_zero])
        refine wpAnyH_take (i := 7) (v := ?v4x) rfl (by kernel_rfl) (by kernel_rfl) (by kernel_rfl) (fun _ _ _ h => h) (Or.inl ⟨by rfl, ?hy4x⟩) hS ?rest4x
        case hy4x => (intro w' hSw; (try dsimp only at hSw); go_simp; (try (with_reducible rfl)))
        (try simp only [Act.put, List.setIfInBounds_toArray, List.set_cons_zero, List.set_cons_succ, List.getElem_toArray, List.getElem_cons_succ, List.getElem_cons_zero])
        refine wpAnyH_done (by kernel_rfl) ?_ _
        refine fun K hK => ?_
        go_simp
        refine hK.out _ _ ?_
        clear hK K
        have HK9 := Lib.hid (app_keeps (b := BO) (i := 1) (x := .slice (some ⟨g7, 0, none⟩) (h.1.2.1 + 1) cap7) hg7)
        have HB9 := Lib.hid (app_below (b := BO) (i := 1) (B := w.heap.size) (x := .slice (some ⟨g7, 0, none⟩) (h.1.2.1 + 1) cap7) hg7 (by omega) (fun j hj => Nat.le_trans (Nat.le_succ _) (HRow.out j hj).1) (by omega))
        have hu6 := HBq.out.keep (Keeps.grown hg7 (P := fun j => j = BO) (fun j hj e => by have := HRow.out j e; omega)) rfl
        have HB2 := Lib.hid (hu6.set_ 1 (.slice (some ⟨g7, 0, none⟩) (h.1.2.1 + 1) cap7))
        have HRr9 := Lib.hid ((HRr.out.keep K3.out (by omega)).keep HK9.out ⟨by omega, fun e => (HRn.out e (by first | exact .inl rfl | exact .inr rfl))⟩)
        have h9 : ∀ j, (Value.slice (some ⟨g7, 0, none⟩) (h.1.2.1 + 1) cap7).ownBlock = some j → j ≠ BO := fun j h3 e => by
          simp only [Value.ownBlock, Option.some.injEq] at h3
          rcases hat7 with e2 | e2
          · have := HRow.out _ e2; omega
          · omega
        have HOwn9 := Lib.hid (own_keep hown7 (Keeps.set (P := fun j => j ≠ BO) (b := BO) (i := 1) (u := .slice (some ⟨g7, 0, none⟩) (h.1.2.1 + 1) cap7) (by simp)) (fun j hj e => h9 j e))
        have HOff : Hid (∀ j, w.heap.size + 1 ≤ j → ((Value.slice h.1.1 h.1.2.1 h.1.2.2).ownBlock = some j ∨ (Value.slice h.2.1 h.2.2.1 h.2.2.2).ownBlock = some j) → j ≠ BO) := fun j hj h3 => by have := HABo.out j h3; omega
        have HRd9 : Hid (RdAf (fun j => w.heap.size + 1 ≤ j ∧ j ≠ BO) (u6.setCell ⟨BO, 1, none⟩ (.slice (some ⟨g7, 0, none⟩) (h.1.2.1 + 1) cap7)) ⟨a.nm, a.cuts ++ [y], a.vals⟩ ((some ⟨g7, 0, none⟩, h.1.2.1 + 1, cap7), h.2)) := ⟨Rdf.of_own (by rw [List.map_append]; exact HOwn9.out) (fun j hj _ h3 => ⟨hj, h9 j h3⟩), Rdf.of_own (own_keep HAq.out.v (Keeps.trans (HK9.out) (Keeps.refl _ _)) (fun j hj h3 => ⟨(HOff.out j (by omega) (by first | exact .inl h3 | exact .inr h3)), fun e => HAq.out.two j e h3⟩)) (fun j hj _ h3 => ⟨hj, HOff.out j (by omega) (by first | exact .inl h3 | exact .inr h3)⟩)⟩
        have HSm9 : Hid (SmA ⟨a.nm, a.cuts ++ [y], a.vals⟩ ((some ⟨g7, 0, none⟩, h.1.2.1 + 1, cap7), h.2)) := ⟨HSm.out.nm, by show (a.cuts ++ [y]).length ≤ 16; rw [List.length_append, List.length_singleton]; have h8 := HLen.out; omega, HSm.out.vals, HSm.out.strs, HSm.out.cap⟩
        have HC9 := Lib.hid (HCq3.out.below2 HB9.out hgw); have HO9 := Lib.hid ((HOu.out.trans hO3).below_ HB9.out (Nat.le_refl _))
        clear hown7 hgrow7 hat7 hg7 hu6 hcq hoq hy h9
        go_wp2_with fail
        go_meet
        exact ⟨⟨a.nm, a.cuts ++ [y], a.vals⟩, ((some ⟨g7, 0, none⟩, h.1.2.1 + 1, cap7), h.2), HB2.out, HRd9.out, HSm9.out, HRr9.out, HC9.out, HO9.out⟩
      · have esw1 : (x == 1) = false := beq_false_of_ne hsw1
        have dsw1 : decide (x = 1) = false := decide_eq_false hsw1
        by_cases hsw2 : x = 2
        · subst hsw2
          have p0 : u.cell? ⟨BO, 0, none⟩ = some (.string a.nm) := HBu.out.cells 0; have pf0 := HBu.out.free 0
          have p1 : u.cell? ⟨BO, 1, none⟩ = some (.slice h.1.1 h.1.2.1 h.1.2.2) := HBu.out.cells 1; have pf1 := HBu.out.free 1
          have p2 : u.cell? ⟨BO, 2, none⟩ = some (.slice h.2.1 h.2.2.1 h.2.2.2) := HBu.out.cells 2; have pf2 := HBu.out.free 2
          have HCd := Lib.hid (HCu.out.below2 (below_drew u.heap.size u) (by omega))
          have hRow : ∀ j, (Value.slice h.2.1 h.2.2.1 h.2.2.2).ownBlock = some j → w.heap.size + 1 ≤ j ∧ j < BO := fun j hj => ⟨(HAu.out.v.lt j hj).1, HABo.out j (by first | exact .inl hj | exact .inr hj)⟩
          have HRow := Lib.hid hRow
          have hl8 : h.2.2.1 ≤ 8 := by
            have h1 := HLen.out
            have h2 : a.vals.length = h.2.2.1 := by simpa using HAu.out.v.1
            omega
          clear hRow
          have HKe : Hid (∀ w' : World, u.grownBy w' (Value.slice h.2.1 h.2.2.1 h.2.2.2).ownBlock → w'.cell? ⟨BO, 2, none⟩ = some (.slice h.2.1 h.2.2.1 h.2.2.2) ∧ w'.frozen? ⟨BO, 2, none⟩ = false) := fun w' hg => by
            have h := HBu.out.keep (Keeps.grown hg (P := fun j => j = BO) (fun j hj e => by have := HRow.out j e; omega)) rfl
            exact ⟨h.cells 2, h.free 2⟩
          go_upto_region 8 with fail
          skip
          refine wp_region_last (n := 8) (S := fun w' => w'.cell? ⟨BO, 2, none⟩ = some (.slice h.2.1 h.2.2.1 h.2.2.2) ∧ w'.frozen? ⟨BO, 2, none⟩ = false) (by kernel_rfl) rfl (by kernel_rfl) (HKe.out _ (grown_drew _)) ?_
          intro hS; (try dsimp only at hS)
          simp only [List.take_succ_cons, List.take_zero, List.getElem_toArray, List.getElem_cons_succ, List.getElem_cons_zero]
          refine wpAnyH_take (i := 0) (v := ?v5x) rfl (by kernel_rfl) (by kernel_rfl) (by kernel_rfl) (fun _ _ _ h => h) (Or.inl ⟨by rfl, ?hy5x⟩) hS ?rest5x
          case hy5x => (intro w' hSw; (try dsimp only at hSw); go_simp; (try (with_reducible rfl)))
          (try simp only [Act.put, List.setIfInBounds_toArray, List.set_cons_zero, List.set_cons_succ, List.getElem_toArray, List.getElem_cons_succ, List.getElem_cons_zero])
          refine wpAnyH_take (i := 1) (v := ?v6x) rfl (by kernel_rfl) (by kernel_rfl) (by kernel_rfl) (fun _ _ _ h => h) (Or.inl ⟨by rfl, ?hy6x⟩) hS ?rest6x
          case hy6x => (intro w' hSw; (try dsimp only at hSw); go_simp; (try (with_reducible rfl)))
          (try simp only [Act.put, List.setIfInBounds_toArray, List.set_cons_zero, List.set_cons_succ, List.getElem_toArray, List.getElem_cons_succ, List.getElem_cons_zero])
          refine wpAnyH_take (i := 2) (v := ?v7x) rfl (by kernel_rfl) (by kernel_rfl) (by kernel_rfl) (fun _ _ _ h => h) (Or.inl ⟨by rfl, ?hy7x⟩) hS ?rest7x
          case hy7x => (intro w' hSw; (try dsimp only at hSw); go_simp; (try (with_reducible rfl)))
          (try simp only [Act.put, List.setIfInBounds_toArray, List.set_cons_zero, List.set_cons_succ, List.getElem_toArray, List.getElem_cons_succ, List.getElem_cons_zero])
          refine wpAnyH_ready (rs := [3]) (by kernel_rfl) (by simp) ?_
          refine AllReadyH.cons rfl (fun K hK => ?_) AllReadyH.nil
          (try dsimp only [List.getElem_toArray, List.getElem_cons_succ, List.getElem_cons_zero])
          go_simp
          refine hK.out _ _ (HKe.out _ ((grown_drew _).trans (grown_alloc _ _))) (fun hS9 => ?_)
          clear hK K hS; have hS := hS9; clear hS9; (try dsimp only at hS)
          (try simp only [Act.put, List.setIfInBounds_toArray, List.set_cons_zero, List.set_cons_succ, List.getElem_toArray, List.getElem_cons_succ, List.getElem_cons_zero])
          refine wpAnyH_ready (rs := [4]) (by kernel_rfl) (by simp) ?_
          refine AllReadyH.cons rfl (fun K hK => ?_) AllReadyH.nil
          (try dsimp only [List.getElem_toArray, List.getElem_cons_succ, List.getElem_cons_zero])
          (go_simp; (refine (pickLitS g A n c 3 bs [{ data := #[114, 101, 100] }, { data := #[102, 105, 102, 116, 104] }, { data := #[] }] u.drew #[.string { data := #[114, 101, 100] }, .string { data := #[102, 105, 102, 116, 104] }, .string { data := #[] }] 9 rfl rfl (by omega) (by omega) HU.out hn HCd.out).mono ?_); rintro e q3 ⟨y, rfl, hy, hcq, hoq⟩; dsimp only)
          have hO3 : Only g (g + 1) u q3 := (Only.of_below (below_drew u.heap.size u) (Nat.le_refl _)).trans hoq
          have hz3 := hO3.size
          have HCq3 := Lib.hid hcq
          have K3 := Lib.hid (keeps_cur hO3)
          have HBq := Lib.hid (HBu.out.keep K3.out (by omega))
          have HAq := Lib.hid (HAu.out.keep K3.out (fun j hj _ => by omega))
          have HKq : Hid (∀ w' : World, q3.grownBy w' (Value.slice h.2.1 h.2.2.1 h.2.2.2).ownBlock → w'.cell? ⟨BO, 2, none⟩ = some (.slice h.2.1 h.2.2.1 h.2.2.2) ∧ w'.frozen? ⟨BO, 2, none⟩ = false) := fun w' hg => by
            have h := HBq.out.keep (Keeps.grown hg (P := fun j => j = BO) (fun j hj e => by have := HRow.out j e; omega)) rfl
            exact ⟨h.cells 2, h.free 2⟩
          refine hK.out _ _ (HKq.out _ ⟨rfl, rfl, rfl, Nat.le_refl _, fun _ _ _ => rfl⟩) (fun hS9 => ?_)
          clear hK K hS; have hS := hS9; clear hS9; (try dsimp only at hS)
          (try simp only [Act.put, List.setIfInBounds_toArray, List.set_cons_zero, List.set_cons_succ, List.getElem_toArray, List.getElem_cons_succ, List.getElem_cons_zero])
          refine wpAnyH_ready (rs := [5]) (by kernel_rfl) (by simp) ?_
          refine AllReadyH.cons rfl (fun K hK => ?_) AllReadyH.nil
          (try dsimp only [List.getElem_toArray, List.getElem_cons_succ, List.getElem_cons_zero])
          go_simp
          refine hK.out _ _ (HKq.out _ (grown_alloc _ _)) (fun hS9 => ?_)
          clear hK K hS; have hS := hS9; clear hS9; (try dsimp only at hS)
          (try simp only [Act.put, List.setIfInBounds_toArray, List.set_cons_zero, List.set_cons_succ, List.getElem_toArray, List.getElem_cons_succ, List.getElem_cons_zero])
          refine wpAnyH_ready (rs := [6]) (by kernel_rfl) (by simp) ?_
          refine AllReadyH.cons rfl (fun K hK => ?_) AllReadyH.nil
          (try dsimp only [List.getElem_toArray, List.getElem_cons_succ, List.getElem_cons_zero])
          (rw [if_pos (by rfl)]; refine wp_append_lies _ _ _ _ (by rfl) (w.heap.size + 1) 9 i2 _ 1 16 Tryd.underlying23 HJ.out HJ0.out HJ1.out HJ2.out rfl (by omega) _ (h.2.2.1) (a.vals.map Value.string) (by rfl) (HAq.out.v.alloc _) ⟨q3.heap.size, 0, none⟩ 1 1 [.string y] (by rfl) (by rfl) (World.news_of_block (cs := #[.string y]) (t := 9) (fr := (0, 0)) (heap_alloc_new q3 _)) (by simp [Value.oneCell']) (by omega) (by simp only [maxLen]; omega) (by omega) (by simp only [World.size_alloc, World.size_drew]; omega) (q3.heap.size + 1) (by first | rfl | simp) ?_; intro g7 cap7 u6 hown7 hgrow7 hat7 hlt7)
          have hg7 : q3.grownBy u6 (Value.slice h.2.1 h.2.2.1 h.2.2.2).ownBlock := (grown_alloc _ _).trans hgrow7
          refine hK.out _ _ (HKq.out _ hg7) (fun hS9 => ?_)
          clear hK K hS; have hS := hS9; clear hS9; (try dsimp only at hS)
          (try simp only [Act.put, List.setIfInBounds_toArray, List.set_cons_zero, List.set_cons_succ, List.getElem_toArray, List.getElem_cons_succ, List.getElem_cons_zero])
          refine wpAnyH_take (i := 7) (v := ?v8x) rfl (by kernel_rfl) (by kernel_rfl) (by kernel_rfl) (fun _ _ _ h => h) (Or.inl ⟨by rfl, ?hy8x⟩) hS ?rest8x
          case hy8x => (intro w' hSw; (try dsimp only at hSw); go_simp; (try (with_reducible rfl)))
          (try simp only [Act.put, List.setIfInBounds_toArray, List.set_cons_zero, List.set_cons_succ, List.getElem_toArray, List.getElem_cons_succ, List.getElem_cons_zero])
          refine wpAnyH_done (by kernel_rfl) ?_ _
          refine fun K hK => ?_
          go_simp
          refine hK.out _ _ ?_
          clear hK K
          have HYb := Lib.hid (show y.size ≤ 16 by simp only [List.mem_cons, List.not_mem_nil, or_false] at hy; rcases hy with rfl | rfl | rfl <;> decide)
          have HK9 := Lib.hid (app_keeps (b := BO) (i := 2) (x := .slice (some ⟨g7, 0, none⟩) (h.2.2.1 + 1) cap7) hg7)
          have HB9 := Lib.hid (app_below (b := BO) (i := 2) (B := w.heap.size) (x := .slice (some ⟨g7, 0, none⟩) (h.2.2.1 + 1) cap7) hg7 (by omega) (fun j hj => Nat.le_trans (Nat.le_succ _) (HRow.out j hj).1) (by omega))
          have hu6 := HBq.out.keep (Keeps.grown hg7 (P := fun j => j = BO) (fun j hj e => by have := HRow.out j e; omega)) rfl
          have HB2 := Lib.hid (hu6.set_ 2 (.slice (some ⟨g7, 0, none⟩) (h.2.2.1 + 1) cap7))
          have HRr9 := Lib.hid ((HRr.out.keep K3.out (by omega)).keep HK9.out ⟨by omega, fun e => (HRn.out e (by first | exact .inl rfl | exact .inr rfl))⟩)
          have h9 : ∀ j, (Value.slice (some ⟨g7, 0, none⟩) (h.2.2.1 + 1) cap7).ownBlock = some j → j ≠ BO := fun j h3 e => by
            simp only [Value.ownBlock, Option.some.injEq] at h3
            rcases hat7 with e2 | e2
            · have := HRow.out _ e2; omega
            · omega
          have HOwn9 := Lib.hid (own_keep hown7 (Keeps.set (P := fun j => j ≠ BO) (b := BO) (i := 2) (u := .slice (some ⟨g7, 0, none⟩) (h.2.2.1 + 1) cap7) (by simp)) (fun j hj e => h9 j e))
          have HOff : Hid (∀ j, w.heap.size + 1 ≤ j → ((Value.slice h.1.1 h.1.2.1 h.1.2.2).ownBlock = some j ∨ (Value.slice h.2.1 h.2.2.1 h.2.2.2).ownBlock = some j) → j ≠ BO) := fun j hj h3 => by have := HABo.out j h3; omega
          have HRd9 : Hid (RdAf (fun j => w.heap.size + 1 ≤ j ∧ j ≠ BO) (u6.setCell ⟨BO, 2, none⟩ (.slice (some ⟨g7, 0, none⟩) (h.2.2.1 + 1) cap7)) ⟨a.nm, a.cuts, a.vals ++ [y]⟩ (h.1, (some ⟨g7, 0, none⟩, h.2.2.1 + 1, cap7))) := ⟨Rdf.of_own (own_keep HAq.out.c (Keeps.trans (HK9.out) (Keeps.refl _ _)) (fun j hj h3 => ⟨(HOff.out j (by omega) (by first | exact .inl h3 | exact .inr h3)), fun e => HAq.out.two j h3 e⟩)) (fun j hj _ h3 => ⟨hj, HOff.out j (by omega) (by first | exact .inl h3 | exact .inr h3)⟩), Rdf.of_own (by rw [List.map_append]; exact HOwn9.out) (fun j hj _ h3 => ⟨hj, h9 j h3⟩)⟩
          have HSm9 : Hid (SmA ⟨a.nm, a.cuts, a.vals ++ [y]⟩ (h.1, (some ⟨g7, 0, none⟩, h.2.2.1 + 1, cap7))) := ⟨HSm.out.nm, HSm.out.cuts, by show (a.vals ++ [y]).length ≤ 16; rw [List.length_append, List.length_singleton]; have h8 := HLen.out; omega, fun s hs => by
                rcases List.mem_append.1 hs with e | e
                · exact HSm.out.strs s e
                · obtain rfl : s = y := by simpa using e
                  exact HYb.out, own_capN HOwn9.out⟩
          have HC9 := Lib.hid (HCq3.out.below2 HB9.out hgw); have HO9 := Lib.hid ((HOu.out.trans hO3).below_ HB9.out (Nat.le_refl _))
          clear hown7 hgrow7 hat7 hg7 hu6 hcq hoq hy h9
          go_wp2_with fail
          go_meet
          exact ⟨⟨a.nm, a.cuts, a.vals ++ [y]⟩, (h.1, (some ⟨g7, 0, none⟩, h.2.2.1 + 1, cap7)), HB2.out, HRd9.out, HSm9.out, HRr9.out, HC9.out, HO9.out⟩
        · have esw2 : (x == 2) = false := beq_false_of_ne hsw2
          have dsw2 : decide (x = 2) = false := decide_eq_false hsw2
          by_cases hsw3 : x = 3
          · subst hsw3
            have p0 : u.cell? ⟨BO, 0, none⟩ = some (.string a.nm) := HBu.out.cells 0; have pf0 := HBu.out.free 0
            have p1 : u.cell? ⟨BO, 1, none⟩ = some (.slice h.1.1 h.1.2.1 h.1.2.2) := HBu.out.cells 1; have pf1 := HBu.out.free 1
            have p2 : u.cell? ⟨BO, 2, none⟩ = some (.slice h.2.1 h.2.2.1 h.2.2.2) := HBu.out.cells 2; have pf2 := HBu.out.free 2
            have HB_ := Lib.hid ((HBu.out.set_ 1 (.slice (some ⟨u.heap.size, 0, none⟩) 0 0)).keep (Keeps.alloc (P := fun j => True) (.cells #[] 3)) trivial)
            have HK_ : Hid (Keeps (fun j => j ≠ BO) u ((u.setCell ⟨BO, 1, none⟩ (.slice (some ⟨u.heap.size, 0, none⟩) 0 0)).alloc (.cells #[] 3)) ∧ Below w.heap.size u ((u.setCell ⟨BO, 1, none⟩ (.slice (some ⟨u.heap.size, 0, none⟩) 0 0)).alloc (.cells #[] 3))) := ⟨((Keeps.refl _ _).trans (Keeps.set (by simp))).trans (Keeps.alloc _), ((Below.refl w.heap.size u).setCell (p := ⟨BO, 1, none⟩) (show w.heap.size ≤ BO by omega) _).alloc (by simp only [World.size_alloc, World.size_setCell]; omega) _⟩
            have HRd9 : Hid (RdAf (fun j => w.heap.size + 1 ≤ j ∧ j ≠ BO) ((u.setCell ⟨BO, 1, none⟩ (.slice (some ⟨u.heap.size, 0, none⟩) 0 0)).alloc (.cells #[] 3)) ⟨a.nm, [], a.vals⟩ ((some ⟨u.heap.size, 0, none⟩, 0, 0), h.2)) := ⟨Rdf.nil_ _, (HRdf.out.keep (HK_.out.1.mono (fun j hj => hj.2))).vals⟩
            have HSm9 : Hid (SmA ⟨a.nm, [], a.vals⟩ ((some ⟨u.heap.size, 0, none⟩, 0, 0), h.2)) := ⟨HSm.out.nm, by simp, HSm.out.vals, HSm.out.strs, HSm.out.cap⟩
            have HRr9 := Lib.hid (HRr.out.keep HK_.out.1 (by omega))
            have HC9 := Lib.hid (HCu.out.below2 HK_.out.2 hgw); have HO9 := Lib.hid (HOu.out.below_ HK_.out.2 (Nat.le_refl _))
            go_wp2_with fail
            go_meet
            exact ⟨⟨a.nm, [], a.vals⟩, ((some ⟨u.heap.size, 0, none⟩, 0, 0), h.2), HB_.out, HRd9.out, HSm9.out, HRr9.out, HC9.out, HO9.out⟩
          · have esw3 : (x == 3) = false := beq_false_of_ne hsw3
            have dsw3 : decide (x = 3) = false := decide_eq_false hsw3
            by_cases hsw4 : x = 4
            · subst hsw4
              have p0 : u.cell? ⟨BO, 0, none⟩ = some (.string a.nm) := HBu.out.cells 0; have pf0 := HBu.out.free 0
              have p1 : u.cell? ⟨BO, 1, none⟩ = some (.slice h.1.1 h.1.2.1 h.1.2.2) := HBu.out.cells 1; have pf1 := HBu.out.free 1
              have p2 : u.cell? ⟨BO, 2, none⟩ = some (.slice h.2.1 h.2.2.1 h.2.2.2) := HBu.out.cells 2; have pf2 := HBu.out.free 2
              have HB_ := Lib.hid ((((HBu.out.set_ 1 (.slice (some ⟨u.heap.size, 0, none⟩) 1 1)).set_ 2 (.slice (some ⟨u.heap.size + 1, 0, none⟩) 0 0)).keep (Keeps.alloc (P := fun j => True) (.cells #[.int .i64 9998] 3)) trivial).keep (Keeps.alloc (P := fun j => True) (.cells #[] 9)) trivial)
              have HK_ : Hid (Keeps (fun j => j ≠ BO) u ((((u.setCell ⟨BO, 1, none⟩ (.slice (some ⟨u.heap.size, 0, none⟩) 1 1)).setCell ⟨BO, 2, none⟩ (.slice (some ⟨u.heap.size + 1, 0, none⟩) 0 0)).alloc (.cells #[.int .i64 9998] 3)).alloc (.cells #[] 9)) ∧ Below w.heap.size u ((((u.setCell ⟨BO, 1, none⟩ (.slice (some ⟨u.heap.size, 0, none⟩) 1 1)).setCell ⟨BO, 2, none⟩ (.slice (some ⟨u.heap.size + 1, 0, none⟩) 0 0)).alloc (.cells #[.int .i64 9998] 3)).alloc (.cells #[] 9))) := ⟨((((Keeps.refl _ _).trans (Keeps.set (by simp))).trans (Keeps.set (by simp))).trans (Keeps.alloc _)).trans (Keeps.alloc _), ((((Below.refl w.heap.size u).setCell (p := ⟨BO, 1, none⟩) (show w.heap.size ≤ BO by omega) _).setCell (p := ⟨BO, 2, none⟩) (show w.heap.size ≤ BO by omega) _).alloc (by simp only [World.size_alloc, World.size_setCell]; omega) _).alloc (by simp only [World.size_alloc, World.size_setCell]; omega) _⟩
              have HRd9 : Hid (RdAf (fun j => w.heap.size + 1 ≤ j ∧ j ≠ BO) ((((u.setCell ⟨BO, 1, none⟩ (.slice (some ⟨u.heap.size, 0, none⟩) 1 1)).setCell ⟨BO, 2, none⟩ (.slice (some ⟨u.heap.size + 1, 0, none⟩) 0 0)).alloc (.cells #[.int .i64 9998] 3)).alloc (.cells #[] 9)) ⟨a.nm, [9998], []⟩ ((some ⟨u.heap.size, 0, none⟩, 1, 1), (some ⟨u.heap.size + 1, 0, none⟩, 0, 0))) := ⟨(rdf_lit (P := fun j => w.heap.size + 1 ≤ j ∧ j ≠ BO) (W := ((u.setCell ⟨BO, 1, none⟩ (.slice (some ⟨u.heap.size, 0, none⟩) 1 1)).setCell ⟨BO, 2, none⟩ (.slice (some ⟨u.heap.size + 1, 0, none⟩) 0 0))) (cs := #[.int .i64 9998]) (T := 3) (n := 1) (by simp only [World.size_setCell]) ⟨by omega, by omega⟩ rfl).keep (Keeps.alloc _), Rdf.nil_ _⟩
              have HSm9 : Hid (SmA ⟨a.nm, [9998], []⟩ ((some ⟨u.heap.size, 0, none⟩, 1, 1), (some ⟨u.heap.size + 1, 0, none⟩, 0, 0))) := ⟨HSm.out.nm, by simp, by simp, by simp, Nat.le_refl _⟩
              have HRr9 := Lib.hid (HRr.out.keep HK_.out.1 (by omega))
              have HC9 := Lib.hid (HCu.out.below2 HK_.out.2 hgw); have HO9 := Lib.hid (HOu.out.below_ HK_.out.2 (Nat.le_refl _))
              go_wp2_with fail
              go_meet
              exact ⟨⟨a.nm, [9998], []⟩, ((some ⟨u.heap.size, 0, none⟩, 1, 1), (some ⟨u.heap.size + 1, 0, none⟩, 0, 0)), HB_.out, HRd9.out, HSm9.out, HRr9.out, HC9.out, HO9.out⟩
            · have esw4 : (x == 4) = false := beq_false_of_ne hsw4
              have dsw4 : decide (x = 4) = false := decide_eq_false hsw4
              have p0 : u.cell? ⟨BO, 0, none⟩ = some (.string a.nm) := HBu.out.cells 0; have pf0 := HBu.out.free 0
              have p1 : u.cell? ⟨BO, 1, none⟩ = some (.slice h.1.1 h.1.2.1 h.1.2.2) := HBu.out.cells 1; have pf1 := HBu.out.free 1
              have p2 : u.cell? ⟨BO, 2, none⟩ = some (.slice h.2.1 h.2.2.1 h.2.2.2) := HBu.out.cells 2; have pf2 := HBu.out.free 2
              go_wp2_with fail
              go_meet
              exact ⟨a, h, HBu.out, HRdf.out, HSm.out, HRr.out, HCu.out, HOu.out⟩
  obtain ⟨a9, h9, hbx, hrd, hsm, hrr, hc, ho⟩ := hcut
  obtain ⟨u9, rfl⟩ : ∃ u9 : World, u9 = wc := ⟨_, rfl⟩
  have hlu := hbx.lt
  have HBx := Lib.hid hbx; have HRd := Lib.hid hrd; have HRr := Lib.hid hrr; have HCf := Lib.hid hc; have HOf := Lib.hid ho
  clear hbx hrd hrr hc ho
  have p0 : u9.cell? ⟨BO, 0, none⟩ = some (.string a9.nm) := HBx.out.cells 0; have pf0 := HBx.out.free 0
  have p1 : u9.cell? ⟨BO, 1, none⟩ = some (.slice h9.1.1 h9.1.2.1 h9.1.2.2) := HBx.out.cells 1; have pf1 := HBx.out.free 1
  have p2 : u9.cell? ⟨BO, 2, none⟩ = some (.slice h9.2.1 h9.2.2.1 h9.2.2.2) := HBx.out.cells 2; have pf2 := HBx.out.free 2
  have HKf := Lib.hid (keeps_step (keeps_step (set1_keeps u9 w.heap.size 0 (.string a9.nm)) 1 (.slice h9.1.1 h9.1.2.1 h9.1.2.2)) 2 (.slice h9.2.1 h9.2.2.1 h9.2.2.2))
  have r0 : u9.cell? ⟨w.heap.size, 0, none⟩ = some (.string { data := #[] }) := HRr.out.cells 0
  have r1 : u9.cell? ⟨w.heap.size, 1, none⟩ = some (.slice none 0 0) := HRr.out.cells 1
  have r2 : u9.cell? ⟨w.heap.size, 2, none⟩ = some (.slice none 0 0) := HRr.out.cells 2
  have rf0 := HRr.out.free 0; have rf1 := HRr.out.free 1; have rf2 := HRr.out.free 2
  have hfin : ∀ w9, w9 = ((u9.setCell ⟨w.heap.size, 0, none⟩ (.string a9.nm)).setCell ⟨w.heap.size, 1, none⟩ (.slice h9.1.1 h9.1.2.1 h9.1.2.2)).setCell ⟨w.heap.size, 2, none⟩ (.slice h9.2.1 h9.2.2.1 h9.2.2.2) → RdAf (fun k => w.heap.size ≤ k) w9 a9 h9 ∧ Cur w9 g A n c bs ∧ Only g (g + 1) w w9 := by
    intro w9 h9
    subst h9
    refine ⟨(HRd.out.mono (Q := fun j => w.heap.size + 1 ≤ j) (fun j hj _ => by have := hj.1; omega)).keep (HKf.out.1.mono (fun j hj => by omega)) |>.mono (fun j hj _ => by omega), HCf.out.below2 HKf.out.2 hgw, HOf.out.below_ HKf.out.2 (Nat.le_refl _)⟩
  have HFin := Lib.hid hfin
  have HSm := Lib.hid hsm
  clear hfin
  go_wp2_with ((with_reducible refine bodyPost_ret (v := .agg #[.string a9.nm, .slice h9.1.1 h9.1.2.1 h9.1.2.2, .slice h9.2.1 h9.2.2.1 h9.2.2.2]) ?k1 ?k2 ?k3); (case k1 => (simp [results, Tryd.results55, go_sem, r0, r1, r2, rf0, rf1, rf2])); (case k2 => rfl); (case k3 => (exact ⟨a9, h9, rfl, HSm.out, (HFin.out _ rfl).1, (HFin.out _ rfl).2.1, (HFin.out _ rfl).2.2⟩)))

end Go.Proofs.YtchkmcikpamdeaaDoor
