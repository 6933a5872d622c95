/-
  Draws of schemas and lists of attributes.
-/
import Derived.Test.YtchkmcikpamdeaaDoorDraw9B
import Derived.Deep.CutBlock
namespace Go.Proofs.YtchkmcikpamdeaaDoor
open Go.RowKit
set_option linter.unusedSimpArgs false
set_option linter.unusedVariables false

/-- What DrawAttrsOk may answer. -/
def DrawAttrsOkR (w : World) (e : Ending) (w' : World) : Prop :=
  ∃ (S1 : Option Addr) (sn sc : Nat) (S2 : Option Addr) (sm sd : Nat) (hs : List AH) (ats : List AD) (cs : List ByteArray) (Z : Option Addr) (z cz : Nat) (zs : List Int), e = .returned (.tuple #[.agg #[.slice S1 sn sc, .slice S2 sm sd], .slice Z z cz]) ∧ SchF (fun j => w.heap.size ≤ j) w' S1 S2 sn sm sd hs ats cs ∧ z ≤ 18 ∧ Rdf (fun j => w.heap.size ≤ j) w' Z z (zs.map (Value.int .i64)) ∧ Below w.heap.size w w'
set_option maxRecDepth 20000 in
set_option maxHeartbeats 8000000 in
theorem sDrawAttrsOk_any (A : Option Addr) (n c : Nat) (bs : List Int) (w : World) (h : Rd w A n (bs.map (Value.int .u8))) (hu : ∀ z ∈ bs, 0 ≤ z ∧ z ≤ 255) (hn : n ≤ 1073741824) :
    Calls Tryd.prog 29 #[.slice A n c] w (DrawAttrsOkR w) := by
  have HR := Lib.hid h
  have HU := Lib.hid hu
  clear h hu
  have B0 := Below.refl w.heap.size w
  have s0 : w.heap.size ≤ w.heap.size := Nat.le_refl _
  go_enter Tryd.func29, Tryd.ntmps29
  have rs_2 : Bx (w.alloc (.cells #[.slice none 0 0, .slice none 0 0] 32)) (w.heap.size) 32 #[.slice none 0 0, .slice none 0 0] := Bx.new _ _ _
  have B_2 := B0.alloc s0 (.cells #[.slice none 0 0, .slice none 0 0] 32)
  clear B0
  have crs_3 := rs_2.cells
  have frs_3 := rs_2.free
  go_wp2_with fail
  clear crs_3 frs_3
  obtain ⟨v4, hv4⟩ : ∃ v4, v4 = (w.alloc (.cells #[.slice none 0 0, .slice none 0 0] 32)) := ⟨_, rfl⟩
  have zv4 : w.heap.size + 1 ≤ v4.heap.size := by rw [hv4]; simp
  rw [← hv4] at rs_2 B_2 ⊢
  clear hv4
  have Hrs0 := Lib.hid rs_2
  have HB0 := Lib.hid B_2
  have HR0 := Lib.hid (HR.out.below B_2 (Nat.le_refl _))
  clear rs_2 B_2
  refine (l1New_any A n c bs _ HR0.out HU.out hn).mono ?_
  rintro e v0 ⟨g, rfl, hg, hc, hb⟩
  have s0_ := hb.size
  have K0 := Keeps.below (P := fun j => True) hb (Nat.le_refl _)
  have Hrs1 := Lib.hid (Hrs0.out.keep K0 trivial)
  have HB1 := Lib.hid (HB0.out.trans (hb.mono (by omega)))
  have HC1 := Lib.hid hc
  have hgw := hc.lt
  have hg2 : w.heap.size + 1 ≤ g := by omega
  clear hb hc K0 HB0 HR0 Hrs0
  go_wp2_with fail
  refine (l5Draw_any g A n c bs _ HU.out hn HC1.out).mono ?_
  rintro e x1 ⟨S1, sn, sc, S2, sm, sd, hs, ats, cs, rfl, hrd, hc1, ho1⟩
  have sx1 := ho1.size
  have Kx := keeps_cur ho1
  have Hrs1x := Lib.hid (Hrs1.out.keep Kx (by omega))
  obtain ⟨BS, hBS⟩ : ∃ BS, BS = x1.heap.size := ⟨_, rfl⟩
  obtain ⟨y1, hy1⟩ : ∃ y1, y1 = x1.alloc (.cells #[.slice S1 sn sc, .slice S2 sm sd] 32) := ⟨_, rfl⟩
  have Ky : Keeps (fun j => True) x1 y1 := by rw [hy1]; exact Keeps.alloc _
  have zy1 : y1.heap.size = BS + 1 := by rw [hy1, World.size_alloc, hBS]
  have Hrs2 := Lib.hid (Hrs1x.out.keep Ky trivial)
  have Hs2 := Lib.hid ((hrd.keep (Ky.mono (fun _ _ => trivial))).mono (Q := (fun j => v0.heap.size ≤ j)) (fun j hj _ => hj))
  have HBS2 : Hid (Bx y1 BS 32 #[.slice S1 sn sc, .slice S2 sm sd]) := by rw [hy1, hBS]; exact Bx.new _ _ _
  have HC2 : Hid (Cur y1 g A n c bs) := by rw [hy1]; exact hc1.below (below_alloc1 _) (Nat.le_refl _)
  have HB2 : Hid (Below w.heap.size w y1) := by rw [hy1]; exact (HB1.out.trans (ho1.below (by omega) (by omega))).alloc (by omega) _
  have HY := Lib.hid hy1; have HBO := Lib.hid hBS
  have lbBS : BS < y1.heap.size := by omega
  have lcBS : v0.heap.size ≤ BS := by omega
  have ldBS : x1.heap.size ≤ BS := by omega
  clear Hrs1 Hrs1x HC1 HB1 Kx Ky hc1 ho1 hy1 hBS zy1 hrd
  have HKe : Hid (∀ w' : World, Keeps (fun j => v0.heap.size ≤ j ∧ j ≠ g) y1 w' → w'.cell? ⟨BS, 0, none⟩ = some (.slice S1 sn sc) ∧ w'.cell? ⟨BS, 1, none⟩ = some (.slice S2 sm sd)) := fun w' hk => by
    have e1 := HBS2.out.keep hk (by omega)
    exact ⟨e1.cells 0, e1.cells 1⟩
  have HCd := Lib.hid (HC2.out.below2 (below_drew y1.heap.size y1) (by omega))
  go_upto_region 3 with fail
  rw [← HY.out, ← HBO.out]
  clear HY HBO
  skip
  refine wp_region_held_drew (S := fun w' => w'.cell? ⟨BS, 0, none⟩ = some (.slice S1 sn sc) ∧ w'.cell? ⟨BS, 1, none⟩ = some (.slice S2 sm sd)) (by kernel_rfl) (HKe.out _ Keeps.drew) ?_
  intro hS; (try dsimp only at hS)
  refine wpAnyH_take (i := 0) (v := ?v1x) rfl (by kernel_rfl) (by kernel_rfl) (by kernel_rfl) (fun _ _ _ h => h) (Or.inl ⟨by rfl, ?hy1x⟩) hS ?rest1x
  case hy1x => (intro w' hSw; (try dsimp only at hSw); go_simp; (try (with_reducible rfl)))
  (try simp only [Act.put, List.setIfInBounds_toArray, List.set_cons_zero, List.set_cons_succ, List.getElem_toArray, List.getElem_cons_succ, List.getElem_cons_zero])
  refine wpAnyH_take (i := 1) (v := ?v2x) rfl (by kernel_rfl) (by kernel_rfl) (by kernel_rfl) (fun _ _ _ h => h) (Or.inl ⟨by rfl, ?hy2x⟩) hS ?rest2x
  case hy2x => (intro w' hSw; (try dsimp only at hSw); go_simp; (try (with_reducible rfl)))
  (try simp only [Act.put, List.setIfInBounds_toArray, List.set_cons_zero, List.set_cons_succ, List.getElem_toArray, List.getElem_cons_succ, List.getElem_cons_zero])
  refine wpAnyH_take (i := 2) (v := ?v3x) rfl (by kernel_rfl) (by kernel_rfl) (by kernel_rfl) (fun _ _ _ h => h) (Or.inl ⟨by rfl, ?hy3x⟩) hS ?rest3x
  case hy3x => (intro w' hSw; (try dsimp only at hSw); go_simp; (try (with_reducible rfl)))
  (try simp only [Act.put, List.setIfInBounds_toArray, List.set_cons_zero, List.set_cons_succ, List.getElem_toArray, List.getElem_cons_succ, List.getElem_cons_zero])
  refine wpAnyH_ready (rs := [3]) (by kernel_rfl) (by simp) ?_
  refine AllReadyH.cons rfl (fun K hK => ?_) AllReadyH.nil
  (try dsimp only [List.getElem_toArray, List.getElem_cons_succ, List.getElem_cons_zero])
  (go_simp; (refine (l9Attrs_any g A n c bs _ HU.out hn HCd.out S1 S2 sn sc sm sd hs ats cs ((Hs2.out.mono (Q := (· ≠ g)) (fun j hj _ => by have hj2 : v0.heap.size ≤ j := hj; omega)).keep Keeps.drew)).mono ?_); rintro e q3 ⟨Z, z, cz, zs, rfl, hz18, hown, hcq, hoq⟩; dsimp only)
  have hO3 : Only g (g + 1) y1 q3 := (Only.of_below (below_drew y1.heap.size y1) (Nat.le_refl _)).trans hoq
  have hz3 := hO3.size
  have K3 := Lib.hid (keeps_cur hO3)
  have Hrsq := Lib.hid (Hrs2.out.keep K3.out (by omega))
  have HBSq := Lib.hid (HBS2.out.keep K3.out (by omega))
  have Hsq := Lib.hid (Hs2.out.keep (K3.out.mono (fun j hj => by have hj2 : v0.heap.size ≤ j := hj; omega)))
  have HBq : Hid (Below w.heap.size w q3) := HB2.out.trans (hO3.below (by omega) (by omega))
  have Heq := Lib.hid (Rdf.of_own (P := (fun j => v0.heap.size ≤ j)) hown (fun j hj _ _ => by have hj2 : _ ≤ j := hj; simp only [World.size_drew] at hj2; omega))
  clear hown
  have krs0 : q3.cell? ⟨w.heap.size, 0, none⟩ = some (.slice none 0 0) := Hrsq.out.cells 0
  have frs0 : q3.frozen? ⟨w.heap.size, 0, none⟩ = false := Hrsq.out.free 0
  have krs1 : q3.cell? ⟨w.heap.size, 1, none⟩ = some (.slice none 0 0) := Hrsq.out.cells 1
  have frs1 : q3.frozen? ⟨w.heap.size, 1, none⟩ = false := Hrsq.out.free 1
  refine hK.out _ _ (HKe.out _ ((K3.out.mono (fun j hj => hj.2)))) (fun hS9 => ?_)
  clear hK K hS; have hS := hS9; clear hS9; (try dsimp only at hS)
  (try simp only [Act.put, List.setIfInBounds_toArray, List.set_cons_zero, List.set_cons_succ, List.getElem_toArray, List.getElem_cons_succ, List.getElem_cons_zero])
  refine wpAnyH_ready (rs := [4]) (by kernel_rfl) (by simp) ?_
  refine AllReadyH.cons rfl (fun K hK => ?_) AllReadyH.nil
  (try dsimp only [List.getElem_toArray, List.getElem_cons_succ, List.getElem_cons_zero])
  go_simp
  refine hK.out _ _ (HKe.out _ ((((K3.out.mono (fun j hj => hj.2))).trans ((Keeps.set (by show ¬ (_ ≤ _ ∧ _); omega)).trans (Keeps.set (by show ¬ (_ ≤ _ ∧ _); omega)))))) (fun hS9 => ?_)
  clear hK K hS; have hS := hS9; clear hS9; (try dsimp only at hS)
  (try simp only [Act.put, List.setIfInBounds_toArray, List.set_cons_zero, List.set_cons_succ, List.getElem_toArray, List.getElem_cons_succ, List.getElem_cons_zero])
  refine wpAnyH_take (i := 5) (v := ?v4x) rfl (by kernel_rfl) (by kernel_rfl) (by kernel_rfl) (fun _ _ _ h => h) (Or.inl ⟨by rfl, ?hy4x⟩) hS ?rest4x
  case hy4x => (intro w' hSw; (try dsimp only at hSw); go_simp; (try (with_reducible rfl)))
  (try simp only [Act.put, List.setIfInBounds_toArray, List.set_cons_zero, List.set_cons_succ, List.getElem_toArray, List.getElem_cons_succ, List.getElem_cons_zero])
  refine wpAnyH_done (by kernel_rfl) ?_ _
  skip
  obtain ⟨w9, h9⟩ : ∃ w9, w9 = ((q3.setCell ⟨w.heap.size, 0, none⟩ (.slice S1 sn sc)).setCell ⟨w.heap.size, 1, none⟩ (.slice S2 sm sd)) := ⟨_, rfl⟩
  rw [← h9]
  have K9 : Keeps (fun j => v0.heap.size ≤ j) q3 w9 := by rw [h9]; exact ((Keeps.refl _ _).trans (Keeps.set (by show ¬ (_ ≤ _); omega))).trans (Keeps.set (by show ¬ (_ ≤ _); omega))
  have B9 : Below w.heap.size q3 w9 := by rw [h9]; exact ((Below.refl w.heap.size q3).setCell (p := ⟨w.heap.size, 0, none⟩) (show w.heap.size ≤ w.heap.size by omega) _).setCell (p := ⟨w.heap.size, 1, none⟩) (show w.heap.size ≤ w.heap.size by omega) _
  have xrs : Bx w9 (w.heap.size) 32 #[.slice S1 sn sc, .slice S2 sm sd] := by rw [h9]; exact ((Hrsq.out.set_ 0 (.slice S1 sn sc)).set_ 1 (.slice S2 sm sd))
  have zrs0 : w9.cell? ⟨w.heap.size, 0, none⟩ = some (.slice S1 sn sc) := xrs.cells 0
  have zfrs0 := xrs.free 0
  have zrs1 : w9.cell? ⟨w.heap.size, 1, none⟩ = some (.slice S2 sm sd) := xrs.cells 1
  have zfrs1 := xrs.free 1
  have HP1 := Lib.hid ((Hsq.out.keep K9).mono (Q := fun j => w.heap.size ≤ j) (fun j hj _ => by have hj2 : v0.heap.size ≤ j := hj; omega))
  have HP3 := Lib.hid ((Heq.out.keep K9).mono (Q := fun j => w.heap.size ≤ j) (fun j hj _ => by have hj2 : v0.heap.size ≤ j := hj; omega))
  have HP4 := Lib.hid (HBq.out.trans B9)
  clear h9 K9 B9 xrs
  go_wp2_with ((with_reducible refine bodyPost_ret (v := .tuple #[.agg #[.slice S1 sn sc, .slice S2 sm sd], .slice Z z cz]) ?k1 ?k2 ?k3); (case k1 => (simp [results, Tryd.results29, go_sem, zrs0, zfrs0, zrs1, zfrs1])); (case k2 => rfl); (case k3 => (exact ⟨S1, sn, sc, S2, sm, sd, hs, ats, cs, Z, z, cz, zs, rfl, HP1.out, hz18, HP3.out, HP4.out⟩)))

/-- What DrawCandidates may answer. -/
def DrawCandR (w : World) (e : Ending) (w' : World) : Prop :=
  ∃ (S1 : Option Addr) (sn sc : Nat) (S2 : Option Addr) (sm sd : Nat) (hs : List AH) (ats : List AD) (cs : List ByteArray) (Z : Option Addr) (z cz : Nat) (zs : List Int) (two : Bool), e = .returned (.tuple #[.agg #[.slice S1 sn sc, .slice S2 sm sd], .slice Z z cz, .bool two]) ∧ SchF (fun j => w.heap.size ≤ j) w' S1 S2 sn sm sd hs ats cs ∧ z ≤ 18 ∧ Rdf (fun j => w.heap.size ≤ j) w' Z z (zs.map (Value.int .i64)) ∧ Below w.heap.size w w'
set_option maxRecDepth 20000 in
set_option maxHeartbeats 8000000 in
theorem sDrawCandidates_any (A : Option Addr) (n c : Nat) (bs : List Int) (w : World) (h : Rd w A n (bs.map (Value.int .u8))) (hu : ∀ z ∈ bs, 0 ≤ z ∧ z ≤ 255) (hn : n ≤ 1073741824) :
    Calls Tryd.prog 12 #[.slice A n c] w (DrawCandR w) := by
  have HR := Lib.hid h
  have HU := Lib.hid hu
  clear h hu
  have B0 := Below.refl w.heap.size w
  have s0 : w.heap.size ≤ w.heap.size := Nat.le_refl _
  go_enter Tryd.func12, Tryd.ntmps12
  have rs_2 : Bx (w.alloc (.cells #[.slice none 0 0, .slice none 0 0] 32)) (w.heap.size) 32 #[.slice none 0 0, .slice none 0 0] := Bx.new _ _ _
  have B_2 := B0.alloc s0 (.cells #[.slice none 0 0, .slice none 0 0] 32)
  clear B0
  have crs_3 := rs_2.cells
  have frs_3 := rs_2.free
  go_wp2_with fail
  clear crs_3 frs_3
  obtain ⟨v4, hv4⟩ : ∃ v4, v4 = (w.alloc (.cells #[.slice none 0 0, .slice none 0 0] 32)) := ⟨_, rfl⟩
  have zv4 : w.heap.size + 1 ≤ v4.heap.size := by rw [hv4]; simp
  rw [← hv4] at rs_2 B_2 ⊢
  clear hv4
  have Hrs_ := Lib.hid rs_2; have HB_ := Lib.hid B_2
  have HRv := Lib.hid (HR.out.below B_2 (Nat.le_refl _))
  have hzv := B_2.size
  have hlr := rs_2.lt
  clear rs_2 B_2
  refine (sDrawAttrsOk_any A n c bs _ HRv.out HU.out hn).mono ?_
  rintro e x1 ⟨S1, sn, sc, S2, sm, sd, hs, ats, cs, Z, z, cz, zs, rfl, hsf, hz18, hzf, hb⟩
  have hs1 := hb.size
  obtain ⟨BS, hBS⟩ : ∃ BS, BS = x1.heap.size := ⟨_, rfl⟩
  obtain ⟨u, hu_⟩ : ∃ u, u = x1.alloc (.cells #[.slice S1 sn sc, .slice S2 sm sd] 32) := ⟨_, rfl⟩
  have Ky : Keeps (fun j => True) x1 u := by rw [hu_]; exact Keeps.alloc _
  have Kx : Keeps (fun j => True) v4 x1 := Keeps.below hb (Nat.le_refl _)
  have hus : u.heap.size = BS + 1 := by rw [hu_, World.size_alloc, hBS]
  have HBSx : Hid (Bx u BS 32 #[.slice S1 sn sc, .slice S2 sm sd]) := by rw [hu_, hBS]; exact Bx.new _ _ _
  have Hrs0 : Hid (Bx u w.heap.size 32 #[.slice none 0 0, .slice none 0 0]) := (Hrs_.out.keep Kx trivial).keep Ky trivial
  have HBu : Hid (Below w.heap.size w u) := by rw [hu_]; exact (HB_.out.trans (hb.mono (by omega))).alloc (by omega) _
  have HRd : Hid (Rd u.drew A n (bs.map (Value.int .u8))) := (HR.out.below (HBu.out.drew) (Nat.le_refl _))
  have Hs0 : Hid (SchF (fun j => w.heap.size ≤ j) u S1 S2 sn sm sd hs ats cs) := (hsf.keep (Ky.mono (fun _ _ => trivial))).mono (fun j hj _ => by have hj2 : v4.heap.size ≤ j := hj; omega)
  have Hz0 : Hid (Rdf (fun j => w.heap.size + 1 ≤ j) u Z z (zs.map (Value.int .i64))) := (hzf.keep (Ky.mono (fun _ _ => trivial))).mono (fun j hj _ => by have hj2 : v4.heap.size ≤ j := hj; omega)
  have Hs1 : Hid (SchF (fun j => w.heap.size + 1 ≤ j) u S1 S2 sn sm sd hs ats cs) := (hsf.keep (Ky.mono (fun _ _ => trivial))).mono (fun j hj _ => by have hj2 : v4.heap.size ≤ j := hj; omega)
  have HKe : Hid (∀ w' : World, Keeps (fun j => j < u.heap.size) u w' → w'.cell? ⟨BS, 0, none⟩ = some (.slice S1 sn sc) ∧ w'.cell? ⟨BS, 1, none⟩ = some (.slice S2 sm sd)) := fun w' hk => by
    have e1 := HBSx.out.keep hk (by omega)
    exact ⟨e1.cells 0, e1.cells 1⟩
  have HUu := Lib.hid hu_; have HBB := Lib.hid hBS
  have hb2 : w.heap.size < u.heap.size := by omega
  have hBl : BS < u.heap.size := by omega
  have hBw : w.heap.size < BS := by omega
  clear hsf hzf hb Ky Kx hu_ hBS hus Hrs_ HB_ HRv
  go_upto_region 2 with fail
  rw [← HUu.out, ← HBB.out]
  clear HUu HBB
  skip
  refine wp_region_held_drew (S := fun w' => w'.cell? ⟨BS, 0, none⟩ = some (.slice S1 sn sc) ∧ w'.cell? ⟨BS, 1, none⟩ = some (.slice S2 sm sd)) (by kernel_rfl) (HKe.out _ Keeps.drew) ?_
  intro hS; (try dsimp only at hS)
  refine wpAnyH_take (i := 0) (v := ?v5x) rfl (by kernel_rfl) (by kernel_rfl) (by kernel_rfl) (fun _ _ _ h => h) (Or.inl ⟨by rfl, ?hy5x⟩) hS ?rest5x
  case hy5x => (intro w' hSw; (try dsimp only at hSw); go_simp; (try (with_reducible rfl)))
  (try simp only [Act.put, List.setIfInBounds_toArray, List.set_cons_zero, List.set_cons_succ, List.getElem_toArray, List.getElem_cons_succ, List.getElem_cons_zero])
  refine wpAnyH_take (i := 1) (v := ?v6x) rfl (by kernel_rfl) (by kernel_rfl) (by kernel_rfl) (fun _ _ _ h => h) (Or.inl ⟨by rfl, ?hy6x⟩) hS ?rest6x
  case hy6x => (intro w' hSw; (try dsimp only at hSw); go_simp; (try (with_reducible rfl)))
  (try simp only [Act.put, List.setIfInBounds_toArray, List.set_cons_zero, List.set_cons_succ, List.getElem_toArray, List.getElem_cons_succ, List.getElem_cons_zero])
  refine wpAnyH_take (i := 2) (v := ?v7x) rfl (by kernel_rfl) (by kernel_rfl) (by kernel_rfl) (fun _ _ _ h => h) (Or.inl ⟨by rfl, ?hy7x⟩) hS ?rest7x
  case hy7x => (intro w' hSw; (try dsimp only at hSw); go_simp; (try (with_reducible rfl)))
  (try simp only [Act.put, List.setIfInBounds_toArray, List.set_cons_zero, List.set_cons_succ, List.getElem_toArray, List.getElem_cons_succ, List.getElem_cons_zero])
  refine wpAnyH_ready (rs := [3]) (by kernel_rfl) (by simp) ?_
  refine AllReadyH.cons rfl (fun K hK => ?_) AllReadyH.nil
  (try dsimp only [List.getElem_toArray, List.getElem_cons_succ, List.getElem_cons_zero])
  (go_simp; (refine (l1New_any A n c bs _ HRd.out HU.out hn).mono ?_); rintro e q3 ⟨g, rfl, hg, hcq, hbq⟩; dsimp only)
  have hB3 : Below u.heap.size u q3 := (below_drew u.heap.size u).trans (hbq.mono (Nat.le_refl _))
  have hz3 := hB3.size
  have K3 : Hid (Keeps (fun j => j < u.heap.size) u q3) := Keeps.below hB3 (Nat.le_refl _)
  have hgl : u.heap.size ≤ g := by first | omega | (simp only [World.size_drew] at hg; omega)
  have HCq := Lib.hid hcq
  clear hcq hbq
  refine hK.out _ _ (HKe.out _ K3.out) (fun hS9 => ?_)
  clear hK K hS; have hS := hS9; clear hS9; (try dsimp only at hS)
  (try simp only [Act.put, List.setIfInBounds_toArray, List.set_cons_zero, List.set_cons_succ, List.getElem_toArray, List.getElem_cons_succ, List.getElem_cons_zero])
  refine wpAnyH_ready (rs := [4]) (by kernel_rfl) (by simp) ?_
  refine AllReadyH.cons rfl (fun K hK => ?_) AllReadyH.nil
  (try dsimp only [List.getElem_toArray, List.getElem_cons_succ, List.getElem_cons_zero])
  (go_simp; (refine (l1Once_any g A n c bs 2 _ HU.out hn HCq.out).mono ?_); rintro e q4 ⟨two, rfl, hcq, hoq⟩; dsimp only)
  have hz4 := hoq.size
  have K4 := Lib.hid (K3.out.trans (Keeps.only (P := fun j => j < u.heap.size) hoq (fun j hj => by omega)))
  have HB4 : Hid (Below u.heap.size u q4) := hB3.trans (hoq.below (by omega) (by omega))
  have Hrs4 := Lib.hid (Hrs0.out.keep K4.out (by omega))
  have kr0 := Hrs4.out.cells 0; have kr1 := Hrs4.out.cells 1
  have fr0 : q4.frozen? ⟨w.heap.size, 0, none⟩ = false := Hrs4.out.free 0; have fr1 : q4.frozen? ⟨w.heap.size, 1, none⟩ = false := Hrs4.out.free 1
  simp at kr0 kr1
  clear hcq hoq
  refine hK.out _ _ (HKe.out _ K4.out) (fun hS9 => ?_)
  clear hK K hS; have hS := hS9; clear hS9; (try dsimp only at hS)
  (try simp only [Act.put, List.setIfInBounds_toArray, List.set_cons_zero, List.set_cons_succ, List.getElem_toArray, List.getElem_cons_succ, List.getElem_cons_zero])
  refine wpAnyH_ready (rs := [5]) (by kernel_rfl) (by simp) ?_
  refine AllReadyH.cons rfl (fun K hK => ?_) AllReadyH.nil
  (try dsimp only [List.getElem_toArray, List.getElem_cons_succ, List.getElem_cons_zero])
  go_simp
  have HKe9 : Hid (((q4.setCell ⟨w.heap.size, 0, none⟩ (.slice S1 sn sc)).setCell ⟨w.heap.size, 1, none⟩ (.slice S2 sm sd)).cell? ⟨BS, 0, none⟩ = some (.slice S1 sn sc) ∧ ((q4.setCell ⟨w.heap.size, 0, none⟩ (.slice S1 sn sc)).setCell ⟨w.heap.size, 1, none⟩ (.slice S2 sm sd)).cell? ⟨BS, 1, none⟩ = some (.slice S2 sm sd)) := by
    have e1 := ((HBSx.out.keep K4.out (by omega)).keep (Keeps.set (P := fun j => j ≠ w.heap.size) (b := w.heap.size) (i := 0) (u := .slice S1 sn sc) (by simp)) (by omega)).keep (Keeps.set (P := fun j => j ≠ w.heap.size) (b := w.heap.size) (i := 1) (u := .slice S2 sm sd) (by simp)) (by omega)
    exact ⟨e1.cells 0, e1.cells 1⟩
  refine hK.out _ _ (HKe9.out) (fun hS9 => ?_)
  clear hK K hS; have hS := hS9; clear hS9; (try dsimp only at hS)
  (try simp only [Act.put, List.setIfInBounds_toArray, List.set_cons_zero, List.set_cons_succ, List.getElem_toArray, List.getElem_cons_succ, List.getElem_cons_zero])
  refine wpAnyH_take (i := 6) (v := ?v8x) rfl (by kernel_rfl) (by kernel_rfl) (by kernel_rfl) (fun _ _ _ h => h) (Or.inl ⟨by rfl, ?hy8x⟩) hS ?rest8x
  case hy8x => (intro w' hSw; (try dsimp only at hSw); go_simp; (try (with_reducible rfl)))
  (try simp only [Act.put, List.setIfInBounds_toArray, List.set_cons_zero, List.set_cons_succ, List.getElem_toArray, List.getElem_cons_succ, List.getElem_cons_zero])
  refine wpAnyH_take (i := 7) (v := ?v9x) rfl (by kernel_rfl) (by kernel_rfl) (by kernel_rfl) (fun _ _ _ h => h) (Or.inl ⟨by rfl, ?hy9x⟩) hS ?rest9x
  case hy9x => (intro w' hSw; (try dsimp only at hSw); go_simp; (try (with_reducible rfl)))
  (try simp only [Act.put, List.setIfInBounds_toArray, List.set_cons_zero, List.set_cons_succ, List.getElem_toArray, List.getElem_cons_succ, List.getElem_cons_zero])
  refine wpAnyH_done (by kernel_rfl) ?_ _
  skip
  obtain ⟨w9, h9⟩ : ∃ w9, w9 = ((q4.setCell ⟨w.heap.size, 0, none⟩ (.slice S1 sn sc)).setCell ⟨w.heap.size, 1, none⟩ (.slice S2 sm sd)) := ⟨_, rfl⟩
  rw [← h9]
  have B9 : Below w.heap.size w w9 := by rw [h9]; exact ((HBu.out.trans (HB4.out.mono (by omega))).setCell (p := ⟨w.heap.size, 0, none⟩) (Nat.le_refl _) _).setCell (p := ⟨w.heap.size, 1, none⟩) (Nat.le_refl _) _
  have K9 : Keeps (fun j => w.heap.size + 1 ≤ j) q4 w9 := by rw [h9]; exact (Keeps.set (by show ¬ (_ ≤ _); omega)).trans (Keeps.set (by show ¬ (_ ≤ _); omega))
  have KB : Keeps (fun j => True) u q4 := Keeps.below HB4.out (Nat.le_refl _)
  have HP1 : Hid (SchF (fun j => w.heap.size ≤ j) w9 S1 S2 sn sm sd hs ats cs) := ((Hs1.out.keep (KB.mono (fun _ _ => trivial))).keep K9).mono (fun j hj _ => by have hj2 : w.heap.size + 1 ≤ j := hj; omega)
  have HP2 : Hid (Rdf (fun j => w.heap.size ≤ j) w9 Z z (zs.map (Value.int .i64))) := ((Hz0.out.keep (KB.mono (fun _ _ => trivial))).keep K9).mono (fun j hj _ => by have hj2 : w.heap.size + 1 ≤ j := hj; omega)
  have HP4 := Lib.hid B9
  have xrs : Bx w9 w.heap.size 32 #[.slice S1 sn sc, .slice S2 sm sd] := by rw [h9]; exact (Hrs4.out.set_ 0 (.slice S1 sn sc)).set_ 1 (.slice S2 sm sd)
  have z0 : w9.cell? ⟨w.heap.size, 0, none⟩ = some (.slice S1 sn sc) := xrs.cells 0
  have z1 : w9.cell? ⟨w.heap.size, 1, none⟩ = some (.slice S2 sm sd) := xrs.cells 1
  have zf0 := xrs.free 0; have zf1 := xrs.free 1
  clear h9 xrs K9 KB B9
  go_wp2_with ((with_reducible refine bodyPost_ret (v := .tuple #[.agg #[.slice S1 sn sc, .slice S2 sm sd], .slice Z z cz, .bool two]) ?k1 ?k2 ?k3); (case k1 => (simp [results, Tryd.results12, go_sem, z0, z1, zf0, zf1])); (case k2 => rfl); (case k3 => (exact ⟨S1, sn, sc, S2, sm, sd, hs, ats, cs, Z, z, cz, zs, two, rfl, HP1.out, hz18, HP2.out, HP4.out⟩)))

end Go.Proofs.YtchkmcikpamdeaaDoor
