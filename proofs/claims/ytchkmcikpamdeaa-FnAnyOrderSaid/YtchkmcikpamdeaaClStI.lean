/-
  cloneStats of impl: a copy of totals and cells.
-/
import Derived.Test.YtchkmcikpamdeaaLast
import Derived.Test.YtchkmcikpamdeaaLists
import Derived.Test.YtchkmcikpamdeaaStatW
import Derived.Deep.RegionHeld3
import Derived.Deep.DeepCutAuto
import Derived.BigQuiet
namespace Go.Proofs.Ytchkmcikpamdeaa
open Go.RowKit
set_option linter.unusedSimpArgs false
set_option linter.unusedVariables false

set_option maxRecDepth 20000 in
set_option maxHeartbeats 4000000 in
theorem iCloneStats_any (A C : Option Addr) (n c m d : Nat) (gs : List Hd) (ts : List Int) (xss : List (List Int)) (w : World) (r : Sta w A C n m gs ts xss) :
    Calls Try.prog 54 #[.agg #[.slice A n c, .slice C m d]] w fun e w' => ∃ A' c' C' d' mid hs', e = .returned (.agg #[.slice A' n c', .slice C' m d']) ∧ OwSta w.heap.size w'.heap.size w' A' C' n c' m d' mid hs' ts xss ∧ Below w.heap.size w w' := by
  have H := Lib.hid r
  have hn0 : n ≤ 1073741824 := Nat.le_trans r.hq (by decide)
  have hm0 := r.hp; have hb0 := r.hb
  clear r
  have B0 := Below.refl w.heap.size w
  have s0 : w.heap.size ≤ w.heap.size := Nat.le_refl _
  go_enter Try.func54, Try.ntmps54
  have p_2 : Bx (w.alloc (.cells #[.slice A n c, .slice C m d] 35)) (w.heap.size) 35 #[.slice A n c, .slice C m d] := Bx.new _ _ _
  have B_2 := B0.alloc s0 (.cells #[.slice A n c, .slice C m d] 35)
  clear B0
  have cp_3 := p_2.cells
  have fp_3 := p_2.free
  clear cp_3 fp_3
  have p_4 := p_2.same (same_alloc (.cells #[.slice none 0 0, .slice none 0 0] 35) (by simp only [World.size_alloc]; omega))
  clear p_2
  have r_5 : Bx ((w.alloc (.cells #[.slice A n c, .slice C m d] 35)).alloc (.cells #[.slice none 0 0, .slice none 0 0] 35)) (w.heap.size + 1) 35 #[.slice none 0 0, .slice none 0 0] := by
    have h := Bx.new (w.alloc (.cells #[.slice A n c, .slice C m d] 35)) 35 #[.slice none 0 0, .slice none 0 0]
    simpa only [World.size_alloc] using h
  have B_5 := B_2.alloc (by simp only [World.size_alloc]; omega) (.cells #[.slice none 0 0, .slice none 0 0] 35)
  clear B_2
  have cp_6 := p_4.cells
  have fp_6 := p_4.free
  have cr_7 := r_5.cells
  have fr_7 := r_5.free
  go_wp2_with fail
  clear cp_6 fp_6
  clear cr_7 fr_7
  obtain ⟨v8, hv8⟩ : ∃ v8, v8 = ((w.alloc (.cells #[.slice A n c, .slice C m d] 35)).alloc (.cells #[.slice none 0 0, .slice none 0 0] 35)) := ⟨_, rfl⟩
  have zv8 : w.heap.size + 1 + 1 ≤ v8.heap.size := by rw [hv8]; simp
  rw [← hv8] at p_4 r_5 B_5 ⊢
  clear hv8
  have HAc := Lib.hid B_5; have HP := Lib.hid p_4; have HR := Lib.hid r_5; have lp := p_4.lt; have lr := r_5.lt
  have H1 := Lib.hid (H.out.below HAc.out.drew (Nat.le_refl _))
  have HKe : Hid (∀ w' : World, Below (w.heap.size + 1 + 1) v8 w' → w'.cell? ⟨w.heap.size, 0, none⟩ = some (.slice A n c) ∧ w'.cell? ⟨w.heap.size, 1, none⟩ = some (.slice C m d)) := fun w' hb => ⟨(hb.cell (p := ⟨w.heap.size, 0, none⟩) (show w.heap.size < (w.heap.size + 1 + 1) by omega)).trans (HP.out.cells 0), (hb.cell (p := ⟨w.heap.size, 1, none⟩) (show w.heap.size < (w.heap.size + 1 + 1) by omega)).trans (HP.out.cells 1)⟩
  have hdr : Below (w.heap.size + 1 + 1) v8 v8.drew := (Below.refl _ _).drew
  clear B_5 p_4 r_5
  refine wp_region_last (n := 7) (S := fun w' => w'.cell? ⟨w.heap.size, 0, none⟩ = some (.slice A n c) ∧ w'.cell? ⟨w.heap.size, 1, none⟩ = some (.slice C m d)) (by kernel_rfl) rfl (by kernel_rfl) (HKe.out _ hdr) ?_
  intro hS; (try dsimp only at hS)
  simp only [List.take_succ_cons, List.take_zero, List.getElem_toArray, List.getElem_cons_succ, List.getElem_cons_zero]
  refine wpAnyH_take (i := 0) (v := ?v1x) rfl (by kernel_rfl) (by kernel_rfl) (by kernel_rfl) (fun _ _ _ h => h) (Or.inl ⟨by rfl, ?hy1x⟩) hS ?rest1x
  case hy1x => (intro w' hSw; (try dsimp only at hSw); go_simp; (try (with_reducible rfl)))
  (try simp only [Act.put, List.setIfInBounds_toArray, List.set_cons_zero, List.set_cons_succ, List.getElem_toArray, List.getElem_cons_succ, List.getElem_cons_zero])
  refine wpAnyH_take (i := 1) (v := ?v2x) rfl (by kernel_rfl) (by kernel_rfl) (by kernel_rfl) (fun _ _ _ h => h) (Or.inl ⟨by rfl, ?hy2x⟩) hS ?rest2x
  case hy2x => (intro w' hSw; (try dsimp only at hSw); go_simp; (try (with_reducible rfl)))
  (try simp only [Act.put, List.setIfInBounds_toArray, List.set_cons_zero, List.set_cons_succ, List.getElem_toArray, List.getElem_cons_succ, List.getElem_cons_zero])
  refine wpAnyH_take (i := 3) (v := ?v3x) rfl (by kernel_rfl) (by kernel_rfl) (by kernel_rfl) (fun _ _ _ h => h) (Or.inl ⟨by rfl, ?hy3x⟩) hS ?rest3x
  case hy3x => (intro w' hSw; (try dsimp only at hSw); go_simp; (try (with_reducible rfl)))
  (try simp only [Act.put, List.setIfInBounds_toArray, List.set_cons_zero, List.set_cons_succ, List.getElem_toArray, List.getElem_cons_succ, List.getElem_cons_zero])
  refine wpAnyH_take (i := 4) (v := ?v4x) rfl (by kernel_rfl) (by kernel_rfl) (by kernel_rfl) (fun _ _ _ h => h) (Or.inl ⟨by rfl, ?hy4x⟩) hS ?rest4x
  case hy4x => (intro w' hSw; (try dsimp only at hSw); go_simp; (try (with_reducible rfl)))
  (try simp only [Act.put, List.setIfInBounds_toArray, List.set_cons_zero, List.set_cons_succ, List.getElem_toArray, List.getElem_cons_succ, List.getElem_cons_zero])
  refine wpAnyH_ready (rs := [2]) (by kernel_rfl) (by simp) ?_
  refine AllReadyH.cons rfl (fun K hK => ?_) AllReadyH.nil
  (try dsimp only [List.getElem_toArray, List.getElem_cons_succ, List.getElem_cons_zero])
  (go_simp; (refine (cloneI_any A n c (ts.map (Value.int .i64)) _ H1.out.tot hn0 (i64_one ts)).mono ?_); rintro e u1 ⟨A1, c1, rfl, o1, b1⟩; dsimp only)
  have hbx1 : Below (w.heap.size + 1 + 1) v8 u1 := hdr.trans (b1.mono (by simp only [World.size_drew]; omega))
  have hz1 := b1.size
  have HO1 : Hid (Ow 3 (w.heap.size + 1 + 1) u1.heap.size u1 A1 n c1 (ts.map (Value.int .i64))) := (Ow.of_new o1).wide (by simp only [World.size_drew]; omega) (Nat.le_refl _)
  have H2 := Lib.hid (H.out.below (HAc.out.trans (hbx1.mono (by omega))) (Nat.le_refl _))
  simp only [World.size_drew] at hz1
  clear o1
  refine hK.out _ _ (HKe.out _ hbx1) (fun hS9 => ?_)
  clear hK K hS; have hS := hS9; clear hS9; (try dsimp only at hS)
  (try simp only [Act.put, List.setIfInBounds_toArray, List.set_cons_zero, List.set_cons_succ, List.getElem_toArray, List.getElem_cons_succ, List.getElem_cons_zero])
  refine wpAnyH_ready (rs := [5]) (by kernel_rfl) (by simp) ?_
  refine AllReadyH.cons rfl (fun K hK => ?_) AllReadyH.nil
  (try dsimp only [List.getElem_toArray, List.getElem_cons_succ, List.getElem_cons_zero])
  (go_simp; (refine (iCloneLists_any C m d gs xss _ H2.out.cel hb0 hm0).mono ?_); rintro e u2 ⟨C1, d1, hs1, rfl, o2, b2⟩; dsimp only)
  have hbx2 : Below (w.heap.size + 1 + 1) v8 u2 := hbx1.trans (b2.mono (by omega))
  have hz2 := b2.size
  have HO2 := Lib.hid o2
  have HO3 := Lib.hid (HO1.out.same (same_below b2 (Nat.le_refl _)))
  clear o2
  have r0 : u2.cell? ⟨w.heap.size + 1, 0, none⟩ = some (.slice none 0 0) := (hbx2.cell (p := ⟨w.heap.size + 1, 0, none⟩) (show w.heap.size + 1 < (w.heap.size + 1 + 1) by omega)).trans (HR.out.cells 0)
  have r1 : u2.cell? ⟨w.heap.size + 1, 1, none⟩ = some (.slice none 0 0) := (hbx2.cell (p := ⟨w.heap.size + 1, 1, none⟩) (show w.heap.size + 1 < (w.heap.size + 1 + 1) by omega)).trans (HR.out.cells 1)
  have fr0 : u2.frozen? ⟨w.heap.size + 1, 0, none⟩ = false := (hbx2.frozen (p := ⟨w.heap.size + 1, 0, none⟩) (show w.heap.size + 1 < (w.heap.size + 1 + 1) by omega)).trans (HR.out.free 0)
  have fr1 : u2.frozen? ⟨w.heap.size + 1, 1, none⟩ = false := (hbx2.frozen (p := ⟨w.heap.size + 1, 1, none⟩) (show w.heap.size + 1 < (w.heap.size + 1 + 1) by omega)).trans (HR.out.free 1)
  refine hK.out _ _ (HKe.out _ hbx2) (fun hS9 => ?_)
  clear hK K hS; have hS := hS9; clear hS9; (try dsimp only at hS)
  (try simp only [Act.put, List.setIfInBounds_toArray, List.set_cons_zero, List.set_cons_succ, List.getElem_toArray, List.getElem_cons_succ, List.getElem_cons_zero])
  refine wpAnyH_take (i := 6) (v := ?v5x) rfl (by kernel_rfl) (by kernel_rfl) (by kernel_rfl) (fun _ _ _ h => h) (Or.inl ⟨by rfl, ?hy5x⟩) hS ?rest5x
  case hy5x => (intro w' hSw; (try dsimp only at hSw); go_simp; (try (with_reducible rfl)))
  (try simp only [Act.put, List.setIfInBounds_toArray, List.set_cons_zero, List.set_cons_succ, List.getElem_toArray, List.getElem_cons_succ, List.getElem_cons_zero])
  refine wpAnyH_done (by kernel_rfl) ?_ _
  refine fun K hK => ?_
  go_simp
  refine hK.out _ _ ?_
  clear hK K
  have HB2 := Lib.hid (HAc.out.trans (hbx2.mono (show w.heap.size ≤ (w.heap.size + 1 + 1) by omega)))
  clear hbx1 hbx2 b1 b2 hS hdr
  go_wp2_with fail
  refine bodyPost_ret (v := .agg #[.slice A1 n c1, .slice C1 m d1]) (by simp [results, Try.results54, go_sem, r0, r1]) rfl ⟨A1, c1, C1, d1, u1.heap.size, hs1, rfl, ⟨?_, ?_, ?_⟩, ?_⟩
  · exact (((HO3.out.same (same_set (by omega))).same (same_set (by omega))).wide (by omega) (Nat.le_refl _))
  · have h := (HO2.out.same (same_set (b := w.heap.size + 1) (off := 0) (u := .slice A1 n c1) (by omega))).same (same_set (b := w.heap.size + 1) (off := 1) (u := .slice C1 m d1) (by omega))
    simpa only [World.size_setCell] using h
  · exact ⟨by omega, by simpa only [World.size_setCell] using hz2⟩
  · have hB := HB2.out
    go_grown

end Go.Proofs.Ytchkmcikpamdeaa
