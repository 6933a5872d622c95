/-
  The second example of a law.
-/
import Derived.Test.YtchkmcikpamdeaaDrawN
import Derived.Test.YtchkmcikpamdeaaOpen
namespace Go.Proofs.Ytchkmcikpamdeaa
open Go.RowKit
set_option linter.unusedSimpArgs false
set_option linter.unusedVariables false
theorem getD_mem0 {l : List Int} {i : Nat} (h : i < l.length) : l.getD i 0 ∈ l := by simp [List.getD, h]
def at0V (xs : List Int) (j : Nat) : Int := if j < xs.length then xs.getD j 0 else ((j : Int) * 7 + (xs.length : Int)) % 256
theorem at0V_bd {xs : List Int} (hu : ∀ z ∈ xs, 0 ≤ z ∧ z ≤ 255) (j : Nat) : 0 ≤ at0V xs j ∧ at0V xs j ≤ 255 := by
  unfold at0V
  split
  · rename_i h
    have : xs.getD j 0 ∈ xs := getD_mem0 h
    exact hu _ this
  · omega
set_option maxHeartbeats 1000000 in
theorem at0_any (A : Option Addr) (n c : Nat) (xs : List Int) (j : Nat) (w : World) (h : Rd w A n (xs.map (Value.int .u8))) (hn : n ≤ 1048576) (hu : ∀ z ∈ xs, 0 ≤ z ∧ z ≤ 255) (hj : j ≤ 100) :
    Calls Try.prog 90 #[.slice A n c, .int .i64 j] w fun e w' => e = .returned (.int .i64 (at0V xs j)) ∧ w = w' := by
  have hl : xs.length = n := by simpa using h.len
  have H := Lib.hid h
  by_cases hlt : j < n
  · have HV : Hid (at0V xs j = xs.getD j 0) := by unfold Hid at0V; rw [if_pos (by omega)]
    have hb := hu _ (getD_mem0 (l := xs) (i := j) (by omega))
    obtain ⟨b, off, rfl, hbl, hc⟩ := H.out.ex (by omega)
    have hcell := hc j (.int .u8 (xs.getD j 0)) (by rw [List.getElem?_map, show xs[j]? = some (xs.getD j 0) from by simp [List.getD, List.getElem?_eq_getElem (show j < xs.length by omega)]]; rfl)
    obtain ⟨x, hx⟩ : ∃ x, xs.getD j 0 = x := ⟨_, rfl⟩
    rw [hx] at hb hcell
    have HX := Lib.hid hx
    have hwx : IntKind.i64.wrap x = x := IntWalk.i64_in _ (by omega)
    have j0 : (0 : Int) ≤ (j : Int) := Int.natCast_nonneg _
    clear h hu hx hc hl
    go_enter Try.func90, Try.ntmps90
    go_wp2
    go_ret
    exact ⟨by rw [HV.out, HX.out]; rfl, rfl⟩
  · have HV : Hid (at0V xs j = ((j : Int) * 7 + (n : Int)) % 256) := by unfold Hid at0V; rw [if_neg (by omega), hl]
    have j0 : (0 : Int) ≤ (j : Int) := Int.natCast_nonneg _
    have j1 : (j : Int) ≤ 100 := by omega
    have n0 : (n : Int) ≤ 1048576 := by omega
    clear h hu hl
    go_enter Try.func90, Try.ntmps90
    go_wp2
    go_ret
    exact ⟨by rw [HV.out]; rfl, rfl⟩
theorem at0_2 (A : Option Addr) (n c : Nat) (xs : List Int) (w : World) (h : Rd w A n (xs.map (Value.int .u8))) (hn : n ≤ 1048576) (hu : ∀ z ∈ xs, 0 ≤ z ∧ z ≤ 255) :
    Calls Try.prog 90 #[.slice A n c, .int .i64 2] w fun e w' => e = .returned (.int .i64 (at0V xs 2)) ∧ w = w' := at0_any A n c xs 2 w h hn hu (by omega)

set_option maxRecDepth 20000 in
set_option maxHeartbeats 4000000 in
theorem secondOf_any (A : Option Addr) (n c : Nat) (xs : List Int) (w : World) (h : Rd w A n (xs.map (Value.int .u8))) (hu : ∀ z ∈ xs, 0 ≤ z ∧ z ≤ 255) (hn : n ≤ 1048576) :
    Calls Try.prog 42 #[.slice A n c] w fun e w' => ∃ (E : Option Addr) (k_ c_ : Nat) (bl : List Int) (cl y : Int), e = .returned (.tuple #[.agg #[.slice E k_ c_, .int .i64 cl], .int .i64 y]) ∧ k_ ≤ 17 ∧ Rdf (fun j => w.heap.size ≤ j) w' E k_ (bl.map (Value.int .i64)) ∧ Below w.heap.size w w' := by
  have HR := Lib.hid h
  have HU := Lib.hid hu
  clear h hu
  have B0 := Below.refl w.heap.size w
  have s0 : w.heap.size ≤ w.heap.size := Nat.le_refl _
  go_enter Try.func42, Try.ntmps42
  have r_2 : Bx (w.alloc (.cells #[.slice none 0 0, .int .i64 0] 43)) (w.heap.size) 43 #[.slice none 0 0, .int .i64 0] := Bx.new _ _ _
  have B_2 := B0.alloc s0 (.cells #[.slice none 0 0, .int .i64 0] 43)
  clear B0
  have cr_3 := r_2.cells
  have fr_3 := r_2.free
  clear cr_3 fr_3
  have HB0 := Lib.hid B_2; have HRr0 := Lib.hid r_2
  have HR0 := Lib.hid (HR.out.below B_2 (Nat.le_refl _))
  clear B_2 r_2
  go_wp2_with fail
  refine (sDrawExOk_any A n c xs _ HR0.out HU.out (by omega)).mono ?_
  rintro e v2 ⟨S1, sn, sc, S2, sm, sd, hs, ats, cs, E, k_, c_, bl, cl, rfl, hsf, hk17, hef, b⟩
  have s2 := b.size
  simp only [World.size_alloc] at s2
  obtain ⟨u, hu⟩ : ∃ u, u = (v2.alloc (.cells #[.slice S1 sn sc, .slice S2 sm sd] 40)).alloc (.cells #[.slice E k_ c_, .int .i64 cl] 43) := ⟨_, rfl⟩
  have Ku : Keeps (fun j => True) v2 u := by rw [hu]; exact (Keeps.alloc _).trans (Keeps.alloc _)
  have HEb : Hid (Bx u (v2.heap.size + 1) 43 #[.slice E k_ c_, .int .i64 cl]) := by
    have h1 := Bx.new (v2.alloc (.cells #[.slice S1 sn sc, .slice S2 sm sd] 40)) 43 #[.slice E k_ c_, .int .i64 cl]
    rw [World.size_alloc] at h1
    unfold Hid; rw [hu]; exact h1
  have HBu : Hid (Below w.heap.size w u) := by
    rw [hu]
    exact ((HB0.out.trans (b.mono (by simp only [World.size_alloc]; omega))).alloc (by omega) _).alloc (by rw [World.size_alloc]; omega) _
  have HRu := Lib.hid ((HRr0.out.keep (Keeps.below (P := fun j => True) b (Nat.le_refl _)) trivial).keep Ku trivial)
  have HRd := Lib.hid (HR.out.below HBu.out (Nat.le_refl _))
  have HEf := Lib.hid ((hef.keep (Ku.mono (fun _ _ => trivial))).mono (Q := fun j => w.heap.size + 1 ≤ j) (fun j hj _ => by have hj2 : (World.alloc w _).heap.size ≤ j := hj; rw [World.size_alloc] at hj2; exact hj2))
  have HKe : Hid (∀ w' : World, Keeps (fun j => w.heap.size + 1 ≤ j) u w' → w'.cell? ⟨v2.heap.size + 1, 0, none⟩ = some (.slice E k_ c_) ∧ w'.cell? ⟨v2.heap.size + 1, 1, none⟩ = some (.int .i64 cl)) := fun w' hk => by
    have e1 := HEb.out.keep hk (by show _ ≤ _; omega)
    exact ⟨e1.cells 0, e1.cells 1⟩
  have HUU := Lib.hid hu
  have r0 : u.cell? ⟨w.heap.size, 0, none⟩ = some (.slice none 0 0) := HRu.out.cells 0
  have r1 : u.cell? ⟨w.heap.size, 1, none⟩ = some (.int .i64 0) := HRu.out.cells 1
  have rf0 := HRu.out.free 0; have rf1 := HRu.out.free 1
  have ab := at0V_bd HU.out 2
  obtain ⟨av, hav⟩ : ∃ av, at0V xs 2 = av := ⟨_, rfl⟩
  rw [hav] at ab
  clear hu Ku b hsf hef hav ab
  go_upto_region 2 with fail
  rw [← HUU.out]
  clear HUU
  refine wp_region_held_drew (S := fun w' => w'.cell? ⟨v2.heap.size + 1, 0, none⟩ = some (.slice E k_ c_) ∧ w'.cell? ⟨v2.heap.size + 1, 1, none⟩ = some (.int .i64 cl)) (by kernel_rfl) (HKe.out _ Keeps.drew) ?_
  intro hS; (try dsimp only at hS)
  refine wpAnyH_take (i := 0) (v := ?v1x) rfl (by kernel_rfl) (by kernel_rfl) (by kernel_rfl) (fun _ _ _ h => h) (Or.inl ⟨by rfl, ?hy1x⟩) hS ?rest1x
  case hy1x => (intro w' hSw; (try dsimp only at hSw); go_simp; (try (with_reducible rfl)))
  (try simp only [Act.put, List.setIfInBounds_toArray, List.set_cons_zero, List.set_cons_succ, List.getElem_toArray, List.getElem_cons_succ, List.getElem_cons_zero])
  refine wpAnyH_take (i := 1) (v := ?v2x) rfl (by kernel_rfl) (by kernel_rfl) (by kernel_rfl) (fun _ _ _ h => h) (Or.inl ⟨by rfl, ?hy2x⟩) hS ?rest2x
  case hy2x => (intro w' hSw; (try dsimp only at hSw); go_simp; (try (with_reducible rfl)))
  (try simp only [Act.put, List.setIfInBounds_toArray, List.set_cons_zero, List.set_cons_succ, List.getElem_toArray, List.getElem_cons_succ, List.getElem_cons_zero])
  refine wpAnyH_ready (rs := [2]) (by kernel_rfl) (by simp) ?_
  refine AllReadyH.cons rfl (fun K hK => ?_) AllReadyH.nil
  (try dsimp only [List.getElem_toArray, List.getElem_cons_succ, List.getElem_cons_zero])
  (go_simp; (refine (at0_2 A n c xs _ (HRd.out.below (below_drew u.heap.size u) (Nat.le_refl _)) (by omega) HU.out).mono ?_); rintro e _ ⟨rfl, rfl⟩; dsimp only)
  refine hK.out _ _ (HKe.out _ Keeps.drew) (fun hS9 => ?_)
  clear hK K hS; have hS := hS9; clear hS9; (try dsimp only at hS)
  (try simp only [Act.put, List.setIfInBounds_toArray, List.set_cons_zero, List.set_cons_succ, List.getElem_toArray, List.getElem_cons_succ, List.getElem_cons_zero])
  refine wpAnyH_take (i := 3) (v := ?v3x) rfl (by kernel_rfl) (by kernel_rfl) (by kernel_rfl) (fun _ _ _ h => h) (Or.inl ⟨by rfl, ?hy3x⟩) hS ?rest3x
  case hy3x => (intro w' hSw; (try dsimp only at hSw); go_simp; (try (with_reducible rfl)))
  (try simp only [Act.put, List.setIfInBounds_toArray, List.set_cons_zero, List.set_cons_succ, List.getElem_toArray, List.getElem_cons_succ, List.getElem_cons_zero])
  refine wpAnyH_ready (rs := [4]) (by kernel_rfl) (by simp) ?_
  refine AllReadyH.cons rfl (fun K hK => ?_) AllReadyH.nil
  (try dsimp only [List.getElem_toArray, List.getElem_cons_succ, List.getElem_cons_zero])
  go_simp
  refine hK.out _ _ (HKe.out _ (Keeps.trans Keeps.drew ((Keeps.set (by show ¬ (_ ≤ _); omega)).trans (Keeps.set (by show ¬ (_ ≤ _); omega))))) (fun hS9 => ?_)
  clear hK K hS; have hS := hS9; clear hS9; (try dsimp only at hS)
  (try simp only [Act.put, List.setIfInBounds_toArray, List.set_cons_zero, List.set_cons_succ, List.getElem_toArray, List.getElem_cons_succ, List.getElem_cons_zero])
  refine wpAnyH_take (i := 5) (v := ?v4x) rfl (by kernel_rfl) (by kernel_rfl) (by kernel_rfl) (fun _ _ _ h => h) (Or.inl ⟨by rfl, ?hy4x⟩) hS ?rest4x
  case hy4x => (intro w' hSw; (try dsimp only at hSw); go_simp; (try (with_reducible rfl)))
  (try simp only [Act.put, List.setIfInBounds_toArray, List.set_cons_zero, List.set_cons_succ, List.getElem_toArray, List.getElem_cons_succ, List.getElem_cons_zero])
  refine wpAnyH_done (by kernel_rfl) ?_ _
  obtain ⟨w9, h9⟩ : ∃ w9, w9 = ((u.setCell ⟨w.heap.size, 0, none⟩ (.slice E k_ c_)).setCell ⟨w.heap.size, 1, none⟩ (.int .i64 cl)).drew := ⟨_, rfl⟩
  rw [← h9]
  have K9 : Keeps (fun j => w.heap.size + 1 ≤ j) u w9 := by rw [h9]; exact ((Keeps.set (by show ¬ (_ ≤ _); omega)).trans (Keeps.set (by show ¬ (_ ≤ _); omega))).trans Keeps.drew
  have B9 : Below w.heap.size u w9 := by rw [h9]; exact (((Below.refl _ _).setCell (p := ⟨w.heap.size, 0, none⟩) (Nat.le_refl _) _).setCell (p := ⟨w.heap.size, 1, none⟩) (Nat.le_refl _) _).trans (below_drew _ _)
  have xr : Bx w9 w.heap.size 43 #[.slice E k_ c_, .int .i64 cl] := by rw [h9]; exact ((HRu.out.set_ 0 (.slice E k_ c_)).set_ 1 (.int .i64 cl)).keep (Keeps.drew (P := fun j => True)) trivial
  have z0 : w9.cell? ⟨w.heap.size, 0, none⟩ = some (.slice E k_ c_) := xr.cells 0
  have z1 : w9.cell? ⟨w.heap.size, 1, none⟩ = some (.int .i64 cl) := xr.cells 1
  have zf0 := xr.free 0; have zf1 := xr.free 1
  have HP := Lib.hid ((HEf.out.keep K9).mono (Q := fun j => w.heap.size ≤ j) (fun j hj _ => by have hj2 : w.heap.size + 1 ≤ j := hj; omega)); have HQ9 := Lib.hid (HBu.out.trans B9)
  clear h9 K9 B9 xr r0 r1 rf0 rf1
  go_wp2_with ((with_reducible refine bodyPost_ret (v := .tuple #[.agg #[.slice E k_ c_, .int .i64 cl], .int .i64 ((at0V xs 2).tmod 9)]) ?k1 ?k2 ?k3); (case k1 => (simp [results, Try.results42, go_sem, z0, z1, zf0, zf1])); (case k2 => rfl); (case k3 => (exact ⟨E, k_, c_, bl, cl, _, rfl, hk17, HP.out, HQ9.out⟩)))

end Go.Proofs.Ytchkmcikpamdeaa
