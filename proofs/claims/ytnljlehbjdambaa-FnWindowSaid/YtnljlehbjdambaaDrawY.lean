/-
  The draw of a window and a bit.
-/
import Derived.Test.YtnljlehbjdambaaDrawX
namespace Go.Proofs.Ytnljlehbjdambaa
open Go.RowKit
set_option linter.unusedSimpArgs false
set_option linter.unusedVariables false

set_option maxHeartbeats 1000000 in
theorem sDrawWindowAdd_any (A : Option Addr) (n c : Nat) (bs : List Int) (w : World) (h : Rd w A n (bs.map (Value.int .u8))) (hu : ∀ z ∈ bs, 0 ≤ z ∧ z ≤ 255) (hn : n ≤ 1073741824) :
    Calls Try.prog 29 #[.slice A n c] w fun e w' => ∃ (A' : Option Addr) (n' c' : Nat) (hs : List Hd) (xss : List (List Int)) (y : Int), e = .returned (.tuple #[.agg #[.slice A' n' c'], .int .i64 y]) ∧ n' ≤ 9 ∧ bdQ xss ∧ (-1 ≤ y ∧ y ≤ 2) ∧ OwSS w.heap.size w'.heap.size w' A' n' c' hs (iss xss) ∧ Below w.heap.size w w' := by
  have H := Lib.hid h
  have HU := Lib.hid hu
  clear h hu
  have B0 := Below.refl w.heap.size w
  have s0 : w.heap.size ≤ w.heap.size := Nat.le_refl _
  go_enter Try.func29, Try.ntmps29
  have r_2 : Bx (w.alloc (.cells #[.slice none 0 0] 26)) (w.heap.size) 26 #[.slice none 0 0] := Bx.new _ _ _
  have B_2 := B0.alloc s0 (.cells #[.slice none 0 0] 26)
  clear B0
  have cr_3 := r_2.cells
  have fr_3 := r_2.free
  clear cr_3 fr_3
  have HB0 := Lib.hid B_2; have HR0 := Lib.hid r_2
  clear B_2 r_2
  go_wp2_with fail
  refine (l1New_any A n c bs _ (H.out.below HB0.out (Nat.le_refl _)) HU.out hn).mono ?_
  rintro e v0 ⟨g, rfl, hg, hc, hb⟩
  rw [World.size_alloc] at hg
  have s0' := hb.size
  rw [World.size_alloc] at s0'
  have HR1 := Lib.hid (HR0.out.same (same_below hb (by rw [World.size_alloc]; omega)))
  have HB1 : Hid (Below w.heap.size w v0) := HB0.out.trans (hb.mono (by rw [World.size_alloc]; omega))
  have HC := Lib.hid hc
  have hgw := hc.lt
  clear hb hc HR0 HB0
  go_wp2_with fail
  refine (l16Draw_any g A n c bs _ HU.out hn HC.out).mono ?_
  rintro e v1 ⟨A1, n1, c1, g1, xss, rfl, hn9, hbd, o, hc, ho⟩
  have s1 := ho.size
  have HR2 := HR1.out.same (same_only ho (by omega) (by omega))
  have HB2 : Hid (Below w.heap.size w v1) := HB1.out.trans (ho.below (by omega) (by omega))
  have HOw := Lib.hid o; have HBd := Lib.hid hbd; have HC1 := Lib.hid hc
  clear ho hc o hbd
  obtain ⟨u, hu⟩ : ∃ u, u = v1.alloc (.cells #[.slice A1 n1 c1] 26) := ⟨_, rfl⟩
  have hzu : u.heap.size = v1.heap.size + 1 := by rw [hu, World.size_alloc]
  have hx : Bx u v1.heap.size 26 #[.slice A1 n1 c1] := by rw [hu]; exact Bx.new _ _ _
  have HRu : Bx u w.heap.size 26 #[.slice none 0 0] := by rw [hu]; exact HR2.same (same_alloc _ (by omega))
  have HCu : Hid (Cur u g A n c bs) := by rw [hu]; exact HC1.out.below (below_alloc1 _) (Nat.le_refl _)
  have HBu : Hid (Below w.heap.size w u) := by rw [hu]; exact HB2.out.alloc (by omega) _
  have HOu : Hid (OwSS v0.heap.size v1.heap.size u A1 n1 c1 g1 (iss xss)) := by rw [hu]; exact HOw.out.same (same_alloc _ (Nat.le_refl _))
  have p0 : u.cell? ⟨v1.heap.size, 0, none⟩ = some (.slice A1 n1 c1) := hx.cells 0
  have r0 : u.cell? ⟨w.heap.size, 0, none⟩ = some (.slice none 0 0) := HRu.cells 0
  have fr0 : u.frozen? ⟨w.heap.size, 0, none⟩ = false := HRu.free 0
  have HCd := Lib.hid (HCu.out.below2 (below_drew u.heap.size u) (by omega))
  have HK : Hid (∀ w' : World, Only g (g + 1) u w' → w'.cell? ⟨v1.heap.size, 0, none⟩ = some (.slice A1 n1 c1) ∧ w'.cell? ⟨w.heap.size, 0, none⟩ = some (.slice none 0 0) ∧ w'.frozen? ⟨w.heap.size, 0, none⟩ = false) := fun w' h => by
    have h1 := HRu.same (same_only h (by omega) (by omega))
    exact ⟨(hx.same (same_only h (by omega) (by omega))).cells 0, h1.cells 0, h1.free 0⟩
  have HRu := Lib.hid HRu
  have hlv : v1.heap.size < u.heap.size := by omega
  have HUU := Lib.hid hu
  have HZU := Lib.hid hzu
  clear hx HR2 HC1 HOw hu hzu
  go_upto_region 3 with fail
  rw [← HUU.out]
  clear HUU
  refine wp_region_last (n := 5) (S := fun w' => w'.cell? ⟨v1.heap.size, 0, none⟩ = some (.slice A1 n1 c1)) (by kernel_rfl) rfl (by kernel_rfl) (p0) ?_
  intro hS; (try dsimp only at hS)
  simp only [List.take_succ_cons, List.take_zero, List.getElem_toArray, List.getElem_cons_succ, List.getElem_cons_zero]
  refine wpAnyH_take (i := 0) (v := ?v13x) rfl (by kernel_rfl) (by kernel_rfl) (by kernel_rfl) (fun _ _ _ h => h) (Or.inl ⟨by rfl, ?hy13x⟩) hS ?rest13x
  case hy13x => (intro w' hSw; (try dsimp only at hSw); go_simp; (try (with_reducible rfl)))
  (try simp only [Act.put, List.setIfInBounds_toArray, List.set_cons_zero, List.set_cons_succ, List.getElem_toArray, List.getElem_cons_succ, List.getElem_cons_zero])
  refine wpAnyH_take (i := 1) (v := ?v14x) rfl (by kernel_rfl) (by kernel_rfl) (by kernel_rfl) (fun _ _ _ h => h) (Or.inl ⟨by rfl, ?hy14x⟩) hS ?rest14x
  case hy14x => (intro w' hSw; (try dsimp only at hSw); go_simp; (try (with_reducible rfl)))
  (try simp only [Act.put, List.setIfInBounds_toArray, List.set_cons_zero, List.set_cons_succ, List.getElem_toArray, List.getElem_cons_succ, List.getElem_cons_zero])
  refine wpAnyH_ready (rs := [2]) (by kernel_rfl) (by simp) ?_
  refine AllReadyH.cons rfl (fun K hK => ?_) AllReadyH.nil
  (try dsimp only [List.getElem_toArray, List.getElem_cons_succ, List.getElem_cons_zero])
  go_simp
  refine hK.out _ _ ((World.cell?_alloc_lt _ _ _ hlv).trans p0) (fun hS9 => ?_)
  clear hK K hS; have hS := hS9; clear hS9; (try dsimp only at hS)
  (try simp only [Act.put, List.setIfInBounds_toArray, List.set_cons_zero, List.set_cons_succ, List.getElem_toArray, List.getElem_cons_succ, List.getElem_cons_zero])
  refine wpAnyH_ready (rs := [3]) (by kernel_rfl) (by simp) ?_
  refine AllReadyH.cons rfl (fun K hK => ?_) AllReadyH.nil
  (try dsimp only [List.getElem_toArray, List.getElem_cons_succ, List.getElem_cons_zero])
  (go_simp; (refine (pickLit g A n c 6 bs [0, 1, 0, 1, 2, -1] u.drew #[.int .i64 0, .int .i64 1, .int .i64 0, .int .i64 1, .int .i64 2, .int .i64 (-1)] 3 rfl rfl (by omega) (by omega) HU.out hn HCd.out).mono ?_); rintro e q3 ⟨y, rfl, hy, hcq, hoq⟩; dsimp only)
  have hO3 : Only g (g + 1) u q3 := (Only.of_below (below_drew u.heap.size u) (Nat.le_refl _)).trans hoq
  obtain ⟨k1, k2, k3⟩ := HK.out _ hO3
  have s3 := hO3.size
  have HRq := Lib.hid (HRu.out.same (same_only hO3 (by omega) (by omega)))
  refine hK.out _ _ (k1) (fun hS9 => ?_)
  clear hK K hS; have hS := hS9; clear hS9; (try dsimp only at hS)
  (try simp only [Act.put, List.setIfInBounds_toArray, List.set_cons_zero, List.set_cons_succ, List.getElem_toArray, List.getElem_cons_succ, List.getElem_cons_zero])
  refine wpAnyH_ready (rs := [4]) (by kernel_rfl) (by simp) ?_
  refine AllReadyH.cons rfl (fun K hK => ?_) AllReadyH.nil
  (try dsimp only [List.getElem_toArray, List.getElem_cons_succ, List.getElem_cons_zero])
  go_simp
  refine hK.out _ _ ((World.cell?_setCell_far _ _ _ _ (by show w.heap.size ≠ v1.heap.size; omega)).trans k1) (fun hS9 => ?_)
  clear hK K hS; have hS := hS9; clear hS9; (try dsimp only at hS)
  (try simp only [Act.put, List.setIfInBounds_toArray, List.set_cons_zero, List.set_cons_succ, List.getElem_toArray, List.getElem_cons_succ, List.getElem_cons_zero])
  refine wpAnyH_done (by kernel_rfl) ?_ _
  refine fun K hK => ?_
  go_simp
  refine hK.out _ _ ?_
  clear hK K
  have hyb : -1 ≤ y ∧ y ≤ 2 := by simp at hy; omega
  have hfin : ∀ w9, w9 = q3.setCell ⟨w.heap.size, 0, none⟩ (.slice A1 n1 c1) → OwSS w.heap.size w9.heap.size w9 A1 n1 c1 g1 (iss xss) ∧ Below w.heap.size w w9 := by
    intro w9 h9
    subst h9
    rw [setc_size]
    exact ⟨((HOu.out.same (same_only hO3 (.inr (by omega)) (by omega))).same (same_setc (by omega))).wide (by omega) (by omega), Below.setCell (p := ⟨w.heap.size, 0, none⟩) (HBu.out.trans (hO3.below (by omega) (by omega))) (Nat.le_refl _) _⟩
  have HFin := Lib.hid hfin
  have f0 := Bx.cells (HRq.out.set_ 0 (.slice A1 n1 c1)) 0
  have ff0 := Bx.free (HRq.out.set_ 0 (.slice A1 n1 c1)) 0
  simp at f0
  clear hfin hoq hcq hy hS
  go_wp2_with ((with_reducible refine bodyPost_ret (v := .tuple #[.agg #[.slice A1 n1 c1], .int .i64 y]) ?k1 ?k2 ?k3); (case k1 => (simp [results, Try.results29, go_sem, f0, ff0])); (case k2 => rfl); (case k3 => (exact ⟨A1, n1, c1, g1, xss, y, rfl, hn9, HBd.out, hyb, (HFin.out _ rfl).1, (HFin.out _ rfl).2⟩)))

end Go.Proofs.Ytnljlehbjdambaa
