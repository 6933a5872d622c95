/-
  The draw of a window.
-/
import Derived.Test.YtnljlehbjdambaaDrawW
import Derived.Deep.LoopGhost
import Derived.Deep.CutBlock
namespace Go.Proofs.Ytnljlehbjdambaa
open Go.RowKit
set_option linter.unusedSimpArgs false
set_option linter.unusedVariables false
/-- What l16Draw may answer. -/
def DrawR (g : Nat) (A : Option Addr) (n c : Nat) (bs : List Int) (w : World) (e : Ending) (w' : World) : Prop := ∃ (A' : Option Addr) (n' c' : Nat) (hs : List Hd) (xss : List (List Int)), e = .returned (.agg #[.slice A' n' c']) ∧ n' ≤ 9 ∧ bdQ xss ∧ OwSS w.heap.size w'.heap.size w' A' n' c' hs (iss xss) ∧ Cur w' g A n c bs ∧ Only g (g + 1) w w'
set_option maxRecDepth 20000 in
set_option maxHeartbeats 8000000 in
theorem l16Draw_any (g : Nat) (A : Option Addr) (n c : Nat) (bs : List Int) (w : World) (hu : ∀ z ∈ bs, 0 ≤ z ∧ z ≤ 255) (hn : n ≤ 1073741824) (h : Cur w g A n c bs) :
    Calls Try.prog 43 #[.pointer (some ⟨g, 0, none⟩)] w (DrawR g A n c bs w) := by
  have HC := Lib.hid h
  have HU := Lib.hid hu
  have hgw := h.lt
  obtain ⟨i1, hi0, hz0, hz1, hz2⟩ := info_parts info_int
  have HQ := Lib.hid hi0; have HQ0 := Lib.hid hz0; have HQ1 := Lib.hid hz1; have HQ2 := Lib.hid hz2
  clear hi0 hz0 hz1 hz2
  obtain ⟨i2, hi0, hz0, hz1, hz2⟩ := info_parts info_IntSS
  have HJ := Lib.hid hi0; have HJ0 := Lib.hid hz0; have HJ1 := Lib.hid hz1; have HJ2 := Lib.hid hz2
  clear hi0 hz0 hz1 hz2 h hu
  have B0 := Below.refl w.heap.size w
  have s0 : w.heap.size ≤ w.heap.size := Nat.le_refl _
  go_enter Try.func43, Try.ntmps43
  have r_2 : Bx (w.alloc (.cells #[.slice none 0 0] 26)) (w.heap.size) 26 #[.slice none 0 0] := Bx.new _ _ _
  have B_2 := B0.alloc s0 (.cells #[.slice none 0 0] 26)
  clear B0
  have cr_3 := r_2.cells
  have fr_3 := r_2.free
  have HC0 := Lib.hid (HC.out.below B_2 (Nat.le_refl _))
  have HO0 : Hid (Only g (g + 1) w (w.alloc (.cells #[.slice none 0 0] 26))) := Only.of_below B_2 (Nat.le_refl _)
  have HR0 := Lib.hid r_2
  clear r_2 B_2 cr_3 fr_3
  go_wp2_with fail
  refine (l16Right_any g A n c bs _ HU.out hn HC0.out).mono ?_
  rintro e v1 ⟨A1, n1, c1, g1, yss, rfl, hn8, hbd, o, hc1, ho1⟩
  have s1 := ho1.size
  simp only [World.size_alloc] at s1
  have HR1 := Lib.hid (HR0.out.same (same_only ho1 (by omega) (by rw [World.size_alloc]; omega)))
  have HO1 := Lib.hid (HO0.out.trans ho1)
  have HBd := Lib.hid hbd
  have o' : OwSS (w.heap.size + 1) v1.heap.size v1 A1 n1 c1 g1 (iss yss) := o.wide (by rw [World.size_alloc]; omega) (Nat.le_refl _)
  have hwv : Win (w.heap.size + 1) v1.heap.size (v1.alloc (.cells #[.slice A1 n1 c1] 26)) A1 n1 c1 g1 yss := Win.start (o'.same (same_alloc _ (Nat.le_refl _))) (Nat.le_refl _) (by rw [World.size_alloc]; exact Nat.le_succ _) (Bx.new _ _ _)
  obtain ⟨BO, hBO⟩ : ∃ BO, BO = v1.heap.size := ⟨_, rfl⟩
  obtain ⟨v, hv⟩ : ∃ v, v = v1.alloc (.cells #[.slice A1 n1 c1] 26) := ⟨_, rfl⟩
  have hzv : v.heap.size = v1.heap.size + 1 := by rw [hv, World.size_alloc]
  have HCv : Hid (Cur v g A n c bs) := by rw [hv]; exact hc1.below (below_alloc1 _) (Nat.le_refl _)
  have HOv : Hid (Only g (g + 1) w v) := by rw [hv]; exact HO1.out.below_ (below_alloc1 _) (by omega)
  have HR : Hid (Bx v w.heap.size 26 #[.slice none 0 0]) := by rw [hv]; exact HR1.out.same (same_alloc _ (by omega))
  rw [← hBO, ← hv] at hwv
  have HWv := Lib.hid hwv
  have hlv : (w.heap.size + 1) ≤ BO := by omega
  have hBv : BO < v.heap.size := by omega
  have hLv : w.heap.size + 1 < v.heap.size := by omega
  have hBg : g ≠ BO := by omega
  clear hwv o o' hc1 ho1 hbd HC0 HO0 HR0 HR1 HO1 hzv s1
  go_wp2_with fail
  rw [← hv, ← hBO]
  clear hv hBO
  refine (l1Below_any g A n c bs 12 _ HU.out hn HCv.out).mono ?_
  rintro e u ⟨x, rfl, ⟨x0, _, _⟩, hc1, ho1⟩
  have su := ho1.size
  have HCc := Lib.hid hc1; have HKc := Lib.hid (KeptB.of_only (lo := (w.heap.size + 1)) ho1 (by omega)); have HWc := Lib.hid (HWv.out.cur ho1 (by omega) hBg)
  clear hc1 ho1 HCv HWv
  go_upto_block 0 with fail
  go_cut [] (fun wx => ∃ (A2 : Option Addr) (n2 c2 : Nat) (g2 : List Hd) (zss : List (List Int)), n2 ≤ 9 ∧ Win (w.heap.size + 1) BO wx A2 n2 c2 g2 zss ∧ bdQ zss ∧ Cur wx g A n c bs ∧ KeptB (w.heap.size + 1) g v wx)
  case first =>
    by_cases h0 : x = 0
    · subst h0
      have p0 := HWc.out.bcell
      have pf : u.frozen? ⟨BO, 0, none⟩ = false := HWc.out.bx.free 0
      have hlb := HWc.out.bx.lt
      go_wp2_with (at_builtin; refine wpList_append_lies _ rfl _ _ 24 rfl (w.heap.size + 1) 54 i2 _ 1 24 Try.underlying24 HJ.out HJ0.out HJ1.out HJ2.out rfl (by decide) (.slice A1 n1 c1) n1 (g1.map hdV) rfl ((HWc.out.ow.hd.own.alloc _).alloc _) ⟨u.heap.size + 1, 0, none⟩ 1 1 [.slice (some ⟨u.heap.size, 0, none⟩) 0 0] rfl rfl (World.news_of_block (cs := #[.slice (some ⟨u.heap.size, 0, none⟩) 0 0]) (t := 54) (fr := (0, 0)) (by have h7 := heap_alloc_new (u.alloc (.cells #[] 3)) (.cells #[.slice (some ⟨u.heap.size, 0, none⟩) 0 0] 54); rwa [World.size_alloc] at h7)) ?c2 (by omega) ?c3 ?c4 ?c5 _ rfl ?_)
      case c2 => first | rfl | (intro u hu; simp at hu; subst hu; rfl)
      case c3 => first | (unfold maxLen; omega) | omega
      case c4 => omega
      case c5 => first | (simp only [World.size_alloc]; omega) | omega
      intro g7 cap7 u6 hown7 hgrow7 hat7 hlt7
      have hg7 : u.grownBy u6 (Value.slice A1 n1 c1).ownBlock := ((grown_alloc _ _).trans (grown_alloc _ _)).trans hgrow7
      have hc6 : u6.cell? ⟨BO, 0, none⟩ = some (.slice A1 n1 c1) := (cell_grown hg7 hlb (fun e => HWc.out.offA e.symm)).trans p0
      have hf6 : u6.frozen? ⟨BO, 0, none⟩ = false := (frozen_grown hg7 hlb (fun e => HWc.out.offA e.symm)).trans pf
      have HP9 := Lib.hid (HWc.out.more_lit (by omega) (by omega) hown7 hgrow7 (hat7.imp id (fun e => e.trans (by simp only [World.size_alloc]))))
      have HC9 := Lib.hid (HCc.out.below2 HP9.out.2 (by omega))
      have HK9 := Lib.hid (HKc.out.trans (KeptB.of_below HP9.out.2 (Nat.le_refl _)))
      have HW9 := Lib.hid HP9.out.1
      have HBd9 := Lib.hid (bdQ_snoc (bdQ_of HBd.out) (ys := []) (by simp) (by simp))
      clear hown7 hgrow7 hat7 hg7 p0 pf HP9
      go_wp2_with fail
      go_meet
      exact ⟨some ⟨g7, 0, none⟩, n1 + 1, cap7, _, yss ++ [[]], by omega, HW9.out, HBd9.out, HC9.out, HK9.out⟩
    · have e0 : (x == 0) = false := beq_false_of_ne h0
      have d0 : decide (x = 0) = false := decide_eq_false h0
      by_cases h1 : x = 1
      · subst h1
        by_cases hn0 : n1 = 0
        · have hn0i : ¬ (0 : Int) < (n1 : Int) := by omega
          have hn0n : ¬ 0 < n1 := by omega
          have hn0d : decide (0 < n1) = false := decide_eq_false hn0n
          have HN0 := Lib.hid hn0
          clear hn0
          have p0 := HWc.out.bcell
          have pf : u.frozen? ⟨BO, 0, none⟩ = false := HWc.out.bx.free 0
          have hlb := HWc.out.bx.lt
          go_wp2_with fail
          go_meet
          exact ⟨A1, n1, c1, g1, yss, by omega, HWc.out, bdQ_of HBd.out, HCc.out, HKc.out⟩
        · have hn0i : (0 : Int) < (n1 : Int) := by omega
          have hn0n : 0 < n1 := by omega
          obtain ⟨ga, xa, xn, xc, hAA, hx, hcell, hfrz, hrow, hlen, hgl, hgb, hlg, hnc, hcm⟩ := HWc.out.get (q := 0) hn0n
          subst hAA
          have p0 := HWc.out.bcell
          have pf : u.frozen? ⟨BO, 0, none⟩ = false := HWc.out.bx.free 0
          have hlb := HWc.out.bx.lt
          have hxn4 : xn ≤ 4 := by
            have h4 := (HBd.out (yss.getD 0 []) (List.mem_of_getElem? (getD_of (by have := HWc.out.len; omega)))).1
            omega
          have HRow := Lib.hid hrow; have HX := Lib.hid hx; have HLn := Lib.hid hlen
          have HCd := Lib.hid (HCc.out.below2 (below_drew u.heap.size u) (by omega))
          have HKe : Hid (∀ w' : World, u.grownBy w' none → w'.cell? ⟨BO, 0, none⟩ = some (.slice (some ⟨ga, 0, none⟩) n1 c1) ∧ w'.cell? ⟨ga, 0, none⟩ = some (.slice xa xn xc) ∧ w'.frozen? ⟨ga, 0, none⟩ = false) := fun w' hg => ⟨(cell_grown hg hlb (by simp)).trans p0, (cell_grown hg hgl (by simp)).trans hcell, (frozen_grown hg hgl (by simp)).trans hfrz⟩
          have hxl4 : (yss.getD 0 []).length ≤ 3 ∨ 3 < (yss.getD 0 []).length := by omega
          clear hrow hx hlen hn0 hxl4
          go_upto_region 7 with fail
          refine wp_region_last (n := 12) (S := fun w' => w'.cell? ⟨BO, 0, none⟩ = some (.slice (some ⟨ga, 0, none⟩) n1 c1) ∧ w'.cell? ⟨ga, 0, none⟩ = some (.slice xa xn xc) ∧ w'.frozen? ⟨ga, 0, none⟩ = false) (by kernel_rfl) rfl (by kernel_rfl) (HKe.out _ (grown_drew _)) ?_
          intro hS; (try dsimp only at hS)
          simp only [List.take_succ_cons, List.take_zero, List.getElem_toArray, List.getElem_cons_succ, List.getElem_cons_zero]
          refine wpAnyH_take (i := 0) (v := ?v1x) rfl (by kernel_rfl) (by kernel_rfl) (by kernel_rfl) (fun _ _ _ h => h) (Or.inl ⟨by rfl, ?hy1x⟩) hS ?rest1x
          case hy1x => (intro w' hSw; (try dsimp only at hSw); go_simp; (try (with_reducible rfl)))
          (try simp only [Act.put, List.setIfInBounds_toArray, List.set_cons_zero, List.set_cons_succ, List.getElem_toArray, List.getElem_cons_succ, List.getElem_cons_zero])
          refine wpAnyH_take (i := 1) (v := ?v2x) rfl (by kernel_rfl) (by kernel_rfl) (by kernel_rfl) (fun _ _ _ h => h) (Or.inl ⟨by rfl, ?hy2x⟩) hS ?rest2x
          case hy2x => (intro w' hSw; (try dsimp only at hSw); go_simp; (try (with_reducible rfl)))
          (try simp only [Act.put, List.setIfInBounds_toArray, List.set_cons_zero, List.set_cons_succ, List.getElem_toArray, List.getElem_cons_succ, List.getElem_cons_zero])
          refine wpAnyH_take (i := 2) (v := ?v3x) rfl (by kernel_rfl) (by kernel_rfl) (by kernel_rfl) (fun _ _ _ h => h) (Or.inl ⟨by rfl, ?hy3x⟩) hS ?rest3x
          case hy3x => (intro w' hSw; (try dsimp only at hSw); go_simp; (try (with_reducible rfl)))
          (try simp only [Act.put, List.setIfInBounds_toArray, List.set_cons_zero, List.set_cons_succ, List.getElem_toArray, List.getElem_cons_succ, List.getElem_cons_zero])
          refine wpAnyH_take (i := 3) (v := ?v4x) rfl (by kernel_rfl) (by kernel_rfl) (by kernel_rfl) (fun _ _ _ h => h) (Or.inl ⟨by rfl, ?hy4x⟩) hS ?rest4x
          case hy4x => (intro w' hSw; (try dsimp only at hSw); go_simp; (try (with_reducible rfl)))
          (try simp only [Act.put, List.setIfInBounds_toArray, List.set_cons_zero, List.set_cons_succ, List.getElem_toArray, List.getElem_cons_succ, List.getElem_cons_zero])
          refine wpAnyH_take (i := 4) (v := ?v5x) rfl (by kernel_rfl) (by kernel_rfl) (by kernel_rfl) (fun _ _ _ h => h) (Or.inl ⟨by rfl, ?hy5x⟩) hS ?rest5x
          case hy5x => (intro w' hSw; (try dsimp only at hSw); go_simp; (try (with_reducible rfl)))
          (try simp only [Act.put, List.setIfInBounds_toArray, List.set_cons_zero, List.set_cons_succ, List.getElem_toArray, List.getElem_cons_succ, List.getElem_cons_zero])
          refine wpAnyH_take (i := 5) (v := ?v6x) rfl (by kernel_rfl) (by kernel_rfl) (by kernel_rfl) (fun _ _ _ h => h) (Or.inl ⟨by rfl, ?hy6x⟩) hS ?rest6x
          case hy6x => (intro w' hSw; (try dsimp only at hSw); go_simp; (try (with_reducible rfl)))
          (try simp only [Act.put, List.setIfInBounds_toArray, List.set_cons_zero, List.set_cons_succ, List.getElem_toArray, List.getElem_cons_succ, List.getElem_cons_zero])
          refine wpAnyH_take (i := 6) (v := ?v7x) rfl (by kernel_rfl) (by kernel_rfl) (by kernel_rfl) (fun _ _ _ h => h) (Or.inl ⟨by rfl, ?hy7x⟩) hS ?rest7x
          case hy7x => (intro w' hSw; (try dsimp only at hSw); go_simp; (try (with_reducible rfl)))
          (try simp only [Act.put, List.setIfInBounds_toArray, List.set_cons_zero, List.set_cons_succ, List.getElem_toArray, List.getElem_cons_succ, List.getElem_cons_zero])
          refine wpAnyH_ready (rs := [7]) (by kernel_rfl) (by simp) ?_
          refine AllReadyH.cons rfl (fun K hK => ?_) AllReadyH.nil
          (try dsimp only [List.getElem_toArray, List.getElem_cons_succ, List.getElem_cons_zero])
          go_simp
          refine hK.out _ _ (HKe.out _ ((grown_drew _).trans (grown_alloc _ _))) (fun hS9 => ?_)
          clear hK K hS; have hS := hS9; clear hS9; (try dsimp only at hS)
          (try simp only [Act.put, List.setIfInBounds_toArray, List.set_cons_zero, List.set_cons_succ, List.getElem_toArray, List.getElem_cons_succ, List.getElem_cons_zero])
          refine wpAnyH_ready (rs := [8]) (by kernel_rfl) (by simp) ?_
          refine AllReadyH.cons rfl (fun K hK => ?_) AllReadyH.nil
          (try dsimp only [List.getElem_toArray, List.getElem_cons_succ, List.getElem_cons_zero])
          (go_simp; (refine (pickLit g A n c 4 bs [2, -1, 1, 1] u.drew #[.int .i64 2, .int .i64 (-1), .int .i64 1, .int .i64 1] 3 rfl rfl (by omega) (by omega) HU.out hn HCd.out).mono ?_); rintro e q3 ⟨y, rfl, hy, hcq, hoq⟩; dsimp only)
          have hyb : -1000 ≤ y ∧ y ≤ 1000 := by simp at hy; omega
          have hO3 : Only g (g + 1) u q3 := (Only.of_below (below_drew u.heap.size u) (Nat.le_refl _)).trans hoq
          have hz3 := hO3.size
          have HCq3 := Lib.hid hcq
          have HWq := Lib.hid (HWc.out.cur hO3 (by omega) (by omega))
          have HRq := Lib.hid (own_only HRow.out hO3 (by omega))
          have hlq := HWq.out.bx.lt
          have hxg : some ga ≠ (Value.slice xa xn xc).ownBlock := fun e => HWq.out.ow.off 0 _ ga HX.out rfl e.symm
          have hxb : some BO ≠ (Value.slice xa xn xc).ownBlock := fun e => HWq.out.offR 0 _ HX.out e.symm
          have HKq : Hid (∀ w' : World, q3.grownBy w' (Value.slice xa xn xc).ownBlock → w'.cell? ⟨BO, 0, none⟩ = some (.slice (some ⟨ga, 0, none⟩) n1 c1) ∧ w'.cell? ⟨ga, 0, none⟩ = some (.slice xa xn xc) ∧ w'.frozen? ⟨ga, 0, none⟩ = false) := fun w' hg => ⟨(cell_grown hg hlq hxb).trans HWq.out.bcell, (cell_grown hg (by omega) hxg).trans ((World.cell?_of_block (hO3.block ga hgl (by omega))).trans hcell), (frozen_grown hg (by omega) hxg).trans (HWq.out.ow.hd.own.frozenAt 0)⟩
          refine hK.out _ _ (HKq.out _ ⟨rfl, rfl, rfl, Nat.le_refl _, fun _ _ _ => rfl⟩) (fun hS9 => ?_)
          clear hK K hS; have hS := hS9; clear hS9; (try dsimp only at hS)
          (try simp only [Act.put, List.setIfInBounds_toArray, List.set_cons_zero, List.set_cons_succ, List.getElem_toArray, List.getElem_cons_succ, List.getElem_cons_zero])
          refine wpAnyH_ready (rs := [9]) (by kernel_rfl) (by simp) ?_
          refine AllReadyH.cons rfl (fun K hK => ?_) AllReadyH.nil
          (try dsimp only [List.getElem_toArray, List.getElem_cons_succ, List.getElem_cons_zero])
          go_simp
          refine hK.out _ _ (HKq.out _ (grown_alloc _ _)) (fun hS9 => ?_)
          clear hK K hS; have hS := hS9; clear hS9; (try dsimp only at hS)
          (try simp only [Act.put, List.setIfInBounds_toArray, List.set_cons_zero, List.set_cons_succ, List.getElem_toArray, List.getElem_cons_succ, List.getElem_cons_zero])
          refine wpAnyH_ready (rs := [10]) (by kernel_rfl) (by simp) ?_
          refine AllReadyH.cons rfl (fun K hK => ?_) AllReadyH.nil
          (try dsimp only [List.getElem_toArray, List.getElem_cons_succ, List.getElem_cons_zero])
          (rw [if_pos (by rfl)]; refine wp_append_lies _ _ _ _ (by rfl) (w.heap.size + 1) 3 i1 _ 1 8 Try.underlying54 HQ.out HQ0.out HQ1.out HQ2.out rfl (by omega) _ xn ((yss.getD 0 []).map (Value.int .i64)) (by rfl) (HRq.out.alloc _) ⟨q3.heap.size, 0, none⟩ 1 1 [.int .i64 y] (by rfl) (by rfl) (World.news_of_block (cs := #[.int .i64 y]) (t := 3) (fr := (0, 0)) (heap_alloc_new q3 _)) (by simp [Value.oneCell']) (by omega) (by simp only [maxLen]; omega) (by omega) (by simp only [World.size_alloc]; omega) (q3.heap.size + 1) (by simp) ?_; intro g7 cap7 u6 hown7 hgrow7 hat7 hlt7)
          have hg7 : q3.grownBy u6 (Value.slice xa xn xc).ownBlock := (grown_alloc _ _).trans hgrow7
          refine hK.out _ _ (HKq.out _ hg7) (fun hS9 => ?_)
          clear hK K hS; have hS := hS9; clear hS9; (try dsimp only at hS)
          (try simp only [Act.put, List.setIfInBounds_toArray, List.set_cons_zero, List.set_cons_succ, List.getElem_toArray, List.getElem_cons_succ, List.getElem_cons_zero])
          refine wpAnyH_take (i := 11) (v := ?v8x) rfl (by kernel_rfl) (by kernel_rfl) (by kernel_rfl) (fun _ _ _ h => h) (Or.inl ⟨by rfl, ?hy8x⟩) hS ?rest8x
          case hy8x => (intro w' hSw; (try dsimp only at hSw); go_simp; (try (with_reducible rfl)))
          (try simp only [Act.put, List.setIfInBounds_toArray, List.set_cons_zero, List.set_cons_succ, List.getElem_toArray, List.getElem_cons_succ, List.getElem_cons_zero])
          refine wpAnyH_done (by kernel_rfl) ?_ _
          refine fun K hK => ?_
          go_simp
          refine hK.out _ _ ?_
          clear hK K
          have HP9 := Lib.hid (HWq.out.pushed (v := y) HX.out hown7 hg7 hat7)
          have hqL : (w.heap.size + 1) ≤ q3.heap.size := by omega
          have hb6 : Below (w.heap.size + 1) q3 u6 := below_of_grown hg7 hqL (fun k hk => (HRq.out.lt k hk).1)
          have HC9 := Lib.hid ((HCq3.out).below2 HP9.out.2 (by omega))
          have HK9 := Lib.hid ((HKc.out.trans (KeptB.of_only hO3 (by omega))).trans (KeptB.of_below HP9.out.2 (Nat.le_refl _)))
          have HBd9 : Hid (bdQ (pushR yss 0 y)) := bdQ_push HBd.out (by have := HWc.out.len; omega) hyb
          clear hown7 hgrow7 hat7 hg7
          go_wp2_with fail
          go_meet
          exact ⟨some ⟨ga, 0, none⟩, n1, c1, _, pushR yss 0 y, by omega, HP9.out.1, HBd9.out, HC9.out, HK9.out⟩
      · have e1 : (x == 1) = false := beq_false_of_ne h1
        have d1 : decide (x = 1) = false := decide_eq_false h1
        by_cases h2 : x = 2
        · subst h2
          go_wp2_with fail
          go_loopg [] (9 - n1) (fun k wr => ∃ (A1 : Option Addr) (n1 c1 : Nat) (g1 : List Hd) (yss : List (List Int)), n1 + k = 9 ∧ Win (w.heap.size + 1) BO wr A1 n1 c1 g1 yss ∧ bdQ yss ∧ Cur wr g A n c bs ∧ KeptB (w.heap.size + 1) g v wr)
          case atStart => exact ⟨A1, n1, c1, g1, yss, by omega, HWc.out, bdQ_of HBd.out, HCc.out, HKc.out⟩
          case round =>
            obtain ⟨A1, n1, c1, g1, yss, hnk, hw, hbq, hc, hk⟩ := hrel
            obtain ⟨q, rfl⟩ : ∃ q : World, q = wr := ⟨_, rfl⟩
            have hsz := hk.size
            have HWq := Lib.hid hw; have HBq := Lib.hid hbq; have HCq := Lib.hid hc; have HKq := Lib.hid hk
            have p0 := hw.bcell
            have pf : q.frozen? ⟨BO, 0, none⟩ = false := hw.bx.free 0
            have hlb := hw.bx.lt
            have hn9 : n1 ≤ 9 := by omega
            have hgk : 9 - n1 = gk := by omega
            have HGK := Lib.hid hgk
            have HNK := Lib.hid hnk
            clear hw hbq hc hk hgk hnk HWc HBd HCc HKc
            by_cases hl9 : n1 < 9
            · have hl9i : (n1 : Int) < 9 := by omega
              go_wp2_with (at_builtin; refine wpList_append_lies _ rfl _ _ 24 rfl (w.heap.size + 1) 54 i2 _ 1 24 Try.underlying24 HJ.out HJ0.out HJ1.out HJ2.out rfl (by decide) (.slice A1 n1 c1) n1 (g1.map hdV) rfl ((HWq.out.ow.hd.own.alloc _).alloc _) ⟨q.heap.size + 1, 0, none⟩ 1 1 [.slice (some ⟨q.heap.size, 0, none⟩) 1 1] rfl rfl (World.news_of_block (cs := #[.slice (some ⟨q.heap.size, 0, none⟩) 1 1]) (t := 54) (fr := (0, 0)) (by have h7 := heap_alloc_new (q.alloc (.cells #[.int .i64 1] 3)) (.cells #[.slice (some ⟨q.heap.size, 0, none⟩) 1 1] 54); rwa [World.size_alloc] at h7)) ?c2 (by omega) ?c3 ?c4 ?c5 _ rfl ?_)
              case c2 => first | rfl | (intro u hu; simp at hu; subst hu; rfl)
              case c3 => first | (unfold maxLen; omega) | omega
              case c4 => omega
              case c5 => first | (simp only [World.size_alloc]; omega) | omega
              intro g7 cap7 u6 hown7 hgrow7 hat7 hlt7
              have hg7 : q.grownBy u6 (Value.slice A1 n1 c1).ownBlock := ((grown_alloc _ _).trans (grown_alloc _ _)).trans hgrow7
              have hc6 : u6.cell? ⟨BO, 0, none⟩ = some (.slice A1 n1 c1) := (cell_grown hg7 hlb (fun e => HWq.out.offA e.symm)).trans p0
              have hf6 : u6.frozen? ⟨BO, 0, none⟩ = false := (frozen_grown hg7 hlb (fun e => HWq.out.offA e.symm)).trans pf
              have HOy : Hid (Ow 3 q.heap.size ((q.alloc (.cells #[.int .i64 1] 3)).alloc (.cells #[.slice (some ⟨q.heap.size, 0, none⟩) 1 1] 54)).heap.size ((q.alloc (.cells #[.int .i64 1] 3)).alloc (.cells #[.slice (some ⟨q.heap.size, 0, none⟩) 1 1] 54)) (some ⟨q.heap.size, 0, none⟩) 1 1 ([(1 : Int)].map (Value.int .i64))) := by
                have h1 : (q.alloc (.cells #[.int .i64 1] 3)).ownsRow q.heap.size 3 1 (.slice (some ⟨q.heap.size, 0, none⟩) 1 1) 1 ([(1 : Int)].map (Value.int .i64)) := World.ownsRow_lit (base := q.heap.size) (e := 3) (size := 1) q #[.int .i64 1] 1 (Nat.le_refl _) (by simp [maxLen]) rfl
                exact ((Ow.of h1).same (same_alloc _ (Nat.le_refl _))).wide (Nat.le_refl _) (by simp only [World.size_alloc]; omega)
              have hB2 : Below q.heap.size q ((q.alloc (.cells #[.int .i64 1] 3)).alloc (.cells #[.slice (some ⟨q.heap.size, 0, none⟩) 1 1] 54)) := (below_alloc1 _).alloc (by simp only [World.size_alloc]; omega) _
              have HP9 := Lib.hid (HWq.out.moreO (g := g) (y := (some ⟨q.heap.size, 0, none⟩, 1, 1)) (ys := [1]) (by omega) (by omega) (Only.of_below hB2 (Nat.le_refl _)) (by omega) HOy.out hown7 hgrow7 (hat7.imp id (fun e => by simp only [World.size_alloc] at e ⊢; omega)))
              have HB9 : Hid (Below (w.heap.size + 1) q (u6.setCell ⟨BO, 0, none⟩ (.slice (some ⟨g7, 0, none⟩) (n1 + 1) cap7))) := (hB2.mono (by omega)).trans HP9.out.2
              have HC9 := Lib.hid ((HCq.out).below2 HB9.out (by omega))
              have HK9 := Lib.hid (HKq.out.trans (KeptB.of_below HB9.out (Nat.le_refl _)))
              have HBd9 := Lib.hid (bdQ_snoc HBq.out (ys := [1]) (by simp) (by simp))
              clear hown7 hgrow7 hat7 hg7 hB2
              go_wp2_with fail
              go_roundg (gk - 1)
              case measure => have := HNK.out; omega
              case rel => exact ⟨some ⟨g7, 0, none⟩, n1 + 1, cap7, _, yss ++ [[1]], by have := HNK.out; omega, HP9.out.1, HBd9.out, HC9.out, HK9.out⟩
            · have hl9i : ¬ (n1 : Int) < 9 := by omega
              go_wp2_with fail
              go_meet
              exact ⟨A1, n1, c1, g1, yss, hn9, HWq.out, HBq.out, HCq.out, HKq.out⟩
        · have e2 : (x == 2) = false := beq_false_of_ne h2
          have d2 : decide (x = 2) = false := decide_eq_false h2
          by_cases h3 : x = 3
          · subst h3
            have p0 := HWc.out.bcell
            have pf : u.frozen? ⟨BO, 0, none⟩ = false := HWc.out.bx.free 0
            have hlb := HWc.out.bx.lt
            have HCd := Lib.hid (HCc.out.below2 (below_drew u.heap.size u) (by omega))
            have HKe : Hid (∀ w' : World, u.grownBy w' none → w'.cell? ⟨BO, 0, none⟩ = some (.slice A1 n1 c1) ∧ w'.frozen? ⟨BO, 0, none⟩ = false) := fun w' hg => ⟨(cell_grown hg hlb (by simp)).trans p0, (frozen_grown hg hlb (by simp)).trans pf⟩
            go_upto_region 12 with fail
            refine wp_region_last (n := 9) (S := fun w' => w'.cell? ⟨BO, 0, none⟩ = some (.slice A1 n1 c1) ∧ w'.frozen? ⟨BO, 0, none⟩ = false) (by kernel_rfl) rfl (by kernel_rfl) (HKe.out _ (grown_drew _)) ?_
            intro hS; (try dsimp only at hS)
            simp only [List.take_succ_cons, List.take_zero, List.getElem_toArray, List.getElem_cons_succ, List.getElem_cons_zero]
            refine wpAnyH_take (i := 0) (v := ?v9x) rfl (by kernel_rfl) (by kernel_rfl) (by kernel_rfl) (fun _ _ _ h => h) (Or.inl ⟨by rfl, ?hy9x⟩) hS ?rest9x
            case hy9x => (intro w' hSw; (try dsimp only at hSw); go_simp; (try (with_reducible rfl)))
            (try simp only [Act.put, List.setIfInBounds_toArray, List.set_cons_zero, List.set_cons_succ, List.getElem_toArray, List.getElem_cons_succ, List.getElem_cons_zero])
            refine wpAnyH_take (i := 1) (v := ?v10x) rfl (by kernel_rfl) (by kernel_rfl) (by kernel_rfl) (fun _ _ _ h => h) (Or.inl ⟨by rfl, ?hy10x⟩) hS ?rest10x
            case hy10x => (intro w' hSw; (try dsimp only at hSw); go_simp; (try (with_reducible rfl)))
            (try simp only [Act.put, List.setIfInBounds_toArray, List.set_cons_zero, List.set_cons_succ, List.getElem_toArray, List.getElem_cons_succ, List.getElem_cons_zero])
            refine wpAnyH_take (i := 2) (v := ?v11x) rfl (by kernel_rfl) (by kernel_rfl) (by kernel_rfl) (fun _ _ _ h => h) (Or.inl ⟨by rfl, ?hy11x⟩) hS ?rest11x
            case hy11x => (intro w' hSw; (try dsimp only at hSw); go_simp; (try (with_reducible rfl)))
            (try simp only [Act.put, List.setIfInBounds_toArray, List.set_cons_zero, List.set_cons_succ, List.getElem_toArray, List.getElem_cons_succ, List.getElem_cons_zero])
            refine wpAnyH_ready (rs := [3]) (by kernel_rfl) (by simp) ?_
            refine AllReadyH.cons rfl (fun K hK => ?_) AllReadyH.nil
            (try dsimp only [List.getElem_toArray, List.getElem_cons_succ, List.getElem_cons_zero])
            go_simp
            refine hK.out _ _ (HKe.out _ ((grown_drew _).trans (grown_alloc _ _))) (fun hS9 => ?_)
            clear hK K hS; have hS := hS9; clear hS9; (try dsimp only at hS)
            (try simp only [Act.put, List.setIfInBounds_toArray, List.set_cons_zero, List.set_cons_succ, List.getElem_toArray, List.getElem_cons_succ, List.getElem_cons_zero])
            refine wpAnyH_ready (rs := [4]) (by kernel_rfl) (by simp) ?_
            refine AllReadyH.cons rfl (fun K hK => ?_) AllReadyH.nil
            (try dsimp only [List.getElem_toArray, List.getElem_cons_succ, List.getElem_cons_zero])
            (go_simp; (refine (pickLit g A n c 4 bs [256, 257, 1, -1] u.drew #[.int .i64 256, .int .i64 257, .int .i64 1, .int .i64 (-1)] 3 rfl rfl (by omega) (by omega) HU.out hn HCd.out).mono ?_); rintro e q3 ⟨y, rfl, hy, hcq, hoq⟩; dsimp only)
            have hyb : -1000 ≤ y ∧ y ≤ 1000 := by simp at hy; omega
            have hO3 : Only g (g + 1) u q3 := (Only.of_below (below_drew u.heap.size u) (Nat.le_refl _)).trans hoq
            have hz3 := hO3.size
            have HCq3 := Lib.hid hcq
            have HWq := Lib.hid (HWc.out.cur hO3 (by omega) (by omega))
            have hlq := HWq.out.bx.lt
            have hxb : some BO ≠ (Value.slice A1 n1 c1).ownBlock := fun e => HWq.out.offA e.symm
            have HKq : Hid (∀ w' : World, q3.grownBy w' (Value.slice A1 n1 c1).ownBlock → w'.cell? ⟨BO, 0, none⟩ = some (.slice A1 n1 c1) ∧ w'.frozen? ⟨BO, 0, none⟩ = false) := fun w' hg => ⟨(cell_grown hg hlq hxb).trans HWq.out.bcell, (frozen_grown hg hlq hxb).trans (HWq.out.bx.free 0)⟩
            refine hK.out _ _ (HKq.out _ ⟨rfl, rfl, rfl, Nat.le_refl _, fun _ _ _ => rfl⟩) (fun hS9 => ?_)
            clear hK K hS; have hS := hS9; clear hS9; (try dsimp only at hS)
            (try simp only [Act.put, List.setIfInBounds_toArray, List.set_cons_zero, List.set_cons_succ, List.getElem_toArray, List.getElem_cons_succ, List.getElem_cons_zero])
            refine wpAnyH_ready (rs := [5]) (by kernel_rfl) (by simp) ?_
            refine AllReadyH.cons rfl (fun K hK => ?_) AllReadyH.nil
            (try dsimp only [List.getElem_toArray, List.getElem_cons_succ, List.getElem_cons_zero])
            go_simp
            refine hK.out _ _ (HKq.out _ (grown_alloc _ _)) (fun hS9 => ?_)
            clear hK K hS; have hS := hS9; clear hS9; (try dsimp only at hS)
            (try simp only [Act.put, List.setIfInBounds_toArray, List.set_cons_zero, List.set_cons_succ, List.getElem_toArray, List.getElem_cons_succ, List.getElem_cons_zero])
            refine wpAnyH_ready (rs := [6]) (by kernel_rfl) (by simp) ?_
            refine AllReadyH.cons rfl (fun K hK => ?_) AllReadyH.nil
            (try dsimp only [List.getElem_toArray, List.getElem_cons_succ, List.getElem_cons_zero])
            go_simp
            refine hK.out _ _ (HKq.out _ ((grown_alloc _ _).trans (grown_alloc _ _))) (fun hS9 => ?_)
            clear hK K hS; have hS := hS9; clear hS9; (try dsimp only at hS)
            (try simp only [Act.put, List.setIfInBounds_toArray, List.set_cons_zero, List.set_cons_succ, List.getElem_toArray, List.getElem_cons_succ, List.getElem_cons_zero])
            refine wpAnyH_ready (rs := [7]) (by kernel_rfl) (by simp) ?_
            refine AllReadyH.cons rfl (fun K hK => ?_) AllReadyH.nil
            (try dsimp only [List.getElem_toArray, List.getElem_cons_succ, List.getElem_cons_zero])
            (rw [if_pos (by rfl)]; refine wp_append_lies _ _ _ _ (by rfl) (w.heap.size + 1) 54 i2 _ 1 24 Try.underlying24 HJ.out HJ0.out HJ1.out HJ2.out rfl (by omega) _ n1 (g1.map hdV) (by rfl) ((HWq.out.ow.hd.own.alloc _).alloc _) ⟨q3.heap.size + 1, 0, none⟩ 1 1 [.slice (some ⟨q3.heap.size, 0, none⟩) 1 1] (by rfl) (by rfl) (World.news_of_block (cs := #[.slice (some ⟨q3.heap.size, 0, none⟩) 1 1]) (t := 54) (fr := (0, 0)) (by have h7 := heap_alloc_new (q3.alloc (.cells #[.int .i64 y] 3)) (.cells #[.slice (some ⟨q3.heap.size, 0, none⟩) 1 1] 54); rwa [World.size_alloc] at h7)) (by simp [Value.oneCell']) (by omega) (by simp only [maxLen]; omega) (by omega) (by simp only [World.size_alloc]; omega) (q3.heap.size + 1 + 1) (by simp) ?_; intro g7 cap7 u6 hown7 hgrow7 hat7 hlt7)
            have hg7 : q3.grownBy u6 (Value.slice A1 n1 c1).ownBlock := ((grown_alloc _ _).trans (grown_alloc _ _)).trans hgrow7
            refine hK.out _ _ (HKq.out _ hg7) (fun hS9 => ?_)
            clear hK K hS; have hS := hS9; clear hS9; (try dsimp only at hS)
            (try simp only [Act.put, List.setIfInBounds_toArray, List.set_cons_zero, List.set_cons_succ, List.getElem_toArray, List.getElem_cons_succ, List.getElem_cons_zero])
            refine wpAnyH_take (i := 8) (v := ?v12x) rfl (by kernel_rfl) (by kernel_rfl) (by kernel_rfl) (fun _ _ _ h => h) (Or.inl ⟨by rfl, ?hy12x⟩) hS ?rest12x
            case hy12x => (intro w' hSw; (try dsimp only at hSw); go_simp; (try (with_reducible rfl)))
            (try simp only [Act.put, List.setIfInBounds_toArray, List.set_cons_zero, List.set_cons_succ, List.getElem_toArray, List.getElem_cons_succ, List.getElem_cons_zero])
            refine wpAnyH_done (by kernel_rfl) ?_ _
            refine fun K hK => ?_
            go_simp
            refine hK.out _ _ ?_
            clear hK K
            have HOy : Hid (Ow 3 u.heap.size ((q3.alloc (.cells #[.int .i64 y] 3)).alloc (.cells #[.slice (some ⟨q3.heap.size, 0, none⟩) 1 1] 54)).heap.size ((q3.alloc (.cells #[.int .i64 y] 3)).alloc (.cells #[.slice (some ⟨q3.heap.size, 0, none⟩) 1 1] 54)) (some ⟨q3.heap.size, 0, none⟩) 1 1 ([y].map (Value.int .i64))) := by
              have h1 : (q3.alloc (.cells #[.int .i64 y] 3)).ownsRow u.heap.size 3 1 (.slice (some ⟨q3.heap.size, 0, none⟩) 1 1) 1 ([y].map (Value.int .i64)) := World.ownsRow_lit (base := u.heap.size) (e := 3) (size := 1) q3 #[.int .i64 y] 1 (by omega) (by simp [maxLen]) rfl
              exact ((Ow.of h1).same (same_alloc _ (Nat.le_refl _))).wide (Nat.le_refl _) (by simp only [World.size_alloc]; omega)
            have hO9 : Only g (g + 1) u ((q3.alloc (.cells #[.int .i64 y] 3)).alloc (.cells #[.slice (some ⟨q3.heap.size, 0, none⟩) 1 1] 54)) := hO3.below_ (((below_alloc1 _).alloc (by simp only [World.size_alloc]; omega) _)) hz3
            have HP9 := Lib.hid (HWc.out.moreO (y := (some ⟨q3.heap.size, 0, none⟩, 1, 1)) (ys := [y]) (by omega) (by omega) hO9 (by omega) HOy.out hown7 hgrow7 (hat7.imp id (fun e => by simp only [World.size_alloc]; omega)))
            have HB9 : Hid (Below (w.heap.size + 1) q3 (u6.setCell ⟨BO, 0, none⟩ (.slice (some ⟨g7, 0, none⟩) (n1 + 1) cap7))) := ((((below_alloc1 _).alloc (by simp only [World.size_alloc]; omega) _)).mono (by omega)).trans HP9.out.2
            have HC9 := Lib.hid ((HCq3.out).below2 HB9.out (by omega))
            have HK9 := Lib.hid ((HKc.out.trans (KeptB.of_only hO3 (by omega))).trans (KeptB.of_below HB9.out (Nat.le_refl _)))
            have HBd9 := Lib.hid (bdQ_snoc (bdQ_of HBd.out) (ys := [y]) (by simp) (by simpa using hyb))
            clear hown7 hgrow7 hat7 hg7 hO9
            go_wp2_with fail
            go_meet
            exact ⟨some ⟨g7, 0, none⟩, n1 + 1, cap7, _, yss ++ [[y]], by omega, HP9.out.1, HBd9.out, HC9.out, HK9.out⟩
          · have e3 : (x == 3) = false := beq_false_of_ne h3
            have d3 : decide (x = 3) = false := decide_eq_false h3
            go_wp2_with fail
            go_meet
            exact ⟨A1, n1, c1, g1, yss, by omega, HWc.out, bdQ_of HBd.out, HCc.out, HKc.out⟩
  obtain ⟨A2, n2, c2, g2, zss, hn9, hw9, hb9, hc9, hk9⟩ := hcut
  obtain ⟨u9, rfl⟩ : ∃ u9 : World, u9 = wc := ⟨_, rfl⟩
  have HW9 := Lib.hid hw9; have HB9 := Lib.hid hb9; have HC9 := Lib.hid hc9; have HK9 := Lib.hid hk9
  clear hw9 hb9 hc9 hk9
  have q0 := HW9.out.bcell
  have HRb := HK9.out.bx HR.out (by omega) (by omega)
  have r0 := HRb.cells 0; have fr0 := HRb.free 0
  simp at r0
  have hfin : ∀ w9, w9 = u9.setCell ⟨w.heap.size, 0, none⟩ (.slice A2 n2 c2) → OwSS w.heap.size w9.heap.size w9 A2 n2 c2 g2 (iss zss) ∧ Cur w9 g A n c bs ∧ Only g (g + 1) w w9 := by
    intro w9 h9
    subst h9
    have hb9 : Below w.heap.size u9 (u9.setCell ⟨w.heap.size, 0, none⟩ (.slice A2 n2 c2)) := Below.setCell (p := ⟨w.heap.size, 0, none⟩) (Below.refl _ _) (Nat.le_refl _) _
    exact ⟨HW9.out.fin (by omega) (by omega), HC9.out.below2 hb9 hgw, (HK9.out.only HOv.out (by omega)).below_ hb9 (Nat.le_refl _)⟩
  have HFin := Lib.hid hfin
  clear hfin HRb
  go_wp2_with ((with_reducible refine bodyPost_ret (v := .agg #[.slice A2 n2 c2]) ?k1 ?k2 ?k3); (case k1 => (simp [results, Try.results43, go_sem, r0, fr0])); (case k2 => rfl); (case k3 => (exact ⟨A2, n2, c2, g2, zss, rfl, hn9, HB9.out, (HFin.out _ rfl).1, (HFin.out _ rfl).2.1, (HFin.out _ rfl).2.2⟩)))

set_option maxHeartbeats 4000000 in
theorem sDrawWindowDrop_any (A : Option Addr) (n c : Nat) (bs : List Int) (w : World) (h : Rd w A n (bs.map (Value.int .u8))) (hu : ∀ z ∈ bs, 0 ≤ z ∧ z ≤ 255) (hn : n ≤ 1073741824) :
    Calls Try.prog 23 #[.slice A n c] w fun e w' => ∃ (A' : Option Addr) (n' c' : Nat) (hs : List Hd) (xss : List (List Int)), e = .returned (.agg #[.slice A' n' c']) ∧ n' ≤ 9 ∧ bdQ xss ∧ OwSS w.heap.size w'.heap.size w' A' n' c' hs (iss xss) ∧ Below w.heap.size w w' := by
  have H := Lib.hid h
  have HU := Lib.hid hu
  clear h hu
  have B0 := Below.refl w.heap.size w
  have s0 : w.heap.size ≤ w.heap.size := Nat.le_refl _
  go_enter Try.func23, Try.ntmps23
  have r_2 : Bx (w.alloc (.cells #[.slice none 0 0] 26)) (w.heap.size) 26 #[.slice none 0 0] := Bx.new _ _ _
  have B_2 := B0.alloc s0 (.cells #[.slice none 0 0] 26)
  clear B0
  have cr_3 := r_2.cells
  have fr_3 := r_2.free
  clear cr_3 fr_3
  have HB0 := Lib.hid B_2; have HR0 := Lib.hid r_2
  clear B_2 r_2
  go_wp2_with fail
  refine (l1New_any A n c bs _ (H.out.below HB0.out (Nat.le_refl _)) HU.out hn).mono ?_
  rintro e v0 ⟨g, rfl, hg, hc, hb⟩
  rw [World.size_alloc] at hg
  have s0' := hb.size
  rw [World.size_alloc] at s0'
  have HR1 := Lib.hid (HR0.out.same (same_below hb (by rw [World.size_alloc]; omega)))
  have HB1 : Hid (Below w.heap.size w v0) := HB0.out.trans (hb.mono (by rw [World.size_alloc]; omega))
  have HC := Lib.hid hc
  have hgw := hc.lt
  clear hb hc HR0 HB0
  go_wp2_with fail
  refine (l16Draw_any g A n c bs _ HU.out hn HC.out).mono ?_
  rintro e v1 ⟨A1, n1, c1, g1, xss, rfl, hn9, hbd, o, hc, ho⟩
  have s1 := ho.size
  have HR2 := HR1.out.same (same_only ho (by omega) (by omega))
  have HB2 : Hid (Below w.heap.size w v1) := HB1.out.trans (ho.below (by omega) (by omega))
  have HOw := Lib.hid o; have HBd := Lib.hid hbd
  have r0 := HR2.cells 0; have fr0 := HR2.free 0
  simp at r0
  have hfin : ∀ w9, w9 = v1.setCell ⟨w.heap.size, 0, none⟩ (.slice A1 n1 c1) → OwSS w.heap.size w9.heap.size w9 A1 n1 c1 g1 (iss xss) ∧ Below w.heap.size w w9 := by
    intro w9 h9
    subst h9
    rw [setc_size]
    exact ⟨(HOw.out.same (same_setc (by omega))).wide (by omega) (Nat.le_refl _), Below.setCell (p := ⟨w.heap.size, 0, none⟩) HB2.out (Nat.le_refl _) _⟩
  have HFin := Lib.hid hfin
  clear hfin ho hc o hbd HR2
  go_wp2_with ((with_reducible refine bodyPost_ret (v := .agg #[.slice A1 n1 c1]) ?k1 ?k2 ?k3); (case k1 => (simp [results, Try.results23, go_sem, r0, fr0])); (case k2 => rfl); (case k3 => (exact ⟨A1, n1, c1, g1, xss, rfl, hn9, HBd.out, (HFin.out _ rfl).1, (HFin.out _ rfl).2⟩)))

end Go.Proofs.Ytnljlehbjdambaa
