/-
  Draws of schemas, statistics and forks.
-/
import Derived.Test.YtchkmcikpamdeaaDraw8C
import Derived.Deep.CutBlock
namespace Go.Proofs.Ytchkmcikpamdeaa
open Go.RowKit
set_option linter.unusedSimpArgs false
set_option linter.unusedVariables false

/-- What DrawMerit may answer. -/
def DrawMeritR (w : World) (e : Ending) (w' : World) : Prop :=
  ∃ (S1 : Option Addr) (sn sc : Nat) (S2 : Option Addr) (sm sd : Nat) (hs : List AH) (ats : List AD) (cs : List ByteArray) (T : Option Addr) (q qc : Nat) (X : Option Addr) (p pc : Nat) (gs : List Hd) (ts : List Int) (xss : List (List Int)) (fa ft : Int), e = .returned (.tuple #[.agg #[.slice S1 sn sc, .slice S2 sm sd], .agg #[.slice T q qc, .slice X p pc], .agg #[.int .i64 fa, .int .i64 ft]]) ∧ SchF (fun j => w.heap.size ≤ j) w' S1 S2 sn sm sd hs ats cs ∧ StaF (fun j => w.heap.size ≤ j) w' T X q p gs ts xss ∧ Below w.heap.size w w'
set_option maxRecDepth 20000 in
set_option maxHeartbeats 8000000 in
theorem sDrawMerit_any (A : Option Addr) (n c : Nat) (bs : List Int) (w : World) (h : Rd w A n (bs.map (Value.int .u8))) (hu : ∀ z ∈ bs, 0 ≤ z ∧ z ≤ 255) (hn : n ≤ 1073741824) :
    Calls Try.prog 25 #[.slice A n c] w (DrawMeritR w) := by
  have HR := Lib.hid h
  have HU := Lib.hid hu
  clear h hu
  have B0 := Below.refl w.heap.size w
  have s0 : w.heap.size ≤ w.heap.size := Nat.le_refl _
  go_enter Try.func25, Try.ntmps25
  have rs_2 : Bx (w.alloc (.cells #[.slice none 0 0, .slice none 0 0] 40)) (w.heap.size) 40 #[.slice none 0 0, .slice none 0 0] := Bx.new _ _ _
  have B_2 := B0.alloc s0 (.cells #[.slice none 0 0, .slice none 0 0] 40)
  clear B0
  have crs_3 := rs_2.cells
  have frs_3 := rs_2.free
  clear crs_3 frs_3
  have rs_4 := rs_2.same (same_alloc (.cells #[.slice none 0 0, .slice none 0 0] 35) (by simp only [World.size_alloc]; omega))
  clear rs_2
  have rt_5 : Bx ((w.alloc (.cells #[.slice none 0 0, .slice none 0 0] 40)).alloc (.cells #[.slice none 0 0, .slice none 0 0] 35)) (w.heap.size + 1) 35 #[.slice none 0 0, .slice none 0 0] := by
    have h := Bx.new (w.alloc (.cells #[.slice none 0 0, .slice none 0 0] 40)) 35 #[.slice none 0 0, .slice none 0 0]
    simpa only [World.size_alloc] using h
  have B_5 := B_2.alloc (by simp only [World.size_alloc]; omega) (.cells #[.slice none 0 0, .slice none 0 0] 35)
  clear B_2
  have crs_6 := rs_4.cells
  have frs_6 := rs_4.free
  have crt_7 := rt_5.cells
  have frt_7 := rt_5.free
  clear crs_6 frs_6
  clear crt_7 frt_7
  have rs_8 := rs_4.same (same_alloc (.cells #[.int .i64 0, .int .i64 0] 55) (by simp only [World.size_alloc]; omega))
  clear rs_4
  have rt_8 := rt_5.same (same_alloc (.cells #[.int .i64 0, .int .i64 0] 55) (by simp only [World.size_alloc]; omega))
  clear rt_5
  have rf_9 : Bx (((w.alloc (.cells #[.slice none 0 0, .slice none 0 0] 40)).alloc (.cells #[.slice none 0 0, .slice none 0 0] 35)).alloc (.cells #[.int .i64 0, .int .i64 0] 55)) (w.heap.size + 1 + 1) 55 #[.int .i64 0, .int .i64 0] := by
    have h := Bx.new ((w.alloc (.cells #[.slice none 0 0, .slice none 0 0] 40)).alloc (.cells #[.slice none 0 0, .slice none 0 0] 35)) 55 #[.int .i64 0, .int .i64 0]
    simpa only [World.size_alloc] using h
  have B_9 := B_5.alloc (by simp only [World.size_alloc]; omega) (.cells #[.int .i64 0, .int .i64 0] 55)
  clear B_5
  have crs_10 := rs_8.cells
  have frs_10 := rs_8.free
  have crt_11 := rt_8.cells
  have frt_11 := rt_8.free
  have crf_12 := rf_9.cells
  have frf_12 := rf_9.free
  go_wp2_with fail
  clear crs_10 frs_10
  clear crt_11 frt_11
  clear crf_12 frf_12
  obtain ⟨v13, hv13⟩ : ∃ v13, v13 = (((w.alloc (.cells #[.slice none 0 0, .slice none 0 0] 40)).alloc (.cells #[.slice none 0 0, .slice none 0 0] 35)).alloc (.cells #[.int .i64 0, .int .i64 0] 55)) := ⟨_, rfl⟩
  have zv13 : w.heap.size + 1 + 1 + 1 ≤ v13.heap.size := by rw [hv13]; simp
  rw [← hv13] at rs_8 rt_8 rf_9 B_9 ⊢
  clear hv13
  have Hrs0 := Lib.hid rs_8
  have Hrt0 := Lib.hid rt_8
  have Hrf0 := Lib.hid rf_9
  have HB0 := Lib.hid B_9
  have HR0 := Lib.hid (HR.out.below B_9 (Nat.le_refl _))
  clear rs_8 rt_8 rf_9 B_9
  refine (l1New_any A n c bs _ HR0.out HU.out hn).mono ?_
  rintro e v0 ⟨g, rfl, hg, hc, hb⟩
  have s0_ := hb.size
  have K0 := Keeps.below (P := fun j => True) hb (Nat.le_refl _)
  have Hrs1 := Lib.hid (Hrs0.out.keep K0 trivial)
  have Hrt1 := Lib.hid (Hrt0.out.keep K0 trivial)
  have Hrf1 := Lib.hid (Hrf0.out.keep K0 trivial)
  have HB1 := Lib.hid (HB0.out.trans (hb.mono (by omega)))
  have HC1 := Lib.hid hc
  have hgw := hc.lt
  have hg2 : w.heap.size + 1 + 1 + 1 ≤ g := by omega
  clear hb hc K0 HB0 HR0 Hrs0 Hrt0 Hrf0
  go_wp2_with fail
  refine (l5Draw_any g A n c bs _ HU.out hn HC1.out).mono ?_
  rintro e x1 ⟨S1, sn, sc, S2, sm, sd, hs, ats, cs, rfl, hrd, hc1, ho1⟩
  have sx1 := ho1.size
  have Kx := keeps_cur ho1
  have Hrs1x := Lib.hid (Hrs1.out.keep Kx (by omega))
  have Hrt1x := Lib.hid (Hrt1.out.keep Kx (by omega))
  have Hrf1x := Lib.hid (Hrf1.out.keep Kx (by omega))
  obtain ⟨BS, hBS⟩ : ∃ BS, BS = x1.heap.size := ⟨_, rfl⟩
  obtain ⟨y1, hy1⟩ : ∃ y1, y1 = x1.alloc (.cells #[.slice S1 sn sc, .slice S2 sm sd] 40) := ⟨_, rfl⟩
  have Ky : Keeps (fun j => True) x1 y1 := by rw [hy1]; exact Keeps.alloc _
  have zy1 : y1.heap.size = BS + 1 := by rw [hy1, World.size_alloc, hBS]
  have Hrs2 := Lib.hid (Hrs1x.out.keep Ky trivial)
  have Hrt2 := Lib.hid (Hrt1x.out.keep Ky trivial)
  have Hrf2 := Lib.hid (Hrf1x.out.keep Ky trivial)
  have Hs2 := Lib.hid ((hrd.keep (Ky.mono (fun _ _ => trivial))).mono (Q := (fun j => v0.heap.size ≤ j)) (fun j hj _ => hj))
  have HBS2 : Hid (Bx y1 BS 40 #[.slice S1 sn sc, .slice S2 sm sd]) := by rw [hy1, hBS]; exact Bx.new _ _ _
  have HC2 : Hid (Cur y1 g A n c bs) := by rw [hy1]; exact hc1.below (below_alloc1 _) (Nat.le_refl _)
  have HB2 : Hid (Below w.heap.size w y1) := by rw [hy1]; exact (HB1.out.trans (ho1.below (by omega) (by omega))).alloc (by omega) _
  have HY := Lib.hid hy1; have HBO := Lib.hid hBS
  have lbBS : BS < y1.heap.size := by omega
  have lcBS : v0.heap.size ≤ BS := by omega
  have ldBS : x1.heap.size ≤ BS := by omega
  clear Hrs1 Hrs1x Hrt1 Hrt1x Hrf1 Hrf1x HC1 HB1 Kx Ky hc1 ho1 hy1 hBS zy1 hrd
  go_wp2_with fail
  rw [← HY.out, ← HBO.out]
  clear HY HBO
  refine (l8Draw_any g A n c bs _ HU.out hn HC2.out S1 S2 sn sc sm sd hs ats cs (Hs2.out.mono (fun j hj _ => by have hj2 : v0.heap.size ≤ j := hj; omega))).mono ?_
  rintro e x2 ⟨T, q, qc, X, p, pc, gs, ts, xss, rfl, hrd, hc1, ho1⟩
  have sx2 := ho1.size
  have Kx := keeps_cur ho1
  have Hrs2x := Lib.hid (Hrs2.out.keep Kx (by omega))
  have Hrt2x := Lib.hid (Hrt2.out.keep Kx (by omega))
  have Hrf2x := Lib.hid (Hrf2.out.keep Kx (by omega))
  have HBS2x := Lib.hid (HBS2.out.keep Kx (by omega))
  have Hs2x := Lib.hid (Hs2.out.keep (Kx.mono (fun j hj => by have hj2 : v0.heap.size ≤ j := hj; omega)))
  have pb0 : x2.cell? ⟨BS, 0, none⟩ = some (.slice S1 sn sc) := HBS2x.out.cells 0
  have pb1 : x2.cell? ⟨BS, 1, none⟩ = some (.slice S2 sm sd) := HBS2x.out.cells 1
  have lbx : BS < x2.heap.size := by have := HBS2x.out.lt; omega
  obtain ⟨BT, hBT⟩ : ∃ BT, BT = x2.heap.size := ⟨_, rfl⟩
  obtain ⟨y2, hy2⟩ : ∃ y2, y2 = x2.alloc (.cells #[.slice T q qc, .slice X p pc] 35) := ⟨_, rfl⟩
  have Ky : Keeps (fun j => True) x2 y2 := by rw [hy2]; exact Keeps.alloc _
  have zy2 : y2.heap.size = BT + 1 := by rw [hy2, World.size_alloc, hBT]
  have Hrs3 := Lib.hid (Hrs2x.out.keep Ky trivial)
  have Hrt3 := Lib.hid (Hrt2x.out.keep Ky trivial)
  have Hrf3 := Lib.hid (Hrf2x.out.keep Ky trivial)
  have HBS3 := Lib.hid (HBS2x.out.keep Ky trivial)
  have Hs3 := Lib.hid (Hs2x.out.keep (Ky.mono (fun _ _ => trivial)))
  have Ht3 := Lib.hid ((hrd.keep (Ky.mono (fun _ _ => trivial))).mono (Q := (fun j => v0.heap.size ≤ j)) (fun j hj _ => by have hj2 : _ ≤ j := hj; omega))
  have HBT3 : Hid (Bx y2 BT 35 #[.slice T q qc, .slice X p pc]) := by rw [hy2, hBT]; exact Bx.new _ _ _
  have HC3 : Hid (Cur y2 g A n c bs) := by rw [hy2]; exact hc1.below (below_alloc1 _) (Nat.le_refl _)
  have HB3 : Hid (Below w.heap.size w y2) := by rw [hy2]; exact (HB2.out.trans (ho1.below (by omega) (by omega))).alloc (by omega) _
  have HY := Lib.hid hy2; have HBO := Lib.hid hBT
  have lbBT : BT < y2.heap.size := by omega
  have lcBT : v0.heap.size ≤ BT := by omega
  have ldBT : x2.heap.size ≤ BT := by omega
  clear Hrs2 Hrs2x Hrt2 Hrt2x Hrf2 Hrf2x HBS2 HBS2x Hs2 Hs2x HC2 HB2 Kx Ky hc1 ho1 hy2 hBT zy2 hrd
  have HKe : Hid (∀ w' : World, Keeps (fun j => v0.heap.size ≤ j ∧ j ≠ g) y2 w' → w'.cell? ⟨BS, 0, none⟩ = some (.slice S1 sn sc) ∧ w'.cell? ⟨BS, 1, none⟩ = some (.slice S2 sm sd) ∧ w'.cell? ⟨BT, 0, none⟩ = some (.slice T q qc) ∧ w'.cell? ⟨BT, 1, none⟩ = some (.slice X p pc)) := fun w' hk => by
    have e1 := HBS3.out.keep hk (by omega)
    have e2 := HBT3.out.keep hk (by omega)
    exact ⟨e1.cells 0, e1.cells 1, e2.cells 0, e2.cells 1⟩
  have HCd := Lib.hid (HC3.out.below2 (below_drew y2.heap.size y2) (by omega))
  go_upto_region 4 with fail
  rw [← HY.out, ← HBO.out]
  clear HY HBO pb0 pb1 lbx
  skip
  refine wp_region_held_drew (S := fun w' => w'.cell? ⟨BS, 0, none⟩ = some (.slice S1 sn sc) ∧ w'.cell? ⟨BS, 1, none⟩ = some (.slice S2 sm sd) ∧ w'.cell? ⟨BT, 0, none⟩ = some (.slice T q qc) ∧ w'.cell? ⟨BT, 1, none⟩ = some (.slice X p pc)) (by kernel_rfl) (HKe.out _ Keeps.drew) ?_
  intro hS; (try dsimp only at hS)
  refine wpAnyH_take (i := 0) (v := ?v1x) rfl (by kernel_rfl) (by kernel_rfl) (by kernel_rfl) (fun _ _ _ h => h) (Or.inl ⟨by rfl, ?hy1x⟩) hS ?rest1x
  case hy1x => (intro w' hSw; (try dsimp only at hSw); go_simp; (try (with_reducible rfl)))
  (try simp only [Act.put, List.setIfInBounds_toArray, List.set_cons_zero, List.set_cons_succ, List.getElem_toArray, List.getElem_cons_succ, List.getElem_cons_zero])
  refine wpAnyH_take (i := 1) (v := ?v2x) rfl (by kernel_rfl) (by kernel_rfl) (by kernel_rfl) (fun _ _ _ h => h) (Or.inl ⟨by rfl, ?hy2x⟩) hS ?rest2x
  case hy2x => (intro w' hSw; (try dsimp only at hSw); go_simp; (try (with_reducible rfl)))
  (try simp only [Act.put, List.setIfInBounds_toArray, List.set_cons_zero, List.set_cons_succ, List.getElem_toArray, List.getElem_cons_succ, List.getElem_cons_zero])
  refine wpAnyH_take (i := 2) (v := ?v3x) rfl (by kernel_rfl) (by kernel_rfl) (by kernel_rfl) (fun _ _ _ h => h) (Or.inl ⟨by rfl, ?hy3x⟩) hS ?rest3x
  case hy3x => (intro w' hSw; (try dsimp only at hSw); go_simp; (try (with_reducible rfl)))
  (try simp only [Act.put, List.setIfInBounds_toArray, List.set_cons_zero, List.set_cons_succ, List.getElem_toArray, List.getElem_cons_succ, List.getElem_cons_zero])
  refine wpAnyH_take (i := 3) (v := ?v4x) rfl (by kernel_rfl) (by kernel_rfl) (by kernel_rfl) (fun _ _ _ h => h) (Or.inl ⟨by rfl, ?hy4x⟩) hS ?rest4x
  case hy4x => (intro w' hSw; (try dsimp only at hSw); go_simp; (try (with_reducible rfl)))
  (try simp only [Act.put, List.setIfInBounds_toArray, List.set_cons_zero, List.set_cons_succ, List.getElem_toArray, List.getElem_cons_succ, List.getElem_cons_zero])
  refine wpAnyH_ready (rs := [4]) (by kernel_rfl) (by simp) ?_
  refine AllReadyH.cons rfl (fun K hK => ?_) AllReadyH.nil
  (try dsimp only [List.getElem_toArray, List.getElem_cons_succ, List.getElem_cons_zero])
  (go_simp; (refine (l9Draw_any g A n c bs _ HU.out hn HCd.out S1 S2 sn sc sm sd hs ats cs ((Hs3.out.mono (Q := (· ≠ g)) (fun j hj _ => by have hj2 : v0.heap.size ≤ j := hj; omega)).keep Keeps.drew)).mono ?_); rintro e q3 ⟨fa, ft, rfl, hcq, hoq⟩; dsimp only)
  have hO3 : Only g (g + 1) y2 q3 := (Only.of_below (below_drew y2.heap.size y2) (Nat.le_refl _)).trans hoq
  have hz3 := hO3.size
  have K3 := Lib.hid (keeps_cur hO3)
  have Hrsq := Lib.hid (Hrs3.out.keep K3.out (by omega))
  have Hrtq := Lib.hid (Hrt3.out.keep K3.out (by omega))
  have Hrfq := Lib.hid (Hrf3.out.keep K3.out (by omega))
  have HBSq := Lib.hid (HBS3.out.keep K3.out (by omega))
  have Hsq := Lib.hid (Hs3.out.keep (K3.out.mono (fun j hj => by have hj2 : v0.heap.size ≤ j := hj; omega)))
  have HBTq := Lib.hid (HBT3.out.keep K3.out (by omega))
  have Htq := Lib.hid (Ht3.out.keep (K3.out.mono (fun j hj => by have hj2 : v0.heap.size ≤ j := hj; omega)))
  have HBq : Hid (Below w.heap.size w q3) := HB3.out.trans (hO3.below (by omega) (by omega))
  have krs0 : q3.cell? ⟨w.heap.size, 0, none⟩ = some (.slice none 0 0) := Hrsq.out.cells 0
  have frs0 : q3.frozen? ⟨w.heap.size, 0, none⟩ = false := Hrsq.out.free 0
  have krs1 : q3.cell? ⟨w.heap.size, 1, none⟩ = some (.slice none 0 0) := Hrsq.out.cells 1
  have frs1 : q3.frozen? ⟨w.heap.size, 1, none⟩ = false := Hrsq.out.free 1
  have krt0 : q3.cell? ⟨w.heap.size + 1, 0, none⟩ = some (.slice none 0 0) := Hrtq.out.cells 0
  have frt0 : q3.frozen? ⟨w.heap.size + 1, 0, none⟩ = false := Hrtq.out.free 0
  have krt1 : q3.cell? ⟨w.heap.size + 1, 1, none⟩ = some (.slice none 0 0) := Hrtq.out.cells 1
  have frt1 : q3.frozen? ⟨w.heap.size + 1, 1, none⟩ = false := Hrtq.out.free 1
  have krf0 : q3.cell? ⟨w.heap.size + 1 + 1, 0, none⟩ = some (.int .i64 0) := Hrfq.out.cells 0
  have frf0 : q3.frozen? ⟨w.heap.size + 1 + 1, 0, none⟩ = false := Hrfq.out.free 0
  have krf1 : q3.cell? ⟨w.heap.size + 1 + 1, 1, none⟩ = some (.int .i64 0) := Hrfq.out.cells 1
  have frf1 : q3.frozen? ⟨w.heap.size + 1 + 1, 1, none⟩ = false := Hrfq.out.free 1
  refine hK.out _ _ (HKe.out _ ((K3.out.mono (fun j hj => hj.2)))) (fun hS9 => ?_)
  clear hK K hS; have hS := hS9; clear hS9; (try dsimp only at hS)
  (try simp only [Act.put, List.setIfInBounds_toArray, List.set_cons_zero, List.set_cons_succ, List.getElem_toArray, List.getElem_cons_succ, List.getElem_cons_zero])
  refine wpAnyH_ready (rs := [5]) (by kernel_rfl) (by simp) ?_
  refine AllReadyH.cons rfl (fun K hK => ?_) AllReadyH.nil
  (try dsimp only [List.getElem_toArray, List.getElem_cons_succ, List.getElem_cons_zero])
  go_simp
  refine hK.out _ _ (HKe.out _ ((((K3.out.mono (fun j hj => hj.2))).trans ((Keeps.set (by show ¬ (_ ≤ _ ∧ _); omega)).trans (Keeps.set (by show ¬ (_ ≤ _ ∧ _); omega)))))) (fun hS9 => ?_)
  clear hK K hS; have hS := hS9; clear hS9; (try dsimp only at hS)
  (try simp only [Act.put, List.setIfInBounds_toArray, List.set_cons_zero, List.set_cons_succ, List.getElem_toArray, List.getElem_cons_succ, List.getElem_cons_zero])
  refine wpAnyH_ready (rs := [6]) (by kernel_rfl) (by simp) ?_
  refine AllReadyH.cons rfl (fun K hK => ?_) AllReadyH.nil
  (try dsimp only [List.getElem_toArray, List.getElem_cons_succ, List.getElem_cons_zero])
  go_simp
  refine hK.out _ _ (HKe.out _ ((((((K3.out.mono (fun j hj => hj.2))).trans ((Keeps.set (by show ¬ (_ ≤ _ ∧ _); omega)).trans (Keeps.set (by show ¬ (_ ≤ _ ∧ _); omega))))).trans ((Keeps.set (by show ¬ (_ ≤ _ ∧ _); omega)).trans (Keeps.set (by show ¬ (_ ≤ _ ∧ _); omega)))))) (fun hS9 => ?_)
  clear hK K hS; have hS := hS9; clear hS9; (try dsimp only at hS)
  (try simp only [Act.put, List.setIfInBounds_toArray, List.set_cons_zero, List.set_cons_succ, List.getElem_toArray, List.getElem_cons_succ, List.getElem_cons_zero])
  refine wpAnyH_ready (rs := [7]) (by kernel_rfl) (by simp) ?_
  refine AllReadyH.cons rfl (fun K hK => ?_) AllReadyH.nil
  (try dsimp only [List.getElem_toArray, List.getElem_cons_succ, List.getElem_cons_zero])
  go_simp
  refine hK.out _ _ (HKe.out _ ((((((((K3.out.mono (fun j hj => hj.2))).trans ((Keeps.set (by show ¬ (_ ≤ _ ∧ _); omega)).trans (Keeps.set (by show ¬ (_ ≤ _ ∧ _); omega))))).trans ((Keeps.set (by show ¬ (_ ≤ _ ∧ _); omega)).trans (Keeps.set (by show ¬ (_ ≤ _ ∧ _); omega))))).trans ((Keeps.set (by show ¬ (_ ≤ _ ∧ _); omega)).trans (Keeps.set (by show ¬ (_ ≤ _ ∧ _); omega)))))) (fun hS9 => ?_)
  clear hK K hS; have hS := hS9; clear hS9; (try dsimp only at hS)
  (try simp only [Act.put, List.setIfInBounds_toArray, List.set_cons_zero, List.set_cons_succ, List.getElem_toArray, List.getElem_cons_succ, List.getElem_cons_zero])
  refine wpAnyH_done (by kernel_rfl) ?_ _
  skip
  obtain ⟨w9, h9⟩ : ∃ w9, w9 = ((((((q3.setCell ⟨w.heap.size, 0, none⟩ (.slice S1 sn sc)).setCell ⟨w.heap.size, 1, none⟩ (.slice S2 sm sd)).setCell ⟨w.heap.size + 1, 0, none⟩ (.slice T q qc)).setCell ⟨w.heap.size + 1, 1, none⟩ (.slice X p pc)).setCell ⟨w.heap.size + 1 + 1, 0, none⟩ (.int .i64 fa)).setCell ⟨w.heap.size + 1 + 1, 1, none⟩ (.int .i64 ft)) := ⟨_, rfl⟩
  rw [← h9]
  have K9 : Keeps (fun j => v0.heap.size ≤ j) q3 w9 := by rw [h9]; exact ((((((Keeps.refl _ _).trans (Keeps.set (by show ¬ (_ ≤ _); omega))).trans (Keeps.set (by show ¬ (_ ≤ _); omega))).trans (Keeps.set (by show ¬ (_ ≤ _); omega))).trans (Keeps.set (by show ¬ (_ ≤ _); omega))).trans (Keeps.set (by show ¬ (_ ≤ _); omega))).trans (Keeps.set (by show ¬ (_ ≤ _); omega))
  have B9 : Below w.heap.size q3 w9 := by rw [h9]; exact ((((((Below.refl w.heap.size q3).setCell (p := ⟨w.heap.size, 0, none⟩) (show w.heap.size ≤ w.heap.size by omega) _).setCell (p := ⟨w.heap.size, 1, none⟩) (show w.heap.size ≤ w.heap.size by omega) _).setCell (p := ⟨w.heap.size + 1, 0, none⟩) (show w.heap.size ≤ w.heap.size + 1 by omega) _).setCell (p := ⟨w.heap.size + 1, 1, none⟩) (show w.heap.size ≤ w.heap.size + 1 by omega) _).setCell (p := ⟨w.heap.size + 1 + 1, 0, none⟩) (show w.heap.size ≤ w.heap.size + 1 + 1 by omega) _).setCell (p := ⟨w.heap.size + 1 + 1, 1, none⟩) (show w.heap.size ≤ w.heap.size + 1 + 1 by omega) _
  have xrs : Bx w9 (w.heap.size) 40 #[.slice S1 sn sc, .slice S2 sm sd] := by rw [h9]; exact ((((((Hrsq.out.set_ 0 (.slice S1 sn sc)).set_ 1 (.slice S2 sm sd)).keep (Keeps.set (P := fun j => j ≠ w.heap.size + 1) (b := w.heap.size + 1) (i := 0) (u := .slice T q qc) (by simp)) (by omega)).keep (Keeps.set (P := fun j => j ≠ w.heap.size + 1) (b := w.heap.size + 1) (i := 1) (u := .slice X p pc) (by simp)) (by omega)).keep (Keeps.set (P := fun j => j ≠ w.heap.size + 1 + 1) (b := w.heap.size + 1 + 1) (i := 0) (u := .int .i64 fa) (by simp)) (by omega)).keep (Keeps.set (P := fun j => j ≠ w.heap.size + 1 + 1) (b := w.heap.size + 1 + 1) (i := 1) (u := .int .i64 ft) (by simp)) (by omega))
  have zrs0 : w9.cell? ⟨w.heap.size, 0, none⟩ = some (.slice S1 sn sc) := xrs.cells 0
  have zfrs0 := xrs.free 0
  have zrs1 : w9.cell? ⟨w.heap.size, 1, none⟩ = some (.slice S2 sm sd) := xrs.cells 1
  have zfrs1 := xrs.free 1
  have xrt : Bx w9 (w.heap.size + 1) 35 #[.slice T q qc, .slice X p pc] := by rw [h9]; exact ((((((Hrtq.out.keep (Keeps.set (P := fun j => j ≠ w.heap.size) (b := w.heap.size) (i := 0) (u := .slice S1 sn sc) (by simp)) (by omega)).keep (Keeps.set (P := fun j => j ≠ w.heap.size) (b := w.heap.size) (i := 1) (u := .slice S2 sm sd) (by simp)) (by omega)).set_ 0 (.slice T q qc)).set_ 1 (.slice X p pc)).keep (Keeps.set (P := fun j => j ≠ w.heap.size + 1 + 1) (b := w.heap.size + 1 + 1) (i := 0) (u := .int .i64 fa) (by simp)) (by omega)).keep (Keeps.set (P := fun j => j ≠ w.heap.size + 1 + 1) (b := w.heap.size + 1 + 1) (i := 1) (u := .int .i64 ft) (by simp)) (by omega))
  have zrt0 : w9.cell? ⟨w.heap.size + 1, 0, none⟩ = some (.slice T q qc) := xrt.cells 0
  have zfrt0 := xrt.free 0
  have zrt1 : w9.cell? ⟨w.heap.size + 1, 1, none⟩ = some (.slice X p pc) := xrt.cells 1
  have zfrt1 := xrt.free 1
  have xrf : Bx w9 (w.heap.size + 1 + 1) 55 #[.int .i64 fa, .int .i64 ft] := by rw [h9]; exact ((((((Hrfq.out.keep (Keeps.set (P := fun j => j ≠ w.heap.size) (b := w.heap.size) (i := 0) (u := .slice S1 sn sc) (by simp)) (by omega)).keep (Keeps.set (P := fun j => j ≠ w.heap.size) (b := w.heap.size) (i := 1) (u := .slice S2 sm sd) (by simp)) (by omega)).keep (Keeps.set (P := fun j => j ≠ w.heap.size + 1) (b := w.heap.size + 1) (i := 0) (u := .slice T q qc) (by simp)) (by omega)).keep (Keeps.set (P := fun j => j ≠ w.heap.size + 1) (b := w.heap.size + 1) (i := 1) (u := .slice X p pc) (by simp)) (by omega)).set_ 0 (.int .i64 fa)).set_ 1 (.int .i64 ft))
  have zrf0 : w9.cell? ⟨w.heap.size + 1 + 1, 0, none⟩ = some (.int .i64 fa) := xrf.cells 0
  have zfrf0 := xrf.free 0
  have zrf1 : w9.cell? ⟨w.heap.size + 1 + 1, 1, none⟩ = some (.int .i64 ft) := xrf.cells 1
  have zfrf1 := xrf.free 1
  have HP1 := Lib.hid ((Hsq.out.keep K9).mono (Q := fun j => w.heap.size ≤ j) (fun j hj _ => by have hj2 : v0.heap.size ≤ j := hj; omega))
  have HP2 := Lib.hid ((Htq.out.keep K9).mono (Q := fun j => w.heap.size ≤ j) (fun j hj _ => by have hj2 : v0.heap.size ≤ j := hj; omega))
  have HP4 := Lib.hid (HBq.out.trans B9)
  clear h9 K9 B9 xrs xrt xrf
  go_wp2_with ((with_reducible refine bodyPost_ret (v := .tuple #[.agg #[.slice S1 sn sc, .slice S2 sm sd], .agg #[.slice T q qc, .slice X p pc], .agg #[.int .i64 fa, .int .i64 ft]]) ?k1 ?k2 ?k3); (case k1 => (simp [results, Try.results25, go_sem, zrs0, zfrs0, zrs1, zfrs1, zrt0, zfrt0, zrt1, zfrt1, zrf0, zfrf0, zrf1, zfrf1])); (case k2 => rfl); (case k3 => (exact ⟨S1, sn, sc, S2, sm, sd, hs, ats, cs, T, q, qc, X, p, pc, gs, ts, xss, fa, ft, rfl, HP1.out, HP2.out, HP4.out⟩)))

/-- What DrawBranchTotals may answer. -/
def DrawBranchTotalsR (w : World) (e : Ending) (w' : World) : Prop :=
  ∃ (S1 : Option Addr) (sn sc : Nat) (S2 : Option Addr) (sm sd : Nat) (hs : List AH) (ats : List AD) (cs : List ByteArray) (T : Option Addr) (q qc : Nat) (X : Option Addr) (p pc : Nat) (gs : List Hd) (ts : List Int) (xss : List (List Int)) (fa ft : Int) (y : Int), e = .returned (.tuple #[.agg #[.slice S1 sn sc, .slice S2 sm sd], .agg #[.slice T q qc, .slice X p pc], .agg #[.int .i64 fa, .int .i64 ft], .int .i64 y]) ∧ SchF (fun j => w.heap.size ≤ j) w' S1 S2 sn sm sd hs ats cs ∧ StaF (fun j => w.heap.size ≤ j) w' T X q p gs ts xss ∧ Below w.heap.size w w'
set_option maxRecDepth 20000 in
set_option maxHeartbeats 8000000 in
theorem sDrawBranchTotals_any (A : Option Addr) (n c : Nat) (bs : List Int) (w : World) (h : Rd w A n (bs.map (Value.int .u8))) (hu : ∀ z ∈ bs, 0 ≤ z ∧ z ≤ 255) (hn : n ≤ 1073741824) :
    Calls Try.prog 35 #[.slice A n c] w (DrawBranchTotalsR w) := by
  have HR := Lib.hid h
  have HU := Lib.hid hu
  clear h hu
  have B0 := Below.refl w.heap.size w
  have s0 : w.heap.size ≤ w.heap.size := Nat.le_refl _
  go_enter Try.func35, Try.ntmps35
  have rs_2 : Bx (w.alloc (.cells #[.slice none 0 0, .slice none 0 0] 40)) (w.heap.size) 40 #[.slice none 0 0, .slice none 0 0] := Bx.new _ _ _
  have B_2 := B0.alloc s0 (.cells #[.slice none 0 0, .slice none 0 0] 40)
  clear B0
  have crs_3 := rs_2.cells
  have frs_3 := rs_2.free
  clear crs_3 frs_3
  have rs_4 := rs_2.same (same_alloc (.cells #[.slice none 0 0, .slice none 0 0] 35) (by simp only [World.size_alloc]; omega))
  clear rs_2
  have rt_5 : Bx ((w.alloc (.cells #[.slice none 0 0, .slice none 0 0] 40)).alloc (.cells #[.slice none 0 0, .slice none 0 0] 35)) (w.heap.size + 1) 35 #[.slice none 0 0, .slice none 0 0] := by
    have h := Bx.new (w.alloc (.cells #[.slice none 0 0, .slice none 0 0] 40)) 35 #[.slice none 0 0, .slice none 0 0]
    simpa only [World.size_alloc] using h
  have B_5 := B_2.alloc (by simp only [World.size_alloc]; omega) (.cells #[.slice none 0 0, .slice none 0 0] 35)
  clear B_2
  have crs_6 := rs_4.cells
  have frs_6 := rs_4.free
  have crt_7 := rt_5.cells
  have frt_7 := rt_5.free
  clear crs_6 frs_6
  clear crt_7 frt_7
  have rs_8 := rs_4.same (same_alloc (.cells #[.int .i64 0, .int .i64 0] 55) (by simp only [World.size_alloc]; omega))
  clear rs_4
  have rt_8 := rt_5.same (same_alloc (.cells #[.int .i64 0, .int .i64 0] 55) (by simp only [World.size_alloc]; omega))
  clear rt_5
  have rf_9 : Bx (((w.alloc (.cells #[.slice none 0 0, .slice none 0 0] 40)).alloc (.cells #[.slice none 0 0, .slice none 0 0] 35)).alloc (.cells #[.int .i64 0, .int .i64 0] 55)) (w.heap.size + 1 + 1) 55 #[.int .i64 0, .int .i64 0] := by
    have h := Bx.new ((w.alloc (.cells #[.slice none 0 0, .slice none 0 0] 40)).alloc (.cells #[.slice none 0 0, .slice none 0 0] 35)) 55 #[.int .i64 0, .int .i64 0]
    simpa only [World.size_alloc] using h
  have B_9 := B_5.alloc (by simp only [World.size_alloc]; omega) (.cells #[.int .i64 0, .int .i64 0] 55)
  clear B_5
  have crs_10 := rs_8.cells
  have frs_10 := rs_8.free
  have crt_11 := rt_8.cells
  have frt_11 := rt_8.free
  have crf_12 := rf_9.cells
  have frf_12 := rf_9.free
  go_wp2_with fail
  clear crs_10 frs_10
  clear crt_11 frt_11
  clear crf_12 frf_12
  obtain ⟨v13, hv13⟩ : ∃ v13, v13 = (((w.alloc (.cells #[.slice none 0 0, .slice none 0 0] 40)).alloc (.cells #[.slice none 0 0, .slice none 0 0] 35)).alloc (.cells #[.int .i64 0, .int .i64 0] 55)) := ⟨_, rfl⟩
  have zv13 : w.heap.size + 1 + 1 + 1 ≤ v13.heap.size := by rw [hv13]; simp
  rw [← hv13] at rs_8 rt_8 rf_9 B_9 ⊢
  clear hv13
  have Hrs0 := Lib.hid rs_8
  have Hrt0 := Lib.hid rt_8
  have Hrf0 := Lib.hid rf_9
  have HB0 := Lib.hid B_9
  have HR0 := Lib.hid (HR.out.below B_9 (Nat.le_refl _))
  clear rs_8 rt_8 rf_9 B_9
  refine (l1New_any A n c bs _ HR0.out HU.out hn).mono ?_
  rintro e v0 ⟨g, rfl, hg, hc, hb⟩
  have s0_ := hb.size
  have K0 := Keeps.below (P := fun j => True) hb (Nat.le_refl _)
  have Hrs1 := Lib.hid (Hrs0.out.keep K0 trivial)
  have Hrt1 := Lib.hid (Hrt0.out.keep K0 trivial)
  have Hrf1 := Lib.hid (Hrf0.out.keep K0 trivial)
  have HB1 := Lib.hid (HB0.out.trans (hb.mono (by omega)))
  have HC1 := Lib.hid hc
  have hgw := hc.lt
  have hg2 : w.heap.size + 1 + 1 + 1 ≤ g := by omega
  clear hb hc K0 HB0 HR0 Hrs0 Hrt0 Hrf0
  go_wp2_with fail
  refine (l5Draw_any g A n c bs _ HU.out hn HC1.out).mono ?_
  rintro e x1 ⟨S1, sn, sc, S2, sm, sd, hs, ats, cs, rfl, hrd, hc1, ho1⟩
  have sx1 := ho1.size
  have Kx := keeps_cur ho1
  have Hrs1x := Lib.hid (Hrs1.out.keep Kx (by omega))
  have Hrt1x := Lib.hid (Hrt1.out.keep Kx (by omega))
  have Hrf1x := Lib.hid (Hrf1.out.keep Kx (by omega))
  obtain ⟨BS, hBS⟩ : ∃ BS, BS = x1.heap.size := ⟨_, rfl⟩
  obtain ⟨y1, hy1⟩ : ∃ y1, y1 = x1.alloc (.cells #[.slice S1 sn sc, .slice S2 sm sd] 40) := ⟨_, rfl⟩
  have Ky : Keeps (fun j => True) x1 y1 := by rw [hy1]; exact Keeps.alloc _
  have zy1 : y1.heap.size = BS + 1 := by rw [hy1, World.size_alloc, hBS]
  have Hrs2 := Lib.hid (Hrs1x.out.keep Ky trivial)
  have Hrt2 := Lib.hid (Hrt1x.out.keep Ky trivial)
  have Hrf2 := Lib.hid (Hrf1x.out.keep Ky trivial)
  have Hs2 := Lib.hid ((hrd.keep (Ky.mono (fun _ _ => trivial))).mono (Q := (fun j => v0.heap.size ≤ j)) (fun j hj _ => hj))
  have HBS2 : Hid (Bx y1 BS 40 #[.slice S1 sn sc, .slice S2 sm sd]) := by rw [hy1, hBS]; exact Bx.new _ _ _
  have HC2 : Hid (Cur y1 g A n c bs) := by rw [hy1]; exact hc1.below (below_alloc1 _) (Nat.le_refl _)
  have HB2 : Hid (Below w.heap.size w y1) := by rw [hy1]; exact (HB1.out.trans (ho1.below (by omega) (by omega))).alloc (by omega) _
  have HY := Lib.hid hy1; have HBO := Lib.hid hBS
  have lbBS : BS < y1.heap.size := by omega
  have lcBS : v0.heap.size ≤ BS := by omega
  have ldBS : x1.heap.size ≤ BS := by omega
  clear Hrs1 Hrs1x Hrt1 Hrt1x Hrf1 Hrf1x HC1 HB1 Kx Ky hc1 ho1 hy1 hBS zy1 hrd
  go_wp2_with fail
  rw [← HY.out, ← HBO.out]
  clear HY HBO
  refine (l8Draw_any g A n c bs _ HU.out hn HC2.out S1 S2 sn sc sm sd hs ats cs (Hs2.out.mono (fun j hj _ => by have hj2 : v0.heap.size ≤ j := hj; omega))).mono ?_
  rintro e x2 ⟨T, q, qc, X, p, pc, gs, ts, xss, rfl, hrd, hc1, ho1⟩
  have sx2 := ho1.size
  have Kx := keeps_cur ho1
  have Hrs2x := Lib.hid (Hrs2.out.keep Kx (by omega))
  have Hrt2x := Lib.hid (Hrt2.out.keep Kx (by omega))
  have Hrf2x := Lib.hid (Hrf2.out.keep Kx (by omega))
  have HBS2x := Lib.hid (HBS2.out.keep Kx (by omega))
  have Hs2x := Lib.hid (Hs2.out.keep (Kx.mono (fun j hj => by have hj2 : v0.heap.size ≤ j := hj; omega)))
  have pb0 : x2.cell? ⟨BS, 0, none⟩ = some (.slice S1 sn sc) := HBS2x.out.cells 0
  have pb1 : x2.cell? ⟨BS, 1, none⟩ = some (.slice S2 sm sd) := HBS2x.out.cells 1
  have lbx : BS < x2.heap.size := by have := HBS2x.out.lt; omega
  obtain ⟨BT, hBT⟩ : ∃ BT, BT = x2.heap.size := ⟨_, rfl⟩
  obtain ⟨y2, hy2⟩ : ∃ y2, y2 = x2.alloc (.cells #[.slice T q qc, .slice X p pc] 35) := ⟨_, rfl⟩
  have Ky : Keeps (fun j => True) x2 y2 := by rw [hy2]; exact Keeps.alloc _
  have zy2 : y2.heap.size = BT + 1 := by rw [hy2, World.size_alloc, hBT]
  have Hrs3 := Lib.hid (Hrs2x.out.keep Ky trivial)
  have Hrt3 := Lib.hid (Hrt2x.out.keep Ky trivial)
  have Hrf3 := Lib.hid (Hrf2x.out.keep Ky trivial)
  have HBS3 := Lib.hid (HBS2x.out.keep Ky trivial)
  have Hs3 := Lib.hid (Hs2x.out.keep (Ky.mono (fun _ _ => trivial)))
  have Ht3 := Lib.hid ((hrd.keep (Ky.mono (fun _ _ => trivial))).mono (Q := (fun j => v0.heap.size ≤ j)) (fun j hj _ => by have hj2 : _ ≤ j := hj; omega))
  have HBT3 : Hid (Bx y2 BT 35 #[.slice T q qc, .slice X p pc]) := by rw [hy2, hBT]; exact Bx.new _ _ _
  have HC3 : Hid (Cur y2 g A n c bs) := by rw [hy2]; exact hc1.below (below_alloc1 _) (Nat.le_refl _)
  have HB3 : Hid (Below w.heap.size w y2) := by rw [hy2]; exact (HB2.out.trans (ho1.below (by omega) (by omega))).alloc (by omega) _
  have HY := Lib.hid hy2; have HBO := Lib.hid hBT
  have lbBT : BT < y2.heap.size := by omega
  have lcBT : v0.heap.size ≤ BT := by omega
  have ldBT : x2.heap.size ≤ BT := by omega
  clear Hrs2 Hrs2x Hrt2 Hrt2x Hrf2 Hrf2x HBS2 HBS2x Hs2 Hs2x HC2 HB2 Kx Ky hc1 ho1 hy2 hBT zy2 hrd
  go_wp2_with fail
  rw [← HY.out, ← HBO.out]
  clear HY HBO pb0 pb1 lbx
  refine (l9Draw_any g A n c bs _ HU.out hn HC3.out S1 S2 sn sc sm sd hs ats cs (Hs3.out.mono (fun j hj _ => by have hj2 : v0.heap.size ≤ j := hj; omega))).mono ?_
  rintro e x3 ⟨fa, ft, rfl, hc1, ho1⟩
  have sx3 := ho1.size
  have Kx := keeps_cur ho1
  have Hrs3x := Lib.hid (Hrs3.out.keep Kx (by omega))
  have Hrt3x := Lib.hid (Hrt3.out.keep Kx (by omega))
  have Hrf3x := Lib.hid (Hrf3.out.keep Kx (by omega))
  have HBS3x := Lib.hid (HBS3.out.keep Kx (by omega))
  have Hs3x := Lib.hid (Hs3.out.keep (Kx.mono (fun j hj => by have hj2 : v0.heap.size ≤ j := hj; omega)))
  have HBT3x := Lib.hid (HBT3.out.keep Kx (by omega))
  have Ht3x := Lib.hid (Ht3.out.keep (Kx.mono (fun j hj => by have hj2 : v0.heap.size ≤ j := hj; omega)))
  have pb0 : x3.cell? ⟨BS, 0, none⟩ = some (.slice S1 sn sc) := HBS3x.out.cells 0
  have pb1 : x3.cell? ⟨BS, 1, none⟩ = some (.slice S2 sm sd) := HBS3x.out.cells 1
  have lbx : BS < x3.heap.size := by have := HBS3x.out.lt; omega
  obtain ⟨BF, hBF⟩ : ∃ BF, BF = x3.heap.size := ⟨_, rfl⟩
  obtain ⟨y3, hy3⟩ : ∃ y3, y3 = x3.alloc (.cells #[.int .i64 fa, .int .i64 ft] 55) := ⟨_, rfl⟩
  have Ky : Keeps (fun j => True) x3 y3 := by rw [hy3]; exact Keeps.alloc _
  have zy3 : y3.heap.size = BF + 1 := by rw [hy3, World.size_alloc, hBF]
  have Hrs4 := Lib.hid (Hrs3x.out.keep Ky trivial)
  have Hrt4 := Lib.hid (Hrt3x.out.keep Ky trivial)
  have Hrf4 := Lib.hid (Hrf3x.out.keep Ky trivial)
  have HBS4 := Lib.hid (HBS3x.out.keep Ky trivial)
  have Hs4 := Lib.hid (Hs3x.out.keep (Ky.mono (fun _ _ => trivial)))
  have HBT4 := Lib.hid (HBT3x.out.keep Ky trivial)
  have Ht4 := Lib.hid (Ht3x.out.keep (Ky.mono (fun _ _ => trivial)))
  have HBF4 : Hid (Bx y3 BF 55 #[.int .i64 fa, .int .i64 ft]) := by rw [hy3, hBF]; exact Bx.new _ _ _
  have HC4 : Hid (Cur y3 g A n c bs) := by rw [hy3]; exact hc1.below (below_alloc1 _) (Nat.le_refl _)
  have HB4 : Hid (Below w.heap.size w y3) := by rw [hy3]; exact (HB3.out.trans (ho1.below (by omega) (by omega))).alloc (by omega) _
  have HY := Lib.hid hy3; have HBO := Lib.hid hBF
  have lbBF : BF < y3.heap.size := by omega
  have lcBF : v0.heap.size ≤ BF := by omega
  have ldBF : x3.heap.size ≤ BF := by omega
  clear Hrs3 Hrs3x Hrt3 Hrt3x Hrf3 Hrf3x HBS3 HBS3x Hs3 Hs3x HBT3 HBT3x Ht3 Ht3x HC3 HB3 Kx Ky hc1 ho1 hy3 hBF zy3
  have HKe : Hid (∀ w' : World, Keeps (fun j => v0.heap.size ≤ j ∧ j ≠ g) y3 w' → w'.cell? ⟨BS, 0, none⟩ = some (.slice S1 sn sc) ∧ w'.cell? ⟨BS, 1, none⟩ = some (.slice S2 sm sd) ∧ w'.cell? ⟨BT, 0, none⟩ = some (.slice T q qc) ∧ w'.cell? ⟨BT, 1, none⟩ = some (.slice X p pc) ∧ w'.cell? ⟨BF, 0, none⟩ = some (.int .i64 fa) ∧ w'.cell? ⟨BF, 1, none⟩ = some (.int .i64 ft)) := fun w' hk => by
    have e1 := HBS4.out.keep hk (by omega)
    have e2 := HBT4.out.keep hk (by omega)
    have e3 := HBF4.out.keep hk (by omega)
    exact ⟨e1.cells 0, e1.cells 1, e2.cells 0, e2.cells 1, e3.cells 0, e3.cells 1⟩
  have HCd := Lib.hid (HC4.out.below2 (below_drew y3.heap.size y3) (by omega))
  go_upto_region 5 with fail
  rw [← HY.out, ← HBO.out]
  clear HY HBO pb0 pb1 lbx
  skip
  refine wp_region_held_drew (S := fun w' => w'.cell? ⟨BS, 0, none⟩ = some (.slice S1 sn sc) ∧ w'.cell? ⟨BS, 1, none⟩ = some (.slice S2 sm sd) ∧ w'.cell? ⟨BT, 0, none⟩ = some (.slice T q qc) ∧ w'.cell? ⟨BT, 1, none⟩ = some (.slice X p pc) ∧ w'.cell? ⟨BF, 0, none⟩ = some (.int .i64 fa) ∧ w'.cell? ⟨BF, 1, none⟩ = some (.int .i64 ft)) (by kernel_rfl) (HKe.out _ Keeps.drew) ?_
  intro hS; (try dsimp only at hS)
  refine wpAnyH_take (i := 0) (v := ?v5x) rfl (by kernel_rfl) (by kernel_rfl) (by kernel_rfl) (fun _ _ _ h => h) (Or.inl ⟨by rfl, ?hy5x⟩) hS ?rest5x
  case hy5x => (intro w' hSw; (try dsimp only at hSw); go_simp; (try (with_reducible rfl)))
  (try simp only [Act.put, List.setIfInBounds_toArray, List.set_cons_zero, List.set_cons_succ, List.getElem_toArray, List.getElem_cons_succ, List.getElem_cons_zero])
  refine wpAnyH_take (i := 1) (v := ?v6x) rfl (by kernel_rfl) (by kernel_rfl) (by kernel_rfl) (fun _ _ _ h => h) (Or.inl ⟨by rfl, ?hy6x⟩) hS ?rest6x
  case hy6x => (intro w' hSw; (try dsimp only at hSw); go_simp; (try (with_reducible rfl)))
  (try simp only [Act.put, List.setIfInBounds_toArray, List.set_cons_zero, List.set_cons_succ, List.getElem_toArray, List.getElem_cons_succ, List.getElem_cons_zero])
  refine wpAnyH_take (i := 2) (v := ?v7x) rfl (by kernel_rfl) (by kernel_rfl) (by kernel_rfl) (fun _ _ _ h => h) (Or.inl ⟨by rfl, ?hy7x⟩) hS ?rest7x
  case hy7x => (intro w' hSw; (try dsimp only at hSw); go_simp; (try (with_reducible rfl)))
  (try simp only [Act.put, List.setIfInBounds_toArray, List.set_cons_zero, List.set_cons_succ, List.getElem_toArray, List.getElem_cons_succ, List.getElem_cons_zero])
  refine wpAnyH_take (i := 3) (v := ?v8x) rfl (by kernel_rfl) (by kernel_rfl) (by kernel_rfl) (fun _ _ _ h => h) (Or.inl ⟨by rfl, ?hy8x⟩) hS ?rest8x
  case hy8x => (intro w' hSw; (try dsimp only at hSw); go_simp; (try (with_reducible rfl)))
  (try simp only [Act.put, List.setIfInBounds_toArray, List.set_cons_zero, List.set_cons_succ, List.getElem_toArray, List.getElem_cons_succ, List.getElem_cons_zero])
  refine wpAnyH_ready (rs := [4]) (by kernel_rfl) (by simp) ?_
  refine AllReadyH.cons rfl (fun K hK => ?_) AllReadyH.nil
  (try dsimp only [List.getElem_toArray, List.getElem_cons_succ, List.getElem_cons_zero])
  go_simp
  refine hK.out _ _ (HKe.out _ (Keeps.trans Keeps.drew (Keeps.alloc _))) (fun hS9 => ?_)
  clear hK K hS; have hS := hS9; clear hS9; (try dsimp only at hS)
  (try simp only [Act.put, List.setIfInBounds_toArray, List.set_cons_zero, List.set_cons_succ, List.getElem_toArray, List.getElem_cons_succ, List.getElem_cons_zero])
  refine wpAnyH_ready (rs := [5]) (by kernel_rfl) (by simp) ?_
  refine AllReadyH.cons rfl (fun K hK => ?_) AllReadyH.nil
  (try dsimp only [List.getElem_toArray, List.getElem_cons_succ, List.getElem_cons_zero])
  (go_simp; (refine (pickLit g A n c 7 bs [0, 1, 1, 2, 3, 4, -1] y3.drew #[.int .i64 0, .int .i64 1, .int .i64 1, .int .i64 2, .int .i64 3, .int .i64 4, .int .i64 (-1)] 3 rfl rfl (by omega) (by omega) HU.out hn HCd.out).mono ?_); rintro e q3 ⟨y, rfl, -, hcq, hoq⟩; dsimp only)
  have hO3 : Only g (g + 1) y3 q3 := (Only.of_below (below_drew y3.heap.size y3) (Nat.le_refl _)).trans hoq
  have hz3 := hO3.size
  have K3 := Lib.hid (keeps_cur hO3)
  have Hrsq := Lib.hid (Hrs4.out.keep K3.out (by omega))
  have Hrtq := Lib.hid (Hrt4.out.keep K3.out (by omega))
  have Hrfq := Lib.hid (Hrf4.out.keep K3.out (by omega))
  have HBSq := Lib.hid (HBS4.out.keep K3.out (by omega))
  have Hsq := Lib.hid (Hs4.out.keep (K3.out.mono (fun j hj => by have hj2 : v0.heap.size ≤ j := hj; omega)))
  have HBTq := Lib.hid (HBT4.out.keep K3.out (by omega))
  have Htq := Lib.hid (Ht4.out.keep (K3.out.mono (fun j hj => by have hj2 : v0.heap.size ≤ j := hj; omega)))
  have HBFq := Lib.hid (HBF4.out.keep K3.out (by omega))
  have HBq : Hid (Below w.heap.size w q3) := HB4.out.trans (hO3.below (by omega) (by omega))
  have krs0 : q3.cell? ⟨w.heap.size, 0, none⟩ = some (.slice none 0 0) := Hrsq.out.cells 0
  have frs0 : q3.frozen? ⟨w.heap.size, 0, none⟩ = false := Hrsq.out.free 0
  have krs1 : q3.cell? ⟨w.heap.size, 1, none⟩ = some (.slice none 0 0) := Hrsq.out.cells 1
  have frs1 : q3.frozen? ⟨w.heap.size, 1, none⟩ = false := Hrsq.out.free 1
  have krt0 : q3.cell? ⟨w.heap.size + 1, 0, none⟩ = some (.slice none 0 0) := Hrtq.out.cells 0
  have frt0 : q3.frozen? ⟨w.heap.size + 1, 0, none⟩ = false := Hrtq.out.free 0
  have krt1 : q3.cell? ⟨w.heap.size + 1, 1, none⟩ = some (.slice none 0 0) := Hrtq.out.cells 1
  have frt1 : q3.frozen? ⟨w.heap.size + 1, 1, none⟩ = false := Hrtq.out.free 1
  have krf0 : q3.cell? ⟨w.heap.size + 1 + 1, 0, none⟩ = some (.int .i64 0) := Hrfq.out.cells 0
  have frf0 : q3.frozen? ⟨w.heap.size + 1 + 1, 0, none⟩ = false := Hrfq.out.free 0
  have krf1 : q3.cell? ⟨w.heap.size + 1 + 1, 1, none⟩ = some (.int .i64 0) := Hrfq.out.cells 1
  have frf1 : q3.frozen? ⟨w.heap.size + 1 + 1, 1, none⟩ = false := Hrfq.out.free 1
  refine hK.out _ _ (HKe.out _ ((K3.out.mono (fun j hj => hj.2)))) (fun hS9 => ?_)
  clear hK K hS; have hS := hS9; clear hS9; (try dsimp only at hS)
  (try simp only [Act.put, List.setIfInBounds_toArray, List.set_cons_zero, List.set_cons_succ, List.getElem_toArray, List.getElem_cons_succ, List.getElem_cons_zero])
  refine wpAnyH_ready (rs := [6]) (by kernel_rfl) (by simp) ?_
  refine AllReadyH.cons rfl (fun K hK => ?_) AllReadyH.nil
  (try dsimp only [List.getElem_toArray, List.getElem_cons_succ, List.getElem_cons_zero])
  go_simp
  refine hK.out _ _ (HKe.out _ ((((K3.out.mono (fun j hj => hj.2))).trans ((Keeps.set (by show ¬ (_ ≤ _ ∧ _); omega)).trans (Keeps.set (by show ¬ (_ ≤ _ ∧ _); omega)))))) (fun hS9 => ?_)
  clear hK K hS; have hS := hS9; clear hS9; (try dsimp only at hS)
  (try simp only [Act.put, List.setIfInBounds_toArray, List.set_cons_zero, List.set_cons_succ, List.getElem_toArray, List.getElem_cons_succ, List.getElem_cons_zero])
  refine wpAnyH_ready (rs := [7]) (by kernel_rfl) (by simp) ?_
  refine AllReadyH.cons rfl (fun K hK => ?_) AllReadyH.nil
  (try dsimp only [List.getElem_toArray, List.getElem_cons_succ, List.getElem_cons_zero])
  go_simp
  refine hK.out _ _ (HKe.out _ ((((((K3.out.mono (fun j hj => hj.2))).trans ((Keeps.set (by show ¬ (_ ≤ _ ∧ _); omega)).trans (Keeps.set (by show ¬ (_ ≤ _ ∧ _); omega))))).trans ((Keeps.set (by show ¬ (_ ≤ _ ∧ _); omega)).trans (Keeps.set (by show ¬ (_ ≤ _ ∧ _); omega)))))) (fun hS9 => ?_)
  clear hK K hS; have hS := hS9; clear hS9; (try dsimp only at hS)
  (try simp only [Act.put, List.setIfInBounds_toArray, List.set_cons_zero, List.set_cons_succ, List.getElem_toArray, List.getElem_cons_succ, List.getElem_cons_zero])
  refine wpAnyH_ready (rs := [8]) (by kernel_rfl) (by simp) ?_
  refine AllReadyH.cons rfl (fun K hK => ?_) AllReadyH.nil
  (try dsimp only [List.getElem_toArray, List.getElem_cons_succ, List.getElem_cons_zero])
  go_simp
  refine hK.out _ _ (HKe.out _ ((((((((K3.out.mono (fun j hj => hj.2))).trans ((Keeps.set (by show ¬ (_ ≤ _ ∧ _); omega)).trans (Keeps.set (by show ¬ (_ ≤ _ ∧ _); omega))))).trans ((Keeps.set (by show ¬ (_ ≤ _ ∧ _); omega)).trans (Keeps.set (by show ¬ (_ ≤ _ ∧ _); omega))))).trans ((Keeps.set (by show ¬ (_ ≤ _ ∧ _); omega)).trans (Keeps.set (by show ¬ (_ ≤ _ ∧ _); omega)))))) (fun hS9 => ?_)
  clear hK K hS; have hS := hS9; clear hS9; (try dsimp only at hS)
  (try simp only [Act.put, List.setIfInBounds_toArray, List.set_cons_zero, List.set_cons_succ, List.getElem_toArray, List.getElem_cons_succ, List.getElem_cons_zero])
  refine wpAnyH_take (i := 9) (v := ?v9x) rfl (by kernel_rfl) (by kernel_rfl) (by kernel_rfl) (fun _ _ _ h => h) (Or.inl ⟨by rfl, ?hy9x⟩) hS ?rest9x
  case hy9x => (intro w' hSw; (try dsimp only at hSw); go_simp; (try (with_reducible rfl)))
  (try simp only [Act.put, List.setIfInBounds_toArray, List.set_cons_zero, List.set_cons_succ, List.getElem_toArray, List.getElem_cons_succ, List.getElem_cons_zero])
  refine wpAnyH_done (by kernel_rfl) ?_ _
  skip
  obtain ⟨w9, h9⟩ : ∃ w9, w9 = ((((((q3.setCell ⟨w.heap.size, 0, none⟩ (.slice S1 sn sc)).setCell ⟨w.heap.size, 1, none⟩ (.slice S2 sm sd)).setCell ⟨w.heap.size + 1, 0, none⟩ (.slice T q qc)).setCell ⟨w.heap.size + 1, 1, none⟩ (.slice X p pc)).setCell ⟨w.heap.size + 1 + 1, 0, none⟩ (.int .i64 fa)).setCell ⟨w.heap.size + 1 + 1, 1, none⟩ (.int .i64 ft)) := ⟨_, rfl⟩
  rw [← h9]
  have K9 : Keeps (fun j => v0.heap.size ≤ j) q3 w9 := by rw [h9]; exact ((((((Keeps.refl _ _).trans (Keeps.set (by show ¬ (_ ≤ _); omega))).trans (Keeps.set (by show ¬ (_ ≤ _); omega))).trans (Keeps.set (by show ¬ (_ ≤ _); omega))).trans (Keeps.set (by show ¬ (_ ≤ _); omega))).trans (Keeps.set (by show ¬ (_ ≤ _); omega))).trans (Keeps.set (by show ¬ (_ ≤ _); omega))
  have B9 : Below w.heap.size q3 w9 := by rw [h9]; exact ((((((Below.refl w.heap.size q3).setCell (p := ⟨w.heap.size, 0, none⟩) (show w.heap.size ≤ w.heap.size by omega) _).setCell (p := ⟨w.heap.size, 1, none⟩) (show w.heap.size ≤ w.heap.size by omega) _).setCell (p := ⟨w.heap.size + 1, 0, none⟩) (show w.heap.size ≤ w.heap.size + 1 by omega) _).setCell (p := ⟨w.heap.size + 1, 1, none⟩) (show w.heap.size ≤ w.heap.size + 1 by omega) _).setCell (p := ⟨w.heap.size + 1 + 1, 0, none⟩) (show w.heap.size ≤ w.heap.size + 1 + 1 by omega) _).setCell (p := ⟨w.heap.size + 1 + 1, 1, none⟩) (show w.heap.size ≤ w.heap.size + 1 + 1 by omega) _
  have xrs : Bx w9 (w.heap.size) 40 #[.slice S1 sn sc, .slice S2 sm sd] := by rw [h9]; exact ((((((Hrsq.out.set_ 0 (.slice S1 sn sc)).set_ 1 (.slice S2 sm sd)).keep (Keeps.set (P := fun j => j ≠ w.heap.size + 1) (b := w.heap.size + 1) (i := 0) (u := .slice T q qc) (by simp)) (by omega)).keep (Keeps.set (P := fun j => j ≠ w.heap.size + 1) (b := w.heap.size + 1) (i := 1) (u := .slice X p pc) (by simp)) (by omega)).keep (Keeps.set (P := fun j => j ≠ w.heap.size + 1 + 1) (b := w.heap.size + 1 + 1) (i := 0) (u := .int .i64 fa) (by simp)) (by omega)).keep (Keeps.set (P := fun j => j ≠ w.heap.size + 1 + 1) (b := w.heap.size + 1 + 1) (i := 1) (u := .int .i64 ft) (by simp)) (by omega))
  have zrs0 : w9.cell? ⟨w.heap.size, 0, none⟩ = some (.slice S1 sn sc) := xrs.cells 0
  have zfrs0 := xrs.free 0
  have zrs1 : w9.cell? ⟨w.heap.size, 1, none⟩ = some (.slice S2 sm sd) := xrs.cells 1
  have zfrs1 := xrs.free 1
  have xrt : Bx w9 (w.heap.size + 1) 35 #[.slice T q qc, .slice X p pc] := by rw [h9]; exact ((((((Hrtq.out.keep (Keeps.set (P := fun j => j ≠ w.heap.size) (b := w.heap.size) (i := 0) (u := .slice S1 sn sc) (by simp)) (by omega)).keep (Keeps.set (P := fun j => j ≠ w.heap.size) (b := w.heap.size) (i := 1) (u := .slice S2 sm sd) (by simp)) (by omega)).set_ 0 (.slice T q qc)).set_ 1 (.slice X p pc)).keep (Keeps.set (P := fun j => j ≠ w.heap.size + 1 + 1) (b := w.heap.size + 1 + 1) (i := 0) (u := .int .i64 fa) (by simp)) (by omega)).keep (Keeps.set (P := fun j => j ≠ w.heap.size + 1 + 1) (b := w.heap.size + 1 + 1) (i := 1) (u := .int .i64 ft) (by simp)) (by omega))
  have zrt0 : w9.cell? ⟨w.heap.size + 1, 0, none⟩ = some (.slice T q qc) := xrt.cells 0
  have zfrt0 := xrt.free 0
  have zrt1 : w9.cell? ⟨w.heap.size + 1, 1, none⟩ = some (.slice X p pc) := xrt.cells 1
  have zfrt1 := xrt.free 1
  have xrf : Bx w9 (w.heap.size + 1 + 1) 55 #[.int .i64 fa, .int .i64 ft] := by rw [h9]; exact ((((((Hrfq.out.keep (Keeps.set (P := fun j => j ≠ w.heap.size) (b := w.heap.size) (i := 0) (u := .slice S1 sn sc) (by simp)) (by omega)).keep (Keeps.set (P := fun j => j ≠ w.heap.size) (b := w.heap.size) (i := 1) (u := .slice S2 sm sd) (by simp)) (by omega)).keep (Keeps.set (P := fun j => j ≠ w.heap.size + 1) (b := w.heap.size + 1) (i := 0) (u := .slice T q qc) (by simp)) (by omega)).keep (Keeps.set (P := fun j => j ≠ w.heap.size + 1) (b := w.heap.size + 1) (i := 1) (u := .slice X p pc) (by simp)) (by omega)).set_ 0 (.int .i64 fa)).set_ 1 (.int .i64 ft))
  have zrf0 : w9.cell? ⟨w.heap.size + 1 + 1, 0, none⟩ = some (.int .i64 fa) := xrf.cells 0
  have zfrf0 := xrf.free 0
  have zrf1 : w9.cell? ⟨w.heap.size + 1 + 1, 1, none⟩ = some (.int .i64 ft) := xrf.cells 1
  have zfrf1 := xrf.free 1
  have HP1 := Lib.hid ((Hsq.out.keep K9).mono (Q := fun j => w.heap.size ≤ j) (fun j hj _ => by have hj2 : v0.heap.size ≤ j := hj; omega))
  have HP2 := Lib.hid ((Htq.out.keep K9).mono (Q := fun j => w.heap.size ≤ j) (fun j hj _ => by have hj2 : v0.heap.size ≤ j := hj; omega))
  have HP4 := Lib.hid (HBq.out.trans B9)
  clear h9 K9 B9 xrs xrt xrf
  go_wp2_with ((with_reducible refine bodyPost_ret (v := .tuple #[.agg #[.slice S1 sn sc, .slice S2 sm sd], .agg #[.slice T q qc, .slice X p pc], .agg #[.int .i64 fa, .int .i64 ft], .int .i64 y]) ?k1 ?k2 ?k3); (case k1 => (simp [results, Try.results35, go_sem, zrs0, zfrs0, zrs1, zfrs1, zrt0, zfrt0, zrt1, zfrt1, zrf0, zfrf0, zrf1, zfrf1])); (case k2 => rfl); (case k3 => (exact ⟨S1, sn, sc, S2, sm, sd, hs, ats, cs, T, q, qc, X, p, pc, gs, ts, xss, fa, ft, y, rfl, HP1.out, HP2.out, HP4.out⟩)))

end Go.Proofs.Ytchkmcikpamdeaa
