/-
  The draw of statistics that are right.
-/
import Derived.Test.YtchkmcikpamdeaaDraw8A
import Derived.Test.YtchkmcikpamdeaaDraw7
import Derived.Test.YtchkmcikpamdeaaStAddS
import Derived.Deep.CutBlock
namespace Go.Proofs.Ytchkmcikpamdeaa
open Go.RowKit
set_option linter.unusedSimpArgs false
set_option linter.unusedVariables false

theorem OwSta.wide_ {lo hi lo' hi' : Nat} {w : World} {A C : Option Addr} {n c m d mid : Nat} {gs : List Hd} {ts : List Int} {xss : List (List Int)} (h : OwSta lo hi w A C n c m d mid gs ts xss) (h1 : lo' ≤ lo) (h2 : hi ≤ hi') : OwSta lo' hi' w A C n c m d mid gs ts xss :=
  ⟨h.tot.wide h1 (Nat.le_refl _), h.cel.wide (Nat.le_refl _) h2, ⟨Nat.le_trans h1 h.le.1, Nat.le_trans h.le.2 h2⟩⟩
theorem OwSta.keep {P : Nat → Prop} {lo hi : Nat} {w w' : World} {A C : Option Addr} {n c m d mid : Nat} {gs : List Hd} {ts : List Int} {xss : List (List Int)} (h : OwSta lo hi w A C n c m d mid gs ts xss) (k : Keeps P w w') (hh : hi ≤ w.heap.size) (hp : ∀ j, lo ≤ j → j < hi → P j) : OwSta lo hi w' A C n c m d mid gs ts xss :=
  h.same (fun j h1 h2 => k.block j (hp j h1 h2) (by omega))
theorem addRow_len8 (m : Nat) (cl u : Int) (xs : List Int) (b : Int) : (addRow m cl u xs b).length = xs.length := by
  unfold addRow addAt; split
  · rw [List.length_set]
  · rfl
theorem addK_le8 {m : Nat} {cl u : Int} {bs : List Int} {xss : List (List Int)} {K : Nat} (h : ∀ xs ∈ xss, xs.length ≤ K) : ∀ k, ∀ xs ∈ addK m cl u bs xss k, xs.length ≤ K
  | 0 => h
  | k + 1 => fun xs hx => by
    unfold addK at hx
    rcases List.mem_or_eq_of_mem_set hx with hx | rfl
    · exact addK_le8 h k xs hx
    · rw [addRow_len8]
      by_cases hk : k < xss.length
      · have : xss.getD k [] = xss[k] := by simp [List.getD, hk]
        rw [this]; exact h _ (List.getElem_mem hk)
      · have : xss.getD k [] = [] := by simp [List.getD, hk]
        rw [this]; exact Nat.zero_le _
theorem addX_le8 {ats : List AD} {cs : List ByteArray} {ts : List Int} {xss : List (List Int)} {bs : List Int} {cl u : Int} {K : Nat} (h : ∀ xs ∈ xss, xs.length ≤ K) : ∀ xs ∈ addX ats cs ts xss bs cl u, xs.length ≤ K := by
  unfold addX; split
  · exact addK_le8 h _
  · exact h
theorem own_le8 {w : World} {lo n c : Nat} {A : Option Addr} {e : TypeId} {xs : List Value} (h : w.ownsRow lo e 1 (.slice A n c) n xs) : xs.length = n := by have := h.1; simpa using this
/-- What a draw of statistics that are right may answer. -/
def StR (g : Nat) (A : Option Addr) (n c : Nat) (bs : List Int) (w : World) (e : Ending) (w' : World) : Prop :=
  ∃ (T : Option Addr) (q qc : Nat) (X : Option Addr) (p pc mid : Nat) (gs : List Hd) (ts : List Int) (xss : List (List Int)), e = .returned (.agg #[.slice T q qc, .slice X p pc]) ∧ (q ≤ 16 ∧ p ≤ 16 ∧ ∀ xs ∈ xss, xs.length ≤ 64) ∧ OwSta w.heap.size w'.heap.size w' T X q qc p pc mid gs ts xss ∧ Cur w' g A n c bs ∧ Only g (g + 1) w w'

set_option maxRecDepth 20000 in
set_option maxHeartbeats 8000000 in
theorem l8Right_any (g : Nat) (A : Option Addr) (n c : Nat) (bs : List Int) (w : World) (hu : ∀ z ∈ bs, 0 ≤ z ∧ z ≤ 255) (hn : n ≤ 1073741824) (h : Cur w g A n c bs) (S1 S2 : Option Addr) (sn sc sm sd : Nat) (hs : List AH) (ats : List AD) (cs : List ByteArray) (s : SchF (· ≠ g) w S1 S2 sn sm sd hs ats cs) :
    Calls Try.prog 101 #[.pointer (some ⟨g, 0, none⟩), .agg #[.slice S1 sn sc, .slice S2 sm sd]] w (StR g A n c bs w) := by
  have HC := Lib.hid h
  have HU := Lib.hid hu
  have HS := Lib.hid s
  have hgw := h.lt
  clear h hu
  have B0 := Below.refl w.heap.size w
  have s0 : w.heap.size ≤ w.heap.size := Nat.le_refl _
  go_enter Try.func101, Try.ntmps101
  have s_2 : Bx (w.alloc (.cells #[.slice S1 sn sc, .slice S2 sm sd] 40)) (w.heap.size) 40 #[.slice S1 sn sc, .slice S2 sm sd] := Bx.new _ _ _
  have B_2 := B0.alloc s0 (.cells #[.slice S1 sn sc, .slice S2 sm sd] 40)
  clear B0
  have cs_3 := s_2.cells
  have fs_3 := s_2.free
  clear cs_3 fs_3
  have s_4 := s_2.same (same_alloc (.cells #[.slice none 0 0, .slice none 0 0] 35) (by simp only [World.size_alloc]; omega))
  clear s_2
  have r_5 : Bx ((w.alloc (.cells #[.slice S1 sn sc, .slice S2 sm sd] 40)).alloc (.cells #[.slice none 0 0, .slice none 0 0] 35)) (w.heap.size + 1) 35 #[.slice none 0 0, .slice none 0 0] := by
    have h := Bx.new (w.alloc (.cells #[.slice S1 sn sc, .slice S2 sm sd] 40)) 35 #[.slice none 0 0, .slice none 0 0]
    simpa only [World.size_alloc] using h
  have B_5 := B_2.alloc (by simp only [World.size_alloc]; omega) (.cells #[.slice none 0 0, .slice none 0 0] 35)
  clear B_2
  have cs_6 := s_4.cells
  have fs_6 := s_4.free
  have cr_7 := r_5.cells
  have fr_7 := r_5.free
  go_wp2_with fail
  clear cs_6 fs_6
  clear cr_7 fr_7
  obtain ⟨v8, hv8⟩ : ∃ v8, v8 = ((w.alloc (.cells #[.slice S1 sn sc, .slice S2 sm sd] 40)).alloc (.cells #[.slice none 0 0, .slice none 0 0] 35)) := ⟨_, rfl⟩
  have zv8 : w.heap.size + 1 + 1 ≤ v8.heap.size := by rw [hv8]; simp
  rw [← hv8] at s_4 r_5 B_5 ⊢
  clear hv8
  have HSb0 := Lib.hid s_4; have HRr0 := Lib.hid r_5
  have K0 := Lib.hid (Keeps.below (P := fun j => True) B_5 (Nat.le_refl _))
  have HCv := Lib.hid (HC.out.below B_5 (Nat.le_refl _))
  have HOv : Hid (Only g (g + 1) w v8) := Only.of_below B_5 (Nat.le_refl _)
  have HSv := Lib.hid (HS.out.keep (K0.out.mono (fun _ _ => trivial)))
  clear s_4 r_5 B_5
  refine (sStatsNew_any _ S1 S2 sn sc sm sd hs ats cs HSv.out).mono ?_
  rintro e v2 ⟨T, q, qc, X, p, pc, mid, gs, ts, xss, rfl, hsz0, host, hb⟩
  have s2 := hb.size
  obtain ⟨BO, hBO⟩ : ∃ BO, BO = v2.heap.size := ⟨_, rfl⟩
  obtain ⟨v, hv⟩ : ∃ v, v = v2.alloc (.cells #[.slice T q qc, .slice X p pc] 35) := ⟨_, rfl⟩
  have HBv : Hid (Bx v BO 35 #[.slice T q qc, .slice X p pc]) := by rw [hv, hBO]; exact Bx.new _ _ _
  have hKv : Keeps (fun j => True) v2 v := by rw [hv]; exact Keeps.alloc _
  have hzv : v.heap.size = BO + 1 := by rw [hv, World.size_alloc, hBO]
  have HTv : Hid (OwSta (w.heap.size + 1 + 1) BO v T X q qc p pc mid gs ts xss) := by rw [hBO]; exact (host.keep hKv (Nat.le_refl _) (fun _ _ _ => trivial)).wide_ (by omega) (Nat.le_refl _)
  have K2 := Keeps.below (P := fun j => True) hb (Nat.le_refl _)
  have HCw : Hid (Cur v g A n c bs) := by rw [hv]; exact (HCv.out.below hb (Nat.le_refl _)).below (below_alloc1 _) (Nat.le_refl _)
  have HOw_ : Hid (Only g (g + 1) w v) := by rw [hv]; exact (HOv.out.below_ hb (by omega)).below_ (below_alloc1 _) (by omega)
  have HRv := Lib.hid ((HRr0.out.keep K2 trivial).keep hKv trivial); have HSbv := Lib.hid ((HSb0.out.keep K2 trivial).keep hKv trivial)
  have hBOl : w.heap.size + 1 < BO := by omega
  have hgB : g < BO := by omega
  have HBV := Lib.hid hv; have HZ0 := Lib.hid hsz0
  clear hb hKv hv HOv HCv HRr0 HSb0 HSv K0 K2 host hsz0
  go_wp2_with fail
  rw [← HBV.out, ← hBO]
  clear HBV
  refine (pickLitAt g A n c 6 bs [0, 1, 3, 12, 30, 60] v _ _ _ (by omega) rfl rfl (by omega) (by omega) HU.out hn HCw.out).mono ?_
  rintro e u ⟨x, rfl, hx, hc1, ho1⟩
  have hxb : 0 ≤ x ∧ x ≤ 60 := by simp at hx; omega
  obtain ⟨N, rfl⟩ := Int.eq_ofNat_of_zero_le hxb.1
  have su := ho1.size
  have hBu : BO < u.heap.size := by omega
  have K2 := keeps_cur ho1
  have HT0 := Lib.hid (HTv.out.keep K2 (by omega) (fun j hj _ => by omega))
  have HB0 := Lib.hid (HBv.out.keep K2 (by omega)); have HR0 := Lib.hid (HRv.out.keep K2 (by omega)); have HSb0 := Lib.hid (HSbv.out.keep K2 (by omega)); have HC0 := Lib.hid hc1; have HO0 := Lib.hid (HOw_.out.trans ho1)
  clear hc1 ho1 K2 hx HCw HOw_ HBv HRv HTv HSbv hBO hzv
  go_wp2_with fail
  go_loopw [7] (fun s7 wr => ∃ (i : Nat) (T : Option Addr) (q qc : Nat) (X : Option Addr) (p pc mid : Nat) (gs : List Hd) (ts : List Int) (xss : List (List Int)) (lo hi : Nat), i ≤ N ∧ s7 = .int .i64 i ∧ (q ≤ 16 ∧ p ≤ 16 ∧ ∀ xs ∈ xss, xs.length ≤ 64) ∧ Bx wr w.heap.size 40 #[.slice S1 sn sc, .slice S2 sm sd] ∧ Bx wr (w.heap.size + 1) 35 #[.slice none 0 0, .slice none 0 0] ∧ Bx wr BO 35 #[.slice T q qc, .slice X p pc] ∧ ((w.heap.size + 1 + 1) ≤ lo ∧ hi ≤ wr.heap.size ∧ (hi ≤ BO ∨ BO < lo)) ∧ OwSta lo hi wr T X q qc p pc mid gs ts xss ∧ Cur wr g A n c bs ∧ Only g (g + 1) w wr) (fun s7 _ => N - (intOf s7).toNat)
  case atStart => exact ⟨0, T, q, qc, X, p, pc, mid, gs, ts, xss, (w.heap.size + 1 + 1), BO, Nat.zero_le _, rfl, HZ0.out, HSb0.out, HR0.out, HB0.out, ⟨Nat.le_refl _, by omega, .inl (Nat.le_refl _)⟩, HT0.out, HC0.out, HO0.out⟩
  case round =>
    clear HT0 HB0 HR0 HSb0 HC0 HO0 HZ0
    obtain ⟨i, T, q, qc, X, p, pc, mid, gs, ts, xss, lo, hi, hi_, rfl, hz, hsb, hrr, hbx, hlo, hst, hc, ho⟩ := hrel
    obtain ⟨wo, rfl⟩ : ∃ wo : World, wo = wr := ⟨_, rfl⟩
    obtain ⟨hlo1, hlo2, hlo3⟩ := hlo
    have hsz := ho.size
    have hlb := hbx.lt
    have HSb := Lib.hid hsb; have HRr := Lib.hid hrr; have HBx := Lib.hid hbx; have HSt := Lib.hid hst; have HC4 := Lib.hid hc; have HO4 := Lib.hid ho; have HZ := Lib.hid hz
    clear hsb hrr hbx hst hc ho hz
    have hq16 := HZ.out.1; have hp16 := HZ.out.2.1
    by_cases hlt : i < N
    · have hlti : (i : Int) < (N : Int) := by omega
      have p0 : wo.cell? ⟨w.heap.size, 0, none⟩ = some (.slice S1 sn sc) := HSb.out.cells 0; have pf0 := HSb.out.free 0
      have p1 : wo.cell? ⟨w.heap.size, 1, none⟩ = some (.slice S2 sm sd) := HSb.out.cells 1; have pf1 := HSb.out.free 1
      have HSF0 := Lib.hid (HS.out.keep (Keeps.only HO4.out (fun j hj => by omega)))
      go_wp2_with fail
      refine (l7Right_any g A n c bs _ HU.out hn HC4.out S1 S2 sn sc sm sd hs ats cs HSF0.out).mono ?_
      rintro e v5 ⟨E, k, c1, bl, cl, rfl, hk16, hown, hc1, ho1⟩
      have s5 := ho1.size
      have K2 := keeps_cur ho1
      obtain ⟨BE, hBE⟩ : ∃ BE, BE = v5.heap.size := ⟨_, rfl⟩
      obtain ⟨u, hu⟩ : ∃ u, u = v5.alloc (.cells #[.slice E k c1, .int .i64 cl] 43) := ⟨_, rfl⟩
      have hKu : Keeps (fun j => True) v5 u := by rw [hu]; exact Keeps.alloc _
      have hzu : u.heap.size = BE + 1 := by rw [hu, World.size_alloc, hBE]
      have HEb : Hid (Bx u BE 43 #[.slice E k c1, .int .i64 cl]) := by rw [hu, hBE]; exact Bx.new _ _ _
      have KK := Lib.hid (K2.trans (hKu.mono (fun _ _ => trivial)))
      have HEF : Hid (Rdf (· ≠ g) u E k (bl.map (Value.int .i64))) := (Rdf.of_own hown (fun j hj _ _ => by omega)).keep (hKu.mono (fun _ _ => trivial))
      have HSF : Hid (SchF (· ≠ g) u S1 S2 sn sm sd hs ats cs) := HSF0.out.keep KK.out
      have HSb5 := Lib.hid (HSb.out.keep KK.out (by omega)); have HRr5 := Lib.hid (HRr.out.keep KK.out (by omega)); have HBx5 := Lib.hid (HBx.out.keep KK.out (by omega))
      have HSt5 := Lib.hid (HSt.out.keep KK.out hlo2 (fun j hj _ => by omega))
      have HTF : Hid (StaF (· ≠ g) u T X q p gs ts xss) := StaF.of_own HSt5.out (fun j hj _ => by omega) (by omega) HZ.out.2.1 (fun xs hx => Nat.le_trans (HZ.out.2.2 xs hx) (by omega))
      have HC5 : Hid (Cur u g A n c bs) := by rw [hu]; exact hc1.below (below_alloc1 _) (Nat.le_refl _)
      have HO5 : Hid (Only g (g + 1) w u) := by rw [hu]; exact (HO4.out.trans ho1).below_ (below_alloc1 _) (by omega)
      have HKe : Hid (∀ w' : World, Keeps (· ≠ g) u w' → w'.cell? ⟨w.heap.size, 0, none⟩ = some (.slice S1 sn sc) ∧ w'.cell? ⟨w.heap.size, 1, none⟩ = some (.slice S2 sm sd) ∧ w'.cell? ⟨BE, 0, none⟩ = some (.slice E k c1) ∧ w'.cell? ⟨BE, 1, none⟩ = some (.int .i64 cl)) := fun w' hk => by
        have e1 := HSb5.out.keep hk (by omega)
        have e3 := HEb.out.keep hk (by omega)
        exact ⟨e1.cells 0, e1.cells 1, e3.cells 0, e3.cells 1⟩
      have HKe2 : Hid (∀ w2 : World, Keeps (· ≠ g) u w2 → ∀ w' : World, Keeps (· ≠ BO) w2 w' → w'.cell? ⟨w.heap.size, 0, none⟩ = some (.slice S1 sn sc) ∧ w'.cell? ⟨w.heap.size, 1, none⟩ = some (.slice S2 sm sd) ∧ w'.cell? ⟨BE, 0, none⟩ = some (.slice E k c1) ∧ w'.cell? ⟨BE, 1, none⟩ = some (.int .i64 cl)) := fun w2 hk2 w' hk => by
        have e1 := (HSb5.out.keep hk2 (by omega)).keep hk (by omega)
        have e3 := (HEb.out.keep hk2 (by omega)).keep hk (by omega)
        exact ⟨e1.cells 0, e1.cells 1, e3.cells 0, e3.cells 1⟩
      have kb0 : u.cell? ⟨BO, 0, none⟩ = some (.slice T q qc) := HBx5.out.cells 0
      have kb1 : u.cell? ⟨BO, 1, none⟩ = some (.slice X p pc) := HBx5.out.cells 1
      have HCd := Lib.hid (HC5.out.below2 (below_drew u.heap.size u) (by omega))
      have HUU := Lib.hid hu
      have HBE := Lib.hid hBE
      have hBEl : BE < u.heap.size := by omega
      have hBEb : BO < BE := by omega
      have hBOu : BO < u.heap.size := by omega
      clear hown hc1 ho1 K2 hKu hu hBE hzu HSF0 HC4 HO4 HSt p0 p1 pf0 pf1
      go_upto_region 7 with fail
      rw [← HUU.out, ← HBE.out]
      clear HUU HBE
      skip
      refine wp_region_held_drew (S := fun w' => w'.cell? ⟨w.heap.size, 0, none⟩ = some (.slice S1 sn sc) ∧ w'.cell? ⟨w.heap.size, 1, none⟩ = some (.slice S2 sm sd) ∧ w'.cell? ⟨BE, 0, none⟩ = some (.slice E k c1) ∧ w'.cell? ⟨BE, 1, none⟩ = some (.int .i64 cl)) (by kernel_rfl) (HKe.out _ Keeps.drew) ?_
      intro hS; (try dsimp only at hS)
      refine wpAnyH_take (i := 0) (v := ?v13x) rfl (by kernel_rfl) (by kernel_rfl) (by kernel_rfl) (fun _ _ _ h => h) (Or.inl ⟨by rfl, ?hy13x⟩) hS ?rest13x
      case hy13x => (intro w' hSw; (try dsimp only at hSw); go_simp; (try (with_reducible rfl)))
      (try simp only [Act.put, List.setIfInBounds_toArray, List.set_cons_zero, List.set_cons_succ, List.getElem_toArray, List.getElem_cons_succ, List.getElem_cons_zero])
      refine wpAnyH_take (i := 2) (v := ?v14x) rfl (by kernel_rfl) (by kernel_rfl) (by kernel_rfl) (fun _ _ _ h => h) (Or.inl ⟨by rfl, ?hy14x⟩) hS ?rest14x
      case hy14x => (intro w' hSw; (try dsimp only at hSw); go_simp; (try (with_reducible rfl)))
      (try simp only [Act.put, List.setIfInBounds_toArray, List.set_cons_zero, List.set_cons_succ, List.getElem_toArray, List.getElem_cons_succ, List.getElem_cons_zero])
      refine wpAnyH_take (i := 3) (v := ?v15x) rfl (by kernel_rfl) (by kernel_rfl) (by kernel_rfl) (fun _ _ _ h => h) (Or.inl ⟨by rfl, ?hy15x⟩) hS ?rest15x
      case hy15x => (intro w' hSw; (try dsimp only at hSw); go_simp; (try (with_reducible rfl)))
      (try simp only [Act.put, List.setIfInBounds_toArray, List.set_cons_zero, List.set_cons_succ, List.getElem_toArray, List.getElem_cons_succ, List.getElem_cons_zero])
      refine wpAnyH_ready (rs := [1, 4]) (by kernel_rfl) (by simp) ?_
      refine AllReadyH.cons rfl (fun K hK => ?_) (AllReadyH.cons rfl (fun K hK => ?_) AllReadyH.nil)
      · (try dsimp only [List.getElem_toArray, List.getElem_cons_succ, List.getElem_cons_zero])
        go_simp
        refine hK.out _ _ (HKe.out _ Keeps.drew) (fun hS9 => ?_)
        clear hK K hS; have hS := hS9; clear hS9; (try dsimp only at hS)
        (try simp only [Act.put, List.setIfInBounds_toArray, List.set_cons_zero, List.set_cons_succ, List.getElem_toArray, List.getElem_cons_succ, List.getElem_cons_zero])
        refine wpAnyH_ready (rs := [4]) (by kernel_rfl) (by simp) ?_
        refine AllReadyH.cons rfl (fun K hK => ?_) AllReadyH.nil
        (try dsimp only [List.getElem_toArray, List.getElem_cons_succ, List.getElem_cons_zero])
        go_simp
        refine hK.out _ _ (HKe.out _ (Keeps.trans Keeps.drew (Keeps.alloc _))) (fun hS9 => ?_)
        clear hK K hS; have hS := hS9; clear hS9; (try dsimp only at hS)
        (try simp only [Act.put, List.setIfInBounds_toArray, List.set_cons_zero, List.set_cons_succ, List.getElem_toArray, List.getElem_cons_succ, List.getElem_cons_zero])
        refine wpAnyH_ready (rs := [5]) (by kernel_rfl) (by simp) ?_
        refine AllReadyH.cons rfl (fun K hK => ?_) AllReadyH.nil
        (try dsimp only [List.getElem_toArray, List.getElem_cons_succ, List.getElem_cons_zero])
        (go_simp; (refine (pickLit g A n c 3 bs [1, 2, 7] u.drew #[.int .i64 1, .int .i64 2, .int .i64 7] 3 rfl rfl (by omega) (by omega) HU.out hn HCd.out).mono ?_); rintro e q3 ⟨y, rfl, -, hcq, hoq⟩; dsimp only)
        have hO3 : Only g (g + 1) u q3 := (Only.of_below (below_drew u.heap.size u) (Nat.le_refl _)).trans hoq
        have hz3 := hO3.size
        have HCq3 := Lib.hid hcq
        have K3 := Lib.hid (keeps_cur hO3)
        have HSq := Lib.hid (HSF.out.keep K3.out).sch
        have HTq := Lib.hid (HTF.out.keep K3.out).sta
        have HEq := Lib.hid (HEF.out.keep K3.out).rd
        have HBq := Lib.hid (HBx5.out.keep K3.out (by omega))
        have kq0 := HBq.out.cells 0
        have kq1 := HBq.out.cells 1
        simp at kq0 kq1
        refine hK.out _ _ (HKe.out _ K3.out) (fun hS9 => ?_)
        clear hK K hS; have hS := hS9; clear hS9; (try dsimp only at hS)
        (try simp only [Act.put, List.setIfInBounds_toArray, List.set_cons_zero, List.set_cons_succ, List.getElem_toArray, List.getElem_cons_succ, List.getElem_cons_zero])
        refine wpAnyH_ready (rs := [6]) (by kernel_rfl) (by simp) ?_
        refine AllReadyH.cons rfl (fun K hK => ?_) AllReadyH.nil
        (try dsimp only [List.getElem_toArray, List.getElem_cons_succ, List.getElem_cons_zero])
        (go_simp; (refine (sStatsAdd_any S1 S2 sn sc sm sd hs ats cs T X q qc p pc gs ts xss E k c1 bl cl y _ HSq.out HTq.out HEq.out (by omega)).mono ?_); rintro e q4 ⟨A2, qc2, C2, pc2, mid2, gs2, rfl, o4, b4⟩; dsimp only)
        have hz4 := b4.size
        have K4 := Lib.hid (Keeps.below (P := fun j => True) b4 (Nat.le_refl _))
        have HBz := Lib.hid (HBq.out.keep K4.out trivial)
        have kz0 := HBz.out.cells 0
        have kz1 := HBz.out.cells 1
        have kzf0 := HBz.out.free 0
        have kzf1 := HBz.out.free 1
        simp at kz0 kz1
        clear kq0 kq1
        refine hK.out _ _ (HKe.out _ (K3.out.trans (K4.out.mono (fun _ _ => trivial)))) (fun hS9 => ?_)
        clear hK K hS; have hS := hS9; clear hS9; (try dsimp only at hS)
        (try simp only [Act.put, List.setIfInBounds_toArray, List.set_cons_zero, List.set_cons_succ, List.getElem_toArray, List.getElem_cons_succ, List.getElem_cons_zero])
        refine wpAnyH_take (i := 7) (v := ?v4x) rfl (by kernel_rfl) (by kernel_rfl) (by kernel_rfl) (fun _ _ _ h => h) (Or.inl ⟨by rfl, ?hy4x⟩) hS ?rest4x
        case hy4x => (intro w' hSw; (try dsimp only at hSw); go_simp; (try (with_reducible rfl)))
        (try simp only [Act.put, List.setIfInBounds_toArray, List.set_cons_zero, List.set_cons_succ, List.getElem_toArray, List.getElem_cons_succ, List.getElem_cons_zero])
        refine wpAnyH_take (i := 8) (v := ?v5x) rfl (by kernel_rfl) (by kernel_rfl) (by kernel_rfl) (fun _ _ _ h => h) (Or.inl ⟨by rfl, ?hy5x⟩) hS ?rest5x
        case hy5x => (intro w' hSw; (try dsimp only at hSw); go_simp; (try (with_reducible rfl)))
        (try simp only [Act.put, List.setIfInBounds_toArray, List.set_cons_zero, List.set_cons_succ, List.getElem_toArray, List.getElem_cons_succ, List.getElem_cons_zero])
        refine wpAnyH_take (i := 9) (v := ?v6x) rfl (by kernel_rfl) (by kernel_rfl) (by kernel_rfl) (fun _ _ _ h => h) (Or.inl ⟨by rfl, ?hy6x⟩) hS ?rest6x
        case hy6x => (intro w' hSw; (try dsimp only at hSw); go_simp; (try (with_reducible rfl)))
        (try simp only [Act.put, List.setIfInBounds_toArray, List.set_cons_zero, List.set_cons_succ, List.getElem_toArray, List.getElem_cons_succ, List.getElem_cons_zero])
        refine wpAnyH_ready (rs := [10]) (by kernel_rfl) (by simp) ?_
        refine AllReadyH.cons rfl (fun K hK => ?_) AllReadyH.nil
        (try dsimp only [List.getElem_toArray, List.getElem_cons_succ, List.getElem_cons_zero])
        go_simp
        have HK9 := Lib.hid (keeps_step (set1_keeps q4 BO 0 (.slice A2 q qc2)) 1 (.slice C2 p pc2))
        have HKf5 := Lib.hid (HKe2.out _ (K3.out.trans (K4.out.mono (fun _ _ => trivial))) _ HK9.out.1)
        refine hK.out _ _ (HKf5.out) (fun hS9 => ?_)
        clear hK K hS; have hS := hS9; clear hS9; (try dsimp only at hS)
        (try simp only [Act.put, List.setIfInBounds_toArray, List.set_cons_zero, List.set_cons_succ, List.getElem_toArray, List.getElem_cons_succ, List.getElem_cons_zero])
        refine wpAnyH_done (by kernel_rfl) ?_ _
        have hB4 : Below (w.heap.size + 1 + 1) q3 q4 := b4.mono (by omega)
        have HSb9 := Lib.hid (((HSb5.out.keep K3.out (by omega)).keep K4.out trivial).keep HK9.out.1 (by omega)); have HRr9 := Lib.hid (((HRr5.out.keep K3.out (by omega)).keep K4.out trivial).keep HK9.out.1 (by omega))
        have HBx9 := Lib.hid ((((HBx5.out.keep K3.out (by omega)).keep K4.out trivial).set_ 0 (.slice A2 q qc2)).set_ 1 (.slice C2 p pc2))
        have HSt9 : Hid (OwSta q3.heap.size q4.heap.size _ A2 C2 q qc2 p pc2 mid2 gs2 (addT ats cs ts xss bl cl y) (addX ats cs ts xss bl cl y)) := o4.keep HK9.out.1 (Nat.le_refl _) (fun j hj _ => by omega)
        have HC9 := Lib.hid ((HCq3.out.below b4 (Nat.le_refl _)).below2 HK9.out.2 (by omega)); have HO9 := Lib.hid (((HO5.out.trans hO3).below_ hB4 (by omega)).below_ HK9.out.2 (by omega))
        have HZ9 : Hid (q ≤ 16 ∧ p ≤ 16 ∧ ∀ xs ∈ addX ats cs ts xss bl cl y, xs.length ≤ 64) := ⟨HZ.out.1, HZ.out.2.1, addX_le8 HZ.out.2.2⟩
        clear hcq hoq o4 b4 hB4
        go_wp2_with fail
        go_roundw
        case rel => exact ⟨i + 1, A2, q, qc2, C2, p, pc2, mid2, gs2, _, _, q3.heap.size, q4.heap.size, by omega, by go_num, HZ9.out, HSb9.out, HRr9.out, HBx9.out, ⟨by omega, by simp only [World.size_setCell, World.size_drew]; exact Nat.le_refl _, .inr (by omega)⟩, HSt9.out, HC9.out, HO9.out⟩
        case measure => simp [intOf]; omega
      · (try dsimp only [List.getElem_toArray, List.getElem_cons_succ, List.getElem_cons_zero])
        go_simp
        refine hK.out _ _ (HKe.out _ (Keeps.trans Keeps.drew (Keeps.alloc _))) (fun hS9 => ?_)
        clear hK K hS; have hS := hS9; clear hS9; (try dsimp only at hS)
        (try simp only [Act.put, List.setIfInBounds_toArray, List.set_cons_zero, List.set_cons_succ, List.getElem_toArray, List.getElem_cons_succ, List.getElem_cons_zero])
        refine wpAnyH_ready (rs := [1, 5]) (by kernel_rfl) (by simp) ?_
        refine AllReadyH.cons rfl (fun K hK => ?_) (AllReadyH.cons rfl (fun K hK => ?_) AllReadyH.nil)
        · (try dsimp only [List.getElem_toArray, List.getElem_cons_succ, List.getElem_cons_zero])
          go_simp
          refine hK.out _ _ (HKe.out _ (Keeps.trans Keeps.drew (Keeps.alloc _))) (fun hS9 => ?_)
          clear hK K hS; have hS := hS9; clear hS9; (try dsimp only at hS)
          (try simp only [Act.put, List.setIfInBounds_toArray, List.set_cons_zero, List.set_cons_succ, List.getElem_toArray, List.getElem_cons_succ, List.getElem_cons_zero])
          refine wpAnyH_ready (rs := [5]) (by kernel_rfl) (by simp) ?_
          refine AllReadyH.cons rfl (fun K hK => ?_) AllReadyH.nil
          (try dsimp only [List.getElem_toArray, List.getElem_cons_succ, List.getElem_cons_zero])
          (go_simp; (refine (pickLit g A n c 3 bs [1, 2, 7] u.drew #[.int .i64 1, .int .i64 2, .int .i64 7] 3 rfl rfl (by omega) (by omega) HU.out hn HCd.out).mono ?_); rintro e q3 ⟨y, rfl, -, hcq, hoq⟩; dsimp only)
          have hO3 : Only g (g + 1) u q3 := (Only.of_below (below_drew u.heap.size u) (Nat.le_refl _)).trans hoq
          have hz3 := hO3.size
          have HCq3 := Lib.hid hcq
          have K3 := Lib.hid (keeps_cur hO3)
          have HSq := Lib.hid (HSF.out.keep K3.out).sch
          have HTq := Lib.hid (HTF.out.keep K3.out).sta
          have HEq := Lib.hid (HEF.out.keep K3.out).rd
          have HBq := Lib.hid (HBx5.out.keep K3.out (by omega))
          have kq0 := HBq.out.cells 0
          have kq1 := HBq.out.cells 1
          simp at kq0 kq1
          refine hK.out _ _ (HKe.out _ K3.out) (fun hS9 => ?_)
          clear hK K hS; have hS := hS9; clear hS9; (try dsimp only at hS)
          (try simp only [Act.put, List.setIfInBounds_toArray, List.set_cons_zero, List.set_cons_succ, List.getElem_toArray, List.getElem_cons_succ, List.getElem_cons_zero])
          refine wpAnyH_ready (rs := [6]) (by kernel_rfl) (by simp) ?_
          refine AllReadyH.cons rfl (fun K hK => ?_) AllReadyH.nil
          (try dsimp only [List.getElem_toArray, List.getElem_cons_succ, List.getElem_cons_zero])
          (go_simp; (refine (sStatsAdd_any S1 S2 sn sc sm sd hs ats cs T X q qc p pc gs ts xss E k c1 bl cl y _ HSq.out HTq.out HEq.out (by omega)).mono ?_); rintro e q4 ⟨A2, qc2, C2, pc2, mid2, gs2, rfl, o4, b4⟩; dsimp only)
          have hz4 := b4.size
          have K4 := Lib.hid (Keeps.below (P := fun j => True) b4 (Nat.le_refl _))
          have HBz := Lib.hid (HBq.out.keep K4.out trivial)
          have kz0 := HBz.out.cells 0
          have kz1 := HBz.out.cells 1
          have kzf0 := HBz.out.free 0
          have kzf1 := HBz.out.free 1
          simp at kz0 kz1
          clear kq0 kq1
          refine hK.out _ _ (HKe.out _ (K3.out.trans (K4.out.mono (fun _ _ => trivial)))) (fun hS9 => ?_)
          clear hK K hS; have hS := hS9; clear hS9; (try dsimp only at hS)
          (try simp only [Act.put, List.setIfInBounds_toArray, List.set_cons_zero, List.set_cons_succ, List.getElem_toArray, List.getElem_cons_succ, List.getElem_cons_zero])
          refine wpAnyH_take (i := 7) (v := ?v7x) rfl (by kernel_rfl) (by kernel_rfl) (by kernel_rfl) (fun _ _ _ h => h) (Or.inl ⟨by rfl, ?hy7x⟩) hS ?rest7x
          case hy7x => (intro w' hSw; (try dsimp only at hSw); go_simp; (try (with_reducible rfl)))
          (try simp only [Act.put, List.setIfInBounds_toArray, List.set_cons_zero, List.set_cons_succ, List.getElem_toArray, List.getElem_cons_succ, List.getElem_cons_zero])
          refine wpAnyH_take (i := 8) (v := ?v8x) rfl (by kernel_rfl) (by kernel_rfl) (by kernel_rfl) (fun _ _ _ h => h) (Or.inl ⟨by rfl, ?hy8x⟩) hS ?rest8x
          case hy8x => (intro w' hSw; (try dsimp only at hSw); go_simp; (try (with_reducible rfl)))
          (try simp only [Act.put, List.setIfInBounds_toArray, List.set_cons_zero, List.set_cons_succ, List.getElem_toArray, List.getElem_cons_succ, List.getElem_cons_zero])
          refine wpAnyH_take (i := 9) (v := ?v9x) rfl (by kernel_rfl) (by kernel_rfl) (by kernel_rfl) (fun _ _ _ h => h) (Or.inl ⟨by rfl, ?hy9x⟩) hS ?rest9x
          case hy9x => (intro w' hSw; (try dsimp only at hSw); go_simp; (try (with_reducible rfl)))
          (try simp only [Act.put, List.setIfInBounds_toArray, List.set_cons_zero, List.set_cons_succ, List.getElem_toArray, List.getElem_cons_succ, List.getElem_cons_zero])
          refine wpAnyH_ready (rs := [10]) (by kernel_rfl) (by simp) ?_
          refine AllReadyH.cons rfl (fun K hK => ?_) AllReadyH.nil
          (try dsimp only [List.getElem_toArray, List.getElem_cons_succ, List.getElem_cons_zero])
          go_simp
          have HK9 := Lib.hid (keeps_step (set1_keeps q4 BO 0 (.slice A2 q qc2)) 1 (.slice C2 p pc2))
          have HKf5 := Lib.hid (HKe2.out _ (K3.out.trans (K4.out.mono (fun _ _ => trivial))) _ HK9.out.1)
          refine hK.out _ _ (HKf5.out) (fun hS9 => ?_)
          clear hK K hS; have hS := hS9; clear hS9; (try dsimp only at hS)
          (try simp only [Act.put, List.setIfInBounds_toArray, List.set_cons_zero, List.set_cons_succ, List.getElem_toArray, List.getElem_cons_succ, List.getElem_cons_zero])
          refine wpAnyH_done (by kernel_rfl) ?_ _
          have hB4 : Below (w.heap.size + 1 + 1) q3 q4 := b4.mono (by omega)
          have HSb9 := Lib.hid (((HSb5.out.keep K3.out (by omega)).keep K4.out trivial).keep HK9.out.1 (by omega)); have HRr9 := Lib.hid (((HRr5.out.keep K3.out (by omega)).keep K4.out trivial).keep HK9.out.1 (by omega))
          have HBx9 := Lib.hid ((((HBx5.out.keep K3.out (by omega)).keep K4.out trivial).set_ 0 (.slice A2 q qc2)).set_ 1 (.slice C2 p pc2))
          have HSt9 : Hid (OwSta q3.heap.size q4.heap.size _ A2 C2 q qc2 p pc2 mid2 gs2 (addT ats cs ts xss bl cl y) (addX ats cs ts xss bl cl y)) := o4.keep HK9.out.1 (Nat.le_refl _) (fun j hj _ => by omega)
          have HC9 := Lib.hid ((HCq3.out.below b4 (Nat.le_refl _)).below2 HK9.out.2 (by omega)); have HO9 := Lib.hid (((HO5.out.trans hO3).below_ hB4 (by omega)).below_ HK9.out.2 (by omega))
          have HZ9 : Hid (q ≤ 16 ∧ p ≤ 16 ∧ ∀ xs ∈ addX ats cs ts xss bl cl y, xs.length ≤ 64) := ⟨HZ.out.1, HZ.out.2.1, addX_le8 HZ.out.2.2⟩
          clear hcq hoq o4 b4 hB4
          go_wp2_with fail
          go_roundw
          case rel => exact ⟨i + 1, A2, q, qc2, C2, p, pc2, mid2, gs2, _, _, q3.heap.size, q4.heap.size, by omega, by go_num, HZ9.out, HSb9.out, HRr9.out, HBx9.out, ⟨by omega, by simp only [World.size_setCell, World.size_drew]; exact Nat.le_refl _, .inr (by omega)⟩, HSt9.out, HC9.out, HO9.out⟩
          case measure => simp [intOf]; omega
        · (try dsimp only [List.getElem_toArray, List.getElem_cons_succ, List.getElem_cons_zero])
          (go_simp; (refine (pickLit g A n c 3 bs [1, 2, 7] u.drew #[.int .i64 1, .int .i64 2, .int .i64 7] 3 rfl rfl (by omega) (by omega) HU.out hn HCd.out).mono ?_); rintro e q3 ⟨y, rfl, -, hcq, hoq⟩; dsimp only)
          have hO3 : Only g (g + 1) u q3 := (Only.of_below (below_drew u.heap.size u) (Nat.le_refl _)).trans hoq
          have hz3 := hO3.size
          have HCq3 := Lib.hid hcq
          have K3 := Lib.hid (keeps_cur hO3)
          have HSq := Lib.hid (HSF.out.keep K3.out).sch
          have HTq := Lib.hid (HTF.out.keep K3.out).sta
          have HEq := Lib.hid (HEF.out.keep K3.out).rd
          have HBq := Lib.hid (HBx5.out.keep K3.out (by omega))
          have kq0 := HBq.out.cells 0
          have kq1 := HBq.out.cells 1
          simp at kq0 kq1
          refine hK.out _ _ (HKe.out _ K3.out) (fun hS9 => ?_)
          clear hK K hS; have hS := hS9; clear hS9; (try dsimp only at hS)
          (try simp only [Act.put, List.setIfInBounds_toArray, List.set_cons_zero, List.set_cons_succ, List.getElem_toArray, List.getElem_cons_succ, List.getElem_cons_zero])
          refine wpAnyH_ready (rs := [1]) (by kernel_rfl) (by simp) ?_
          refine AllReadyH.cons rfl (fun K hK => ?_) AllReadyH.nil
          (try dsimp only [List.getElem_toArray, List.getElem_cons_succ, List.getElem_cons_zero])
          go_simp
          refine hK.out _ _ (HKe.out _ K3.out) (fun hS9 => ?_)
          clear hK K hS; have hS := hS9; clear hS9; (try dsimp only at hS)
          (try simp only [Act.put, List.setIfInBounds_toArray, List.set_cons_zero, List.set_cons_succ, List.getElem_toArray, List.getElem_cons_succ, List.getElem_cons_zero])
          refine wpAnyH_ready (rs := [6]) (by kernel_rfl) (by simp) ?_
          refine AllReadyH.cons rfl (fun K hK => ?_) AllReadyH.nil
          (try dsimp only [List.getElem_toArray, List.getElem_cons_succ, List.getElem_cons_zero])
          (go_simp; (refine (sStatsAdd_any S1 S2 sn sc sm sd hs ats cs T X q qc p pc gs ts xss E k c1 bl cl y _ HSq.out HTq.out HEq.out (by omega)).mono ?_); rintro e q4 ⟨A2, qc2, C2, pc2, mid2, gs2, rfl, o4, b4⟩; dsimp only)
          have hz4 := b4.size
          have K4 := Lib.hid (Keeps.below (P := fun j => True) b4 (Nat.le_refl _))
          have HBz := Lib.hid (HBq.out.keep K4.out trivial)
          have kz0 := HBz.out.cells 0
          have kz1 := HBz.out.cells 1
          have kzf0 := HBz.out.free 0
          have kzf1 := HBz.out.free 1
          simp at kz0 kz1
          clear kq0 kq1
          refine hK.out _ _ (HKe.out _ (K3.out.trans (K4.out.mono (fun _ _ => trivial)))) (fun hS9 => ?_)
          clear hK K hS; have hS := hS9; clear hS9; (try dsimp only at hS)
          (try simp only [Act.put, List.setIfInBounds_toArray, List.set_cons_zero, List.set_cons_succ, List.getElem_toArray, List.getElem_cons_succ, List.getElem_cons_zero])
          refine wpAnyH_take (i := 7) (v := ?v10x) rfl (by kernel_rfl) (by kernel_rfl) (by kernel_rfl) (fun _ _ _ h => h) (Or.inl ⟨by rfl, ?hy10x⟩) hS ?rest10x
          case hy10x => (intro w' hSw; (try dsimp only at hSw); go_simp; (try (with_reducible rfl)))
          (try simp only [Act.put, List.setIfInBounds_toArray, List.set_cons_zero, List.set_cons_succ, List.getElem_toArray, List.getElem_cons_succ, List.getElem_cons_zero])
          refine wpAnyH_take (i := 8) (v := ?v11x) rfl (by kernel_rfl) (by kernel_rfl) (by kernel_rfl) (fun _ _ _ h => h) (Or.inl ⟨by rfl, ?hy11x⟩) hS ?rest11x
          case hy11x => (intro w' hSw; (try dsimp only at hSw); go_simp; (try (with_reducible rfl)))
          (try simp only [Act.put, List.setIfInBounds_toArray, List.set_cons_zero, List.set_cons_succ, List.getElem_toArray, List.getElem_cons_succ, List.getElem_cons_zero])
          refine wpAnyH_take (i := 9) (v := ?v12x) rfl (by kernel_rfl) (by kernel_rfl) (by kernel_rfl) (fun _ _ _ h => h) (Or.inl ⟨by rfl, ?hy12x⟩) hS ?rest12x
          case hy12x => (intro w' hSw; (try dsimp only at hSw); go_simp; (try (with_reducible rfl)))
          (try simp only [Act.put, List.setIfInBounds_toArray, List.set_cons_zero, List.set_cons_succ, List.getElem_toArray, List.getElem_cons_succ, List.getElem_cons_zero])
          refine wpAnyH_ready (rs := [10]) (by kernel_rfl) (by simp) ?_
          refine AllReadyH.cons rfl (fun K hK => ?_) AllReadyH.nil
          (try dsimp only [List.getElem_toArray, List.getElem_cons_succ, List.getElem_cons_zero])
          go_simp
          have HK9 := Lib.hid (keeps_step (set1_keeps q4 BO 0 (.slice A2 q qc2)) 1 (.slice C2 p pc2))
          have HKf5 := Lib.hid (HKe2.out _ (K3.out.trans (K4.out.mono (fun _ _ => trivial))) _ HK9.out.1)
          refine hK.out _ _ (HKf5.out) (fun hS9 => ?_)
          clear hK K hS; have hS := hS9; clear hS9; (try dsimp only at hS)
          (try simp only [Act.put, List.setIfInBounds_toArray, List.set_cons_zero, List.set_cons_succ, List.getElem_toArray, List.getElem_cons_succ, List.getElem_cons_zero])
          refine wpAnyH_done (by kernel_rfl) ?_ _
          have hB4 : Below (w.heap.size + 1 + 1) q3 q4 := b4.mono (by omega)
          have HSb9 := Lib.hid (((HSb5.out.keep K3.out (by omega)).keep K4.out trivial).keep HK9.out.1 (by omega)); have HRr9 := Lib.hid (((HRr5.out.keep K3.out (by omega)).keep K4.out trivial).keep HK9.out.1 (by omega))
          have HBx9 := Lib.hid ((((HBx5.out.keep K3.out (by omega)).keep K4.out trivial).set_ 0 (.slice A2 q qc2)).set_ 1 (.slice C2 p pc2))
          have HSt9 : Hid (OwSta q3.heap.size q4.heap.size _ A2 C2 q qc2 p pc2 mid2 gs2 (addT ats cs ts xss bl cl y) (addX ats cs ts xss bl cl y)) := o4.keep HK9.out.1 (Nat.le_refl _) (fun j hj _ => by omega)
          have HC9 := Lib.hid ((HCq3.out.below b4 (Nat.le_refl _)).below2 HK9.out.2 (by omega)); have HO9 := Lib.hid (((HO5.out.trans hO3).below_ hB4 (by omega)).below_ HK9.out.2 (by omega))
          have HZ9 : Hid (q ≤ 16 ∧ p ≤ 16 ∧ ∀ xs ∈ addX ats cs ts xss bl cl y, xs.length ≤ 64) := ⟨HZ.out.1, HZ.out.2.1, addX_le8 HZ.out.2.2⟩
          clear hcq hoq o4 b4 hB4
          go_wp2_with fail
          go_roundw
          case rel => exact ⟨i + 1, A2, q, qc2, C2, p, pc2, mid2, gs2, _, _, q3.heap.size, q4.heap.size, by omega, by go_num, HZ9.out, HSb9.out, HRr9.out, HBx9.out, ⟨by omega, by simp only [World.size_setCell, World.size_drew]; exact Nat.le_refl _, .inr (by omega)⟩, HSt9.out, HC9.out, HO9.out⟩
          case measure => simp [intOf]; omega
    · have hlti : ¬ (i : Int) < (N : Int) := by omega
      go_wp2_with fail
      refine (l1Once_any g A n c bs 8 _ HU.out hn HC4.out).mono ?_
      rintro e u ⟨t, rfl, hc1, ho1⟩
      have s5 := ho1.size
      have K2 := keeps_cur ho1
      have HR5 := Lib.hid (HRr.out.keep K2 (by omega)); have HBx5 := Lib.hid (HBx.out.keep K2 (by omega))
      have HSt5 := Lib.hid (HSt.out.keep K2 hlo2 (fun j hj _ => by omega))
      have HC5 := Lib.hid hc1; have HO5 := Lib.hid (HO4.out.trans ho1)
      clear hc1 ho1 K2 HRr HBx HSt HC4 HO4 HSb
      have p0 : u.cell? ⟨BO, 0, none⟩ = some (.slice T q qc) := HBx5.out.cells 0; have pf0 := HBx5.out.free 0
      have p1 : u.cell? ⟨BO, 1, none⟩ = some (.slice X p pc) := HBx5.out.cells 1; have pf1 := HBx5.out.free 1
      cases t
      · have HRr := HR5; have HCf := HC5; have HOf := HO5
        have HKf := Lib.hid (keeps_step (set1_keeps u (w.heap.size + 1) 0 (.slice T q qc)) 1 (.slice X p pc))
        have r0 : u.cell? ⟨w.heap.size + 1, 0, none⟩ = some (.slice none 0 0) := HRr.out.cells 0
        have r1 : u.cell? ⟨w.heap.size + 1, 1, none⟩ = some (.slice none 0 0) := HRr.out.cells 1
        have rf0 := HRr.out.free 0; have rf1 := HRr.out.free 1
        have hfin : ∀ w9, w9 = (u.setCell ⟨(w.heap.size + 1), 0, none⟩ (.slice T q qc)).setCell ⟨(w.heap.size + 1), 1, none⟩ (.slice X p pc) → OwSta w.heap.size w9.heap.size w9 T X q qc p pc mid gs ts xss ∧ Cur w9 g A n c bs ∧ Only g (g + 1) w w9 := by
          intro w9 h9
          subst h9
          exact ⟨(HSt5.out.keep HKf.out.1 (by omega) (fun j hj _ => by omega)).wide_ (by omega) (by simp only [World.size_setCell]; omega), HCf.out.below2 HKf.out.2 (by omega), HOf.out.below_ HKf.out.2 (by omega)⟩
        have HFin := Lib.hid hfin
        clear hfin
        go_wp2_with ((with_reducible refine bodyPost_ret (v := .agg #[.slice T q qc, .slice X p pc]) ?k1 ?k2 ?k3); (case k1 => (simp [results, Try.results101, go_sem, r0, r1, rf0, rf1])); (case k2 => rfl); (case k3 => (exact ⟨T, q, qc, X, p, pc, mid, gs, ts, xss, rfl, HZ.out, (HFin.out _ rfl).1, (HFin.out _ rfl).2.1, (HFin.out _ rfl).2.2⟩)))
      · have HTo : Hid (TotF (fun j => True) u T q ts) := ⟨Rdf.of_own HSt5.out.tot.own (fun _ _ _ _ => trivial), hq16⟩
        go_wp2_with fail
        refine (sThin_any u T X q qc p pc ts HTo.out).mono ?_
        rintro e u7 ⟨T7, q7, qc7, X7, p7, pc7, mid7, gs7, ts7, xss7, rfl, hz7, o7, b7⟩
        have s7 := b7.size
        have HRr := Lib.hid (HR5.out.keep (Keeps.below (P := fun j => True) b7 (Nat.le_refl _)) trivial); have HCf := Lib.hid (HC5.out.below b7 (Nat.le_refl _)); have HOf := Lib.hid (HO5.out.below_ b7 (by omega)); have HSt7 := Lib.hid o7; have HZ7 := Lib.hid hz7
        clear o7 b7 hz7 p0 p1 pf0 pf1
        have HKf := Lib.hid (keeps_step (set1_keeps u7 (w.heap.size + 1) 0 (.slice T7 q7 qc7)) 1 (.slice X7 p7 pc7))
        have r0 : u7.cell? ⟨w.heap.size + 1, 0, none⟩ = some (.slice none 0 0) := HRr.out.cells 0
        have r1 : u7.cell? ⟨w.heap.size + 1, 1, none⟩ = some (.slice none 0 0) := HRr.out.cells 1
        have rf0 := HRr.out.free 0; have rf1 := HRr.out.free 1
        have hfin : ∀ w9, w9 = (u7.setCell ⟨(w.heap.size + 1), 0, none⟩ (.slice T7 q7 qc7)).setCell ⟨(w.heap.size + 1), 1, none⟩ (.slice X7 p7 pc7) → OwSta w.heap.size w9.heap.size w9 T7 X7 q7 qc7 p7 pc7 mid7 gs7 ts7 xss7 ∧ Cur w9 g A n c bs ∧ Only g (g + 1) w w9 := by
          intro w9 h9
          subst h9
          exact ⟨(HSt7.out.keep HKf.out.1 (Nat.le_refl _) (fun j hj _ => by omega)).wide_ (by omega) (by simp only [World.size_setCell]; exact Nat.le_refl _), HCf.out.below2 HKf.out.2 (by omega), HOf.out.below_ HKf.out.2 (by omega)⟩
        have HFin := Lib.hid hfin
        clear hfin
        go_wp2_with ((with_reducible refine bodyPost_ret (v := .agg #[.slice T7 q7 qc7, .slice X7 p7 pc7]) ?k1 ?k2 ?k3); (case k1 => (simp [results, Try.results101, go_sem, r0, r1, rf0, rf1])); (case k2 => rfl); (case k3 => (exact ⟨T7, q7, qc7, X7, p7, pc7, mid7, gs7, ts7, xss7, rfl, HZ7.out, (HFin.out _ rfl).1, (HFin.out _ rfl).2.1, (HFin.out _ rfl).2.2⟩)))

end Go.Proofs.Ytchkmcikpamdeaa
