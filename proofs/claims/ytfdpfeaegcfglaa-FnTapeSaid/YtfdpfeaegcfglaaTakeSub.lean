/-
  TakeSubset of both packages.
-/
import Derived.Test.YtfdpfeaegcfglaaTakeBelow
import Derived.Test.YtfdpfeaegcfglaaSubset
import Derived.Deep.DeepCutAuto
namespace Go.Proofs.Ytfdpfeaegcfglaa
open Go.RowKit
set_option linter.unusedSimpArgs false
set_option linter.unusedVariables false
theorem below_set2 {B : Nat} {V W : World} {b : Nat} {u v : Value} (h : Below B V W) (hb : B ≤ b) : Below B V ((W.setCell ⟨b, 0, none⟩ u).setCell ⟨b, 1, none⟩ v) := by
  go_grown
theorem Ow.drew {e : TypeId} {lo hi : Nat} {w : World} {A : Option Addr} {n c : Nat} {xs : List Value} (h : Ow e lo hi w A n c xs) : Ow e lo hi w.drew A n c xs := h.same (fun _ _ _ => rfl)
theorem subOk_of_tb {xs : List Int} {n : Nat} {i nn k : Int} (hu : ∀ z ∈ xs, 0 ≤ z ∧ z ≤ 255) (h : tbB n i (binI nn k) = true) : subOk nn k (tbV xs n i (binI nn k)) = true := by
  obtain ⟨v0, v1⟩ := takeV_bd (i := i) (n := n) hu
  have hb : inB (binI nn k) 1 65536 = true := by unfold tbB at h; simp at h; exact h.2
  obtain ⟨q0, q1⟩ := inB_le hb
  have e : tbV xs n i (binI nn k) = takeV xs n i % binI nn k := if_pos h
  show inB (tbV xs n i (binI nn k)) 0 (binI nn k - 1) = true
  rw [e]
  have := Int.emod_nonneg (takeV xs n i) (show binI nn k ≠ 0 by omega)
  have := Int.emod_lt_of_pos (takeV xs n i) (show 0 < binI nn k by omega)
  exact inB_yes (by omega) (by omega)

theorem sBin_from (n k : Int) (V w : World) (hb : Below V.heap.size V w) : Calls Try.prog 29 #[.int .i64 n, .int .i64 k] w fun e w' => e = .returned (.int .i64 (binI n k)) ∧ Below w.heap.size w w' ∧ Below V.heap.size V w' :=
  (sBinomial_any n k w).mono fun e w' ⟨h1, h2⟩ => ⟨h1, h2, hb.trans (h2.mono hb.size)⟩

theorem sTB_from (base n c : Nat) (A : Option Addr) (xs : List Int) (i nn : Int) (V w : World) (h : V.ownsRow base 5 1 (.slice A n c) n (xs.map (Value.int .u8))) (hb : Below V.heap.size V w) (hn : n ≤ 1073741824) (hu : ∀ z ∈ xs, 0 ≤ z ∧ z ≤ 255) :
    Calls Try.prog 47 #[.agg #[.slice A n c, .int .i64 i], .int .i64 nn] w fun e w' => ∃ A' c', e = .returned (.tuple #[.agg #[.slice A' n c', .int .i64 (tbAt n i nn)], .int .i64 (tbV xs n i nn), .bool (tbB n i nn)]) ∧ w'.ownsRow w.heap.size 5 1 (.slice A' n c') n (xs.map (Value.int .u8)) ∧ Below w.heap.size w w' ∧ Below V.heap.size V w' :=
  (sTakeBelow_any base n c A xs i nn w (own_below h hb (Nat.le_refl _)) hn hu).mono fun e w' ⟨A', c', h1, h2, h3⟩ => ⟨A', c', h1, h2, h3, hb.trans (h3.mono hb.size)⟩

set_option maxHeartbeats 4000000 in
theorem sTakeSubset_no (base n c : Nat) (A : Option Addr) (xs : List Int) (i nn k : Int) (w : World) (h : w.ownsRow base 5 1 (.slice A n c) n (xs.map (Value.int .u8))) (hn : n ≤ 1073741824) (hu : ∀ z ∈ xs, 0 ≤ z ∧ z ≤ 255) (hT : tbB n i (binI nn k) = false) :
    Calls Try.prog 55 #[.agg #[.slice A n c, .int .i64 i], .int .i64 nn, .int .i64 k] w fun e w' => ∃ A' c' B cB, e = .returned (.tuple #[.agg #[.slice A' n c', .int .i64 i], .slice B 0 cB, .bool false]) ∧ w'.ownsRow w.heap.size 5 1 (.slice A' n c') n (xs.map (Value.int .u8)) ∧ Below w.heap.size w w' := by
  have HU := Lib.hid hu
  have HO := Lib.hid h
  have HT := Lib.hid hT
  have HA : Hid (tbAt n i (binI nn k) = i) := by unfold Hid; simp [tbAt, hT]
  clear h hu hT
  have B0 := Below.refl w.heap.size w
  have s0 : w.heap.size ≤ w.heap.size := Nat.le_refl _
  go_enter Try.func55, Try.ntmps55
  have p_2 : Bx (w.alloc (.cells #[.slice A n c, .int .i64 i] 49)) (w.heap.size) 49 #[.slice A n c, .int .i64 i] := Bx.new _ _ _
  have B_2 := B0.alloc s0 (.cells #[.slice A n c, .int .i64 i] 49)
  clear B0
  have cp_3 := p_2.cells
  have fp_3 := p_2.free
  clear cp_3 fp_3
  have p_4 := p_2.same (same_alloc (.cells #[.slice none 0 0, .int .i64 0] 49) (by simp only [World.size_alloc]; omega))
  clear p_2
  have r_5 : Bx ((w.alloc (.cells #[.slice A n c, .int .i64 i] 49)).alloc (.cells #[.slice none 0 0, .int .i64 0] 49)) (w.heap.size + 1) 49 #[.slice none 0 0, .int .i64 0] := by
    have h := Bx.new (w.alloc (.cells #[.slice A n c, .int .i64 i] 49)) 49 #[.slice none 0 0, .int .i64 0]
    simpa only [World.size_alloc] using h
  have B_5 := B_2.alloc (by simp only [World.size_alloc]; omega) (.cells #[.slice none 0 0, .int .i64 0] 49)
  clear B_2
  have cp_6 := p_4.cells
  have fp_6 := p_4.free
  have cr_7 := r_5.cells
  have fr_7 := r_5.free
  go_upto_region 1 with fail
  clear cp_6 fp_6
  clear cr_7 fr_7
  obtain ⟨v8, hv8⟩ : ∃ v8, v8 = ((w.alloc (.cells #[.slice A n c, .int .i64 i] 49)).alloc (.cells #[.slice none 0 0, .int .i64 0] 49)) := ⟨_, rfl⟩
  have zv8 : w.heap.size + 1 + 1 ≤ v8.heap.size := by rw [hv8]; simp
  rw [← hv8] at p_4 r_5 B_5 ⊢
  clear hv8
  have e0 : v8.cell? ⟨w.heap.size, 0, none⟩ = some (.slice A n c) := p_4.cells 0
  have e1 : v8.cell? ⟨w.heap.size, 1, none⟩ = some (.int .i64 i) := p_4.cells 1
  have l0 := p_4.lt
  have HK : Hid (∀ w', Below v8.heap.size v8 w' → w'.cell? ⟨w.heap.size, 0, none⟩ = some (.slice A n c) ∧ w'.cell? ⟨w.heap.size, 1, none⟩ = some (.int .i64 i) ∧ Below v8.heap.size v8 w') := fun w' hb => ⟨(Below.cell (p := ⟨w.heap.size, 0, none⟩) hb l0).trans e0, (Below.cell (p := ⟨w.heap.size, 1, none⟩) hb l0).trans e1, hb⟩
  have HV : Hid (v8.ownsRow base 5 1 (.slice A n c) n (xs.map (Value.int .u8))) := own_below HO.out B_5 (Nat.le_refl _)
  clear e0 e1
  go_cut [9, 10, 11] (fun q u b wx => ∃ gq A1 c1, q = .pointer (some ⟨gq, 0, none⟩) ∧ u = .int .i64 (tbV xs n i (binI nn k)) ∧ b = .bool (tbB n i (binI nn k)) ∧ Bx wx gq 49 #[.slice A1 n c1, .int .i64 (tbAt n i (binI nn k))] ∧ wx.ownsRow v8.heap.size 5 1 (.slice A1 n c1) n (xs.map (Value.int .u8)) ∧ v8.heap.size ≤ gq ∧ Below v8.heap.size v8 wx)
  case first =>
    go_region_held3 (fun w' => w'.cell? ⟨w.heap.size, 0, none⟩ = some (.slice A n c) ∧ w'.cell? ⟨w.heap.size, 1, none⟩ = some (.int .i64 i) ∧ Below v8.heap.size v8 w')
      (exact HK.out _ (by first | exact b7 | exact b7.alloc b7.size _ | exact (below_set2 b7 (by first | exact Nat.le_refl _ | exact b6.size)) | exact b6 | exact b6.alloc b6.size _ | exact (b6.alloc b6.size _).drew | exact (Below.refl _ _).drew | exact (Below.refl _ v8).alloc (Nat.le_refl _) _ | exact ((Below.refl _ v8).alloc (Nat.le_refl _) _).drew))
      (first
        | (go_at_call 29; go_split_ands; refine (sBin_from nn k v8 _ (by assumption)).mono ?_; rintro e w6 ⟨rfl, bb, b6⟩; first | (have h6 := Bx.same (b := v8.heap.size) (t := 49) (cs := #[.slice none 0 0, .int .i64 0]) (by exact Bx.new v8 49 _) (same_below bb (by simp)); have H6 := Lib.hid h6; clear h6) | skip)
        | (go_at_call 47; go_split_ands; refine (sTB_from base n c A xs i (binI nn k) v8 _ HV.out (by assumption) (by omega) HU.out).mono ?_; rintro e w7 ⟨A1, c1, rfl, o, b, b7⟩; first | (have hx := Bx.same (b := w6.heap.size) (t := 49) (cs := #[.slice none 0 0, .int .i64 0]) (by exact Bx.new w6 49 _) (same_below b (by simp)); have x0 := hx.cells 0; have x1 := hx.cells 1; have y0 := hx.free 0; have y1 := hx.free 1; simp at x0 x1; have HX := Lib.hid hx; clear hx) | (have hx := Bx.same (b := v8.heap.size) (t := 49) (cs := #[.slice none 0 0, .int .i64 0]) (by exact H6.out) (same_below b (by exact H6.out.lt)); have x0 := hx.cells 0; have x1 := hx.cells 1; have y0 := hx.free 0; have y1 := hx.free 1; simp at x0 x1; have HX := Lib.hid hx; clear hx) | skip))
    all_goals (go_wp2_with fail)
    all_goals go_meet
    all_goals first
      | exact ⟨w7.heap.size, A1, c1, rfl, rfl, rfl, Bx.new _ _ _, own_base (o.alloc _) (by first | exact Nat.le_refl _ | exact b6.size), b7.size, b7.alloc b7.size _⟩
      | exact ⟨v8.heap.size, A1, c1, rfl, rfl, rfl, Bx.set_ (Bx.set_ HX.out 0 _) 1 _, own_base (ownsRow_setCell_below (ownsRow_setCell_below o (by simp) _) (by simp) _) (by simp), Nat.le_refl _, below_set2 b7 (Nat.le_refl _)⟩
      | exact ⟨w6.heap.size, A1, c1, rfl, rfl, rfl, Bx.set_ (Bx.set_ HX.out 0 _) 1 _, own_base (ownsRow_setCell_below (ownsRow_setCell_below o (by simp) _) (by simp) _) (by have := b6.size; simp; omega), b6.size, below_set2 b7 b6.size⟩
      | exact ⟨v8.heap.size, A1, c1, rfl, rfl, rfl, Bx.set_ (Bx.set_ HX.out 0 _) 1 _, own_base (ownsRow_setCell_below (ownsRow_setCell_below o (by exact H6.out.lt) _) (by exact H6.out.lt) _) (by exact b6.size), Nat.le_refl _, below_set2 b7 (Nat.le_refl _)⟩
      | fail
  case rest =>
    obtain ⟨gq, A1, c1, rfl, rfl, rfl, hq, o, hge, hb⟩ := hcut
    rw [HT.out]
    have tz : v8.heap.size ≤ wc.heap.size := hb.size
    have lq := hq.lt
    have ok1 := Ow.of o
    rw [HA.out] at hq
    have p_9 := p_4.same (same_below hb (by omega))
    clear p_4
    have r_9 := r_5.same (same_below hb (by omega))
    clear r_5
    have Bn := B_5.trans (hb.mono (by omega))
    have zn : w.heap.size ≤ wc.heap.size := by omega
    clear hb o
    have cp_10 := p_9.cells
    have fp_10 := p_9.free
    have cr_11 := r_9.cells
    have fr_11 := r_9.free
    have cq_12 := hq.cells
    have fq_12 := hq.free
    go_wp2_with fail
    refine (sCopy_any base n c A xs i _ (own_below HO.out Bn (Nat.le_refl _)) (by omega)).mono ?_
    rintro e w1 ⟨A7, c7, rfl, o, b⟩
    clear cp_10 fp_10
    clear cr_11 fr_11
    clear cq_12 fq_12
    have t_13 := b.size
    have z_13 : w.heap.size ≤ w1.heap.size := by omega
    have p_14 := p_9.same (same_below b (by omega))
    clear p_9
    have r_14 := r_9.same (same_below b (by omega))
    clear r_9
    have q_14 := hq.same (same_below b (by omega))
    clear hq
    have tk_14 := ok1.same (same_below b (by omega))
    clear ok1
    have B_13 := Bn.trans (b.mono (by omega))
    clear Bn b
    have cp_13 := Ow.of o
    clear o
    have cp_15 := p_14.cells
    have fp_15 := p_14.free
    have cr_16 := r_14.cells
    have fr_16 := r_14.free
    have cq_17 := q_14.cells
    have fq_17 := q_14.free
    have rA := r_14.same (same_alloc (.cells #[] 3) (by omega))
    have r0 := rA.cells 0; have r1 := rA.cells 1; have fr0 := rA.free 0; have fr1 := rA.free 1
    simp at r0 r1
    clear rA
    go_wp2_with fail
    have HB := Lib.hid B_13
    refine bodyPost_ret (v := .tuple #[.agg #[.slice A7 n c7, .int .i64 i], .slice (some ⟨w1.heap.size, 0, none⟩) 0 0, .bool false]) (by simp [results, Try.results55, go_sem, r0, r1, fr0, fr1, cp_15, fp_15, cr_16, fr_16, cq_17, fq_17]) rfl ⟨A7, c7, some ⟨w1.heap.size, 0, none⟩, 0, rfl, ?_, ?_⟩
    · have ho := cp_13.own
      first | exact own_base ((ownsRow_setCell_below (ownsRow_setCell_below ho (by show w.heap.size + 1 < _; omega) _) (by show w.heap.size + 1 < _; omega) _).alloc _) (by omega) | exact own_base (ownsRow_setCell_below (ownsRow_setCell_below (ho.alloc _) (by show w.heap.size + 1 < _; omega) _) (by show w.heap.size + 1 < _; omega) _) (by omega)
    · have hB2 := HB.out
      go_grown

set_option maxHeartbeats 4000000 in
theorem sTakeSubset_yes (base n c : Nat) (A : Option Addr) (xs : List Int) (i nn k : Int) (w : World) (h : w.ownsRow base 5 1 (.slice A n c) n (xs.map (Value.int .u8))) (hn : n ≤ 1073741824) (hu : ∀ z ∈ xs, 0 ≤ z ∧ z ≤ 255) (hT : tbB n i (binI nn k) = true) :
    Calls Try.prog 55 #[.agg #[.slice A n c, .int .i64 i], .int .i64 nn, .int .i64 k] w fun e w' => ∃ A' c' A2 c2 mid, e = .returned (.tuple #[.agg #[.slice A' n c', .int .i64 (tbAt n i (binI nn k))], .slice A2 k.toNat c2, .bool true]) ∧ Ow 5 w.heap.size mid w' A' n c' (xs.map (Value.int .u8)) ∧ Ow 3 mid w'.heap.size w' A2 k.toNat c2 ((subI nn k (tbV xs n i (binI nn k))).map (Value.int .i64)) ∧ (w.heap.size ≤ mid ∧ mid ≤ w'.heap.size) ∧ Below w.heap.size w w' := by
  have HU := Lib.hid hu
  have HO := Lib.hid h
  have HT := Lib.hid hT
  have HS : Hid (subOk nn k (tbV xs n i (binI nn k)) = true) := subOk_of_tb hu hT
  clear h hu hT
  have B0 := Below.refl w.heap.size w
  have s0 : w.heap.size ≤ w.heap.size := Nat.le_refl _
  go_enter Try.func55, Try.ntmps55
  have p_2 : Bx (w.alloc (.cells #[.slice A n c, .int .i64 i] 49)) (w.heap.size) 49 #[.slice A n c, .int .i64 i] := Bx.new _ _ _
  have B_2 := B0.alloc s0 (.cells #[.slice A n c, .int .i64 i] 49)
  clear B0
  have cp_3 := p_2.cells
  have fp_3 := p_2.free
  clear cp_3 fp_3
  have p_4 := p_2.same (same_alloc (.cells #[.slice none 0 0, .int .i64 0] 49) (by simp only [World.size_alloc]; omega))
  clear p_2
  have r_5 : Bx ((w.alloc (.cells #[.slice A n c, .int .i64 i] 49)).alloc (.cells #[.slice none 0 0, .int .i64 0] 49)) (w.heap.size + 1) 49 #[.slice none 0 0, .int .i64 0] := by
    have h := Bx.new (w.alloc (.cells #[.slice A n c, .int .i64 i] 49)) 49 #[.slice none 0 0, .int .i64 0]
    simpa only [World.size_alloc] using h
  have B_5 := B_2.alloc (by simp only [World.size_alloc]; omega) (.cells #[.slice none 0 0, .int .i64 0] 49)
  clear B_2
  have cp_6 := p_4.cells
  have fp_6 := p_4.free
  have cr_7 := r_5.cells
  have fr_7 := r_5.free
  go_upto_region 1 with fail
  clear cp_6 fp_6
  clear cr_7 fr_7
  obtain ⟨v8, hv8⟩ : ∃ v8, v8 = ((w.alloc (.cells #[.slice A n c, .int .i64 i] 49)).alloc (.cells #[.slice none 0 0, .int .i64 0] 49)) := ⟨_, rfl⟩
  have zv8 : w.heap.size + 1 + 1 ≤ v8.heap.size := by rw [hv8]; simp
  rw [← hv8] at p_4 r_5 B_5 ⊢
  clear hv8
  have e0 : v8.cell? ⟨w.heap.size, 0, none⟩ = some (.slice A n c) := p_4.cells 0
  have e1 : v8.cell? ⟨w.heap.size, 1, none⟩ = some (.int .i64 i) := p_4.cells 1
  have l0 := p_4.lt
  have HK : Hid (∀ w', Below v8.heap.size v8 w' → w'.cell? ⟨w.heap.size, 0, none⟩ = some (.slice A n c) ∧ w'.cell? ⟨w.heap.size, 1, none⟩ = some (.int .i64 i) ∧ Below v8.heap.size v8 w') := fun w' hb => ⟨(Below.cell (p := ⟨w.heap.size, 0, none⟩) hb l0).trans e0, (Below.cell (p := ⟨w.heap.size, 1, none⟩) hb l0).trans e1, hb⟩
  have HV : Hid (v8.ownsRow base 5 1 (.slice A n c) n (xs.map (Value.int .u8))) := own_below HO.out B_5 (Nat.le_refl _)
  clear e0 e1
  go_cut [9, 10, 11] (fun q u b wx => ∃ gq A1 c1, q = .pointer (some ⟨gq, 0, none⟩) ∧ u = .int .i64 (tbV xs n i (binI nn k)) ∧ b = .bool (tbB n i (binI nn k)) ∧ Bx wx gq 49 #[.slice A1 n c1, .int .i64 (tbAt n i (binI nn k))] ∧ wx.ownsRow v8.heap.size 5 1 (.slice A1 n c1) n (xs.map (Value.int .u8)) ∧ v8.heap.size ≤ gq ∧ Below v8.heap.size v8 wx)
  case first =>
    go_region_held3 (fun w' => w'.cell? ⟨w.heap.size, 0, none⟩ = some (.slice A n c) ∧ w'.cell? ⟨w.heap.size, 1, none⟩ = some (.int .i64 i) ∧ Below v8.heap.size v8 w')
      (exact HK.out _ (by first | exact b7 | exact b7.alloc b7.size _ | exact (below_set2 b7 (by first | exact Nat.le_refl _ | exact b6.size)) | exact b6 | exact b6.alloc b6.size _ | exact (b6.alloc b6.size _).drew | exact (Below.refl _ _).drew | exact (Below.refl _ v8).alloc (Nat.le_refl _) _ | exact ((Below.refl _ v8).alloc (Nat.le_refl _) _).drew))
      (first
        | (go_at_call 29; go_split_ands; refine (sBin_from nn k v8 _ (by assumption)).mono ?_; rintro e w6 ⟨rfl, bb, b6⟩; first | (have h6 := Bx.same (b := v8.heap.size) (t := 49) (cs := #[.slice none 0 0, .int .i64 0]) (by exact Bx.new v8 49 _) (same_below bb (by simp)); have H6 := Lib.hid h6; clear h6) | skip)
        | (go_at_call 47; go_split_ands; refine (sTB_from base n c A xs i (binI nn k) v8 _ HV.out (by assumption) (by omega) HU.out).mono ?_; rintro e w7 ⟨A1, c1, rfl, o, b, b7⟩; first | (have hx := Bx.same (b := w6.heap.size) (t := 49) (cs := #[.slice none 0 0, .int .i64 0]) (by exact Bx.new w6 49 _) (same_below b (by simp)); have x0 := hx.cells 0; have x1 := hx.cells 1; have y0 := hx.free 0; have y1 := hx.free 1; simp at x0 x1; have HX := Lib.hid hx; clear hx) | (have hx := Bx.same (b := v8.heap.size) (t := 49) (cs := #[.slice none 0 0, .int .i64 0]) (by exact H6.out) (same_below b (by exact H6.out.lt)); have x0 := hx.cells 0; have x1 := hx.cells 1; have y0 := hx.free 0; have y1 := hx.free 1; simp at x0 x1; have HX := Lib.hid hx; clear hx) | skip))
    all_goals (go_wp2_with fail)
    all_goals go_meet
    all_goals first
      | exact ⟨w7.heap.size, A1, c1, rfl, rfl, rfl, Bx.new _ _ _, own_base (o.alloc _) (by first | exact Nat.le_refl _ | exact b6.size), b7.size, b7.alloc b7.size _⟩
      | exact ⟨v8.heap.size, A1, c1, rfl, rfl, rfl, Bx.set_ (Bx.set_ HX.out 0 _) 1 _, own_base (ownsRow_setCell_below (ownsRow_setCell_below o (by simp) _) (by simp) _) (by simp), Nat.le_refl _, below_set2 b7 (Nat.le_refl _)⟩
      | exact ⟨w6.heap.size, A1, c1, rfl, rfl, rfl, Bx.set_ (Bx.set_ HX.out 0 _) 1 _, own_base (ownsRow_setCell_below (ownsRow_setCell_below o (by simp) _) (by simp) _) (by have := b6.size; simp; omega), b6.size, below_set2 b7 b6.size⟩
      | exact ⟨v8.heap.size, A1, c1, rfl, rfl, rfl, Bx.set_ (Bx.set_ HX.out 0 _) 1 _, own_base (ownsRow_setCell_below (ownsRow_setCell_below o (by exact H6.out.lt) _) (by exact H6.out.lt) _) (by exact b6.size), Nat.le_refl _, below_set2 b7 (Nat.le_refl _)⟩
      | fail
  case rest =>
    obtain ⟨gq, A1, c1, rfl, rfl, rfl, hq, o, hge, hb⟩ := hcut
    rw [HT.out]
    have tz : v8.heap.size ≤ wc.heap.size := hb.size
    have lq := hq.lt
    have ok1 := Ow.of o
    have p_9 := p_4.same (same_below hb (by omega))
    clear p_4
    have r_9 := r_5.same (same_below hb (by omega))
    clear r_5
    have Bn := B_5.trans (hb.mono (by omega))
    have zn : w.heap.size ≤ wc.heap.size := by omega
    clear hb o
    have cp_10 := p_9.cells
    have fp_10 := p_9.free
    have cr_11 := r_9.cells
    have fr_11 := r_9.free
    have cq_12 := hq.cells
    have fq_12 := hq.free
    go_wp2_with fail
    clear cp_10 fp_10
    clear cr_11 fr_11
    clear cq_12 fq_12
    have E0 : Hid (wc.cell? ⟨gq, 0, none⟩ = some (.slice A1 n c1)) := hq.cells 0
    have E1 : Hid (wc.cell? ⟨gq, 1, none⟩ = some (.int .i64 (tbAt n i (binI nn k)))) := hq.cells 1
    have HB := Lib.hid Bn
    have HR := Lib.hid r_9
    have HK2 := Lib.hid ok1
    have hne : gq ≠ w.heap.size + 1 := by omega
    go_region_held3 (fun w' => w'.cell? ⟨gq, 0, none⟩ = some (.slice A1 n c1) ∧ w'.cell? ⟨gq, 1, none⟩ = some (.int .i64 (tbAt n i (binI nn k))))
      (first
        | exact ⟨E0.out, E1.out⟩
        | exact ⟨(Below.cell (p := ⟨gq, 0, none⟩) b9 lq).trans E0.out, (Below.cell (p := ⟨gq, 1, none⟩) b9 lq).trans E1.out⟩
        | exact ⟨(cell_far2 hne).trans ((Below.cell (p := ⟨gq, 0, none⟩) b9 lq).trans E0.out), (cell_far2 hne).trans ((Below.cell (p := ⟨gq, 1, none⟩) b9 lq).trans E1.out)⟩)
      ((go_at_call 23; refine (sSubsetAt_yes nn k (tbV xs n i (binI nn k)) _ HS.out).mono ?_; rintro e w9 ⟨A2, c2, rfl, o2, bb⟩; have b9 : Below wc.heap.size wc w9 := (Below.refl _ wc).drew.trans bb; have o3 : w9.ownsRow wc.heap.size 3 1 (.slice A2 k.toNat c2) k.toNat ((subI nn k (tbV xs n i (binI nn k))).map (Value.int .i64)) := o2; have HO2 := Lib.hid (Ow.of o3); have hr9 := Bx.same HR.out (same_below b9 (by omega)); have r0 := hr9.cells 0; have r1 := hr9.cells 1; have fr0 := hr9.free 0; have fr1 := hr9.free 1; simp at r0 r1; clear hr9 o2 o3 bb))
    go_wp2_with fail
    have z9 := b9.size
    refine bodyPost_ret (v := .tuple #[.agg #[.slice A1 n c1, .int .i64 (tbAt n i (binI nn k))], .slice A2 k.toNat c2, .bool true]) (by simp [results, Try.results55, go_sem, r0, r1, fr0, fr1]) rfl ⟨A1, c1, A2, c2, wc.heap.size, rfl, ?_, ?_, ⟨by omega, by simp only [World.size_setCell]; omega⟩, ?_⟩
    · have h1 := ((HK2.out.same (same_below b9 (Nat.le_refl _))).same (same_set (off := 0) (u := .slice A1 n c1) (b := w.heap.size + 1) (by omega))).same (same_set (off := 1) (u := .int .i64 (tbAt n i (binI nn k))) (b := w.heap.size + 1) (by omega))
      first | exact h1.wide (by omega) (Nat.le_refl _) | exact (h1.wide (by omega) (Nat.le_refl _)).drew
    · have h1 := (HO2.out.same (same_set (off := 0) (u := .slice A1 n c1) (b := w.heap.size + 1) (by omega))).same (same_set (off := 1) (u := .int .i64 (tbAt n i (binI nn k))) (b := w.heap.size + 1) (by omega))
      first | exact h1.wide (Nat.le_refl _) (by simp) | exact (h1.wide (Nat.le_refl _) (by simp)).drew
    · have hB2 := HB.out.trans (b9.mono (by omega))
      go_grown

theorem iTB_from (base n c : Nat) (A : Option Addr) (xs : List Int) (i nn : Int) (V w : World) (h : V.ownsRow base 5 1 (.slice A n c) n (xs.map (Value.int .u8))) (hb : Below V.heap.size V w) (hn : n ≤ 1073741824) (hu : ∀ z ∈ xs, 0 ≤ z ∧ z ≤ 255) :
    Calls Try.prog 48 #[.agg #[.slice A n c, .int .i64 i], .int .i64 nn] w fun e w' => ∃ A' c', e = .returned (.tuple #[.agg #[.slice A' n c', .int .i64 (tbAt n i nn)], .int .i64 (tbV xs n i nn), .bool (tbB n i nn)]) ∧ w'.ownsRow w.heap.size 5 1 (.slice A' n c') n (xs.map (Value.int .u8)) ∧ Below w.heap.size w w' ∧ Below V.heap.size V w' :=
  (iTakeBelow_any base n c A xs i nn w (own_below h hb (Nat.le_refl _)) hn hu).mono fun e w' ⟨A', c', h1, h2, h3⟩ => ⟨A', c', h1, h2, h3, hb.trans (h3.mono hb.size)⟩

set_option maxHeartbeats 4000000 in
theorem iTakeSubset_no (base n c : Nat) (A : Option Addr) (xs : List Int) (i nn k : Int) (w : World) (h : w.ownsRow base 5 1 (.slice A n c) n (xs.map (Value.int .u8))) (hn : n ≤ 1073741824) (hu : ∀ z ∈ xs, 0 ≤ z ∧ z ≤ 255) (hT : tbB n i (binI nn k) = false) :
    Calls Try.prog 54 #[.agg #[.slice A n c, .int .i64 i], .int .i64 nn, .int .i64 k] w fun e w' => ∃ A' c', e = .returned (.tuple #[.agg #[.slice A' n c', .int .i64 i], .slice none 0 0, .bool false]) ∧ w'.ownsRow w.heap.size 5 1 (.slice A' n c') n (xs.map (Value.int .u8)) ∧ Below w.heap.size w w' := by
  have HU := Lib.hid hu
  have HO := Lib.hid h
  have HT := Lib.hid hT
  have HA : Hid (tbAt n i (binI nn k) = i) := by unfold Hid; simp [tbAt, hT]
  clear h hu hT
  have B0 := Below.refl w.heap.size w
  have s0 : w.heap.size ≤ w.heap.size := Nat.le_refl _
  go_enter Try.func54, Try.ntmps54
  have p_2 : Bx (w.alloc (.cells #[.slice A n c, .int .i64 i] 49)) (w.heap.size) 49 #[.slice A n c, .int .i64 i] := Bx.new _ _ _
  have B_2 := B0.alloc s0 (.cells #[.slice A n c, .int .i64 i] 49)
  clear B0
  have cp_3 := p_2.cells
  have fp_3 := p_2.free
  clear cp_3 fp_3
  have p_4 := p_2.same (same_alloc (.cells #[.slice none 0 0, .int .i64 0] 49) (by simp only [World.size_alloc]; omega))
  clear p_2
  have r_5 : Bx ((w.alloc (.cells #[.slice A n c, .int .i64 i] 49)).alloc (.cells #[.slice none 0 0, .int .i64 0] 49)) (w.heap.size + 1) 49 #[.slice none 0 0, .int .i64 0] := by
    have h := Bx.new (w.alloc (.cells #[.slice A n c, .int .i64 i] 49)) 49 #[.slice none 0 0, .int .i64 0]
    simpa only [World.size_alloc] using h
  have B_5 := B_2.alloc (by simp only [World.size_alloc]; omega) (.cells #[.slice none 0 0, .int .i64 0] 49)
  clear B_2
  have cp_6 := p_4.cells
  have fp_6 := p_4.free
  have cr_7 := r_5.cells
  have fr_7 := r_5.free
  go_upto_region 1 with fail
  clear cp_6 fp_6
  clear cr_7 fr_7
  obtain ⟨v8, hv8⟩ : ∃ v8, v8 = ((w.alloc (.cells #[.slice A n c, .int .i64 i] 49)).alloc (.cells #[.slice none 0 0, .int .i64 0] 49)) := ⟨_, rfl⟩
  have zv8 : w.heap.size + 1 + 1 ≤ v8.heap.size := by rw [hv8]; simp
  rw [← hv8] at p_4 r_5 B_5 ⊢
  clear hv8
  have e0 : v8.cell? ⟨w.heap.size, 0, none⟩ = some (.slice A n c) := p_4.cells 0
  have e1 : v8.cell? ⟨w.heap.size, 1, none⟩ = some (.int .i64 i) := p_4.cells 1
  have l0 := p_4.lt
  have HK : Hid (∀ w', Below v8.heap.size v8 w' → w'.cell? ⟨w.heap.size, 0, none⟩ = some (.slice A n c) ∧ w'.cell? ⟨w.heap.size, 1, none⟩ = some (.int .i64 i) ∧ Below v8.heap.size v8 w') := fun w' hb => ⟨(Below.cell (p := ⟨w.heap.size, 0, none⟩) hb l0).trans e0, (Below.cell (p := ⟨w.heap.size, 1, none⟩) hb l0).trans e1, hb⟩
  have HV : Hid (v8.ownsRow base 5 1 (.slice A n c) n (xs.map (Value.int .u8))) := own_below HO.out B_5 (Nat.le_refl _)
  clear e0 e1
  go_cut [9, 10, 11] (fun q u b wx => ∃ gq A1 c1, q = .pointer (some ⟨gq, 0, none⟩) ∧ u = .int .i64 (tbV xs n i (binI nn k)) ∧ b = .bool (tbB n i (binI nn k)) ∧ Bx wx gq 49 #[.slice A1 n c1, .int .i64 (tbAt n i (binI nn k))] ∧ wx.ownsRow v8.heap.size 5 1 (.slice A1 n c1) n (xs.map (Value.int .u8)) ∧ v8.heap.size ≤ gq ∧ Below v8.heap.size v8 wx)
  case first =>
    go_region_held3 (fun w' => w'.cell? ⟨w.heap.size, 0, none⟩ = some (.slice A n c) ∧ w'.cell? ⟨w.heap.size, 1, none⟩ = some (.int .i64 i) ∧ Below v8.heap.size v8 w')
      (exact HK.out _ (by first | exact b7 | exact b7.alloc b7.size _ | exact (below_set2 b7 (by first | exact Nat.le_refl _ | exact b6.size)) | exact (Below.refl _ _).drew | exact (Below.refl _ v8).alloc (Nat.le_refl _) _ | exact ((Below.refl _ v8).alloc (Nat.le_refl _) _).drew))
      (first
        | (go_at_call 28; refine (iBinomial_any nn k _).mono ?_; rintro e w' ⟨rfl, rfl⟩)
        | (go_at_call 48; go_split_ands; refine (iTB_from base n c A xs i (binI nn k) v8 _ HV.out (by assumption) (by omega) HU.out).mono ?_; rintro e w7 ⟨A1, c1, rfl, o, b, b7⟩; first | (have hx := Bx.same (b := v8.heap.size) (t := 49) (cs := #[.slice none 0 0, .int .i64 0]) (by exact Bx.new v8 49 _) (same_below b (by simp)); have x0 := hx.cells 0; have x1 := hx.cells 1; have y0 := hx.free 0; have y1 := hx.free 1; simp at x0 x1; have HX := Lib.hid hx; clear hx) | skip))
    all_goals (go_wp2_with fail)
    all_goals go_meet
    all_goals first
      | exact ⟨w7.heap.size, A1, c1, rfl, rfl, rfl, Bx.new _ _ _, own_base (o.alloc _) (by first | exact Nat.le_refl _ | exact b6.size), b7.size, b7.alloc b7.size _⟩
      | exact ⟨v8.heap.size, A1, c1, rfl, rfl, rfl, Bx.set_ (Bx.set_ HX.out 0 _) 1 _, own_base (ownsRow_setCell_below (ownsRow_setCell_below o (by simp) _) (by simp) _) (by simp), Nat.le_refl _, below_set2 b7 (Nat.le_refl _)⟩
      | fail
  case rest =>
    obtain ⟨gq, A1, c1, rfl, rfl, rfl, hq, o, hge, hb⟩ := hcut
    rw [HT.out]
    have tz : v8.heap.size ≤ wc.heap.size := hb.size
    have lq := hq.lt
    have ok1 := Ow.of o
    rw [HA.out] at hq
    have p_9 := p_4.same (same_below hb (by omega))
    clear p_4
    have r_9 := r_5.same (same_below hb (by omega))
    clear r_5
    have Bn := B_5.trans (hb.mono (by omega))
    have zn : w.heap.size ≤ wc.heap.size := by omega
    clear hb o
    have cp_10 := p_9.cells
    have fp_10 := p_9.free
    have cr_11 := r_9.cells
    have fr_11 := r_9.free
    have cq_12 := hq.cells
    have fq_12 := hq.free
    go_wp2_with fail
    have HB := Lib.hid Bn
    refine bodyPost_ret (v := .tuple #[.agg #[.slice A1 n c1, .int .i64 i], .slice none 0 0, .bool false]) (by simp [results, Try.results54, go_sem, cp_10, fp_10, cr_11, fr_11, cq_12, fq_12]) rfl ⟨A1, c1, rfl, ?_, ?_⟩
    · exact own_base (ownsRow_setCell_below (ownsRow_setCell_below ok1.own (by show w.heap.size + 1 < _; omega) _) (by show w.heap.size + 1 < _; omega) _) (by omega)
    · have hB2 := HB.out
      go_grown

set_option maxHeartbeats 4000000 in
theorem iTakeSubset_yes (base n c : Nat) (A : Option Addr) (xs : List Int) (i nn k : Int) (w : World) (h : w.ownsRow base 5 1 (.slice A n c) n (xs.map (Value.int .u8))) (hn : n ≤ 1073741824) (hu : ∀ z ∈ xs, 0 ≤ z ∧ z ≤ 255) (hT : tbB n i (binI nn k) = true) :
    Calls Try.prog 54 #[.agg #[.slice A n c, .int .i64 i], .int .i64 nn, .int .i64 k] w fun e w' => ∃ A' c' A2 c2 mid, e = .returned (.tuple #[.agg #[.slice A' n c', .int .i64 (tbAt n i (binI nn k))], .slice A2 k.toNat c2, .bool true]) ∧ Ow 5 w.heap.size mid w' A' n c' (xs.map (Value.int .u8)) ∧ Ow 3 mid w'.heap.size w' A2 k.toNat c2 ((subI nn k (tbV xs n i (binI nn k))).map (Value.int .i64)) ∧ (w.heap.size ≤ mid ∧ mid ≤ w'.heap.size) ∧ Below w.heap.size w w' := by
  have HU := Lib.hid hu
  have HO := Lib.hid h
  have HT := Lib.hid hT
  have HS : Hid (subOk nn k (tbV xs n i (binI nn k)) = true) := subOk_of_tb hu hT
  clear h hu hT
  have B0 := Below.refl w.heap.size w
  have s0 : w.heap.size ≤ w.heap.size := Nat.le_refl _
  go_enter Try.func54, Try.ntmps54
  have p_2 : Bx (w.alloc (.cells #[.slice A n c, .int .i64 i] 49)) (w.heap.size) 49 #[.slice A n c, .int .i64 i] := Bx.new _ _ _
  have B_2 := B0.alloc s0 (.cells #[.slice A n c, .int .i64 i] 49)
  clear B0
  have cp_3 := p_2.cells
  have fp_3 := p_2.free
  clear cp_3 fp_3
  have p_4 := p_2.same (same_alloc (.cells #[.slice none 0 0, .int .i64 0] 49) (by simp only [World.size_alloc]; omega))
  clear p_2
  have r_5 : Bx ((w.alloc (.cells #[.slice A n c, .int .i64 i] 49)).alloc (.cells #[.slice none 0 0, .int .i64 0] 49)) (w.heap.size + 1) 49 #[.slice none 0 0, .int .i64 0] := by
    have h := Bx.new (w.alloc (.cells #[.slice A n c, .int .i64 i] 49)) 49 #[.slice none 0 0, .int .i64 0]
    simpa only [World.size_alloc] using h
  have B_5 := B_2.alloc (by simp only [World.size_alloc]; omega) (.cells #[.slice none 0 0, .int .i64 0] 49)
  clear B_2
  have cp_6 := p_4.cells
  have fp_6 := p_4.free
  have cr_7 := r_5.cells
  have fr_7 := r_5.free
  go_upto_region 1 with fail
  clear cp_6 fp_6
  clear cr_7 fr_7
  obtain ⟨v8, hv8⟩ : ∃ v8, v8 = ((w.alloc (.cells #[.slice A n c, .int .i64 i] 49)).alloc (.cells #[.slice none 0 0, .int .i64 0] 49)) := ⟨_, rfl⟩
  have zv8 : w.heap.size + 1 + 1 ≤ v8.heap.size := by rw [hv8]; simp
  rw [← hv8] at p_4 r_5 B_5 ⊢
  clear hv8
  have e0 : v8.cell? ⟨w.heap.size, 0, none⟩ = some (.slice A n c) := p_4.cells 0
  have e1 : v8.cell? ⟨w.heap.size, 1, none⟩ = some (.int .i64 i) := p_4.cells 1
  have l0 := p_4.lt
  have HK : Hid (∀ w', Below v8.heap.size v8 w' → w'.cell? ⟨w.heap.size, 0, none⟩ = some (.slice A n c) ∧ w'.cell? ⟨w.heap.size, 1, none⟩ = some (.int .i64 i) ∧ Below v8.heap.size v8 w') := fun w' hb => ⟨(Below.cell (p := ⟨w.heap.size, 0, none⟩) hb l0).trans e0, (Below.cell (p := ⟨w.heap.size, 1, none⟩) hb l0).trans e1, hb⟩
  have HV : Hid (v8.ownsRow base 5 1 (.slice A n c) n (xs.map (Value.int .u8))) := own_below HO.out B_5 (Nat.le_refl _)
  clear e0 e1
  go_cut [9, 10, 11] (fun q u b wx => ∃ gq A1 c1, q = .pointer (some ⟨gq, 0, none⟩) ∧ u = .int .i64 (tbV xs n i (binI nn k)) ∧ b = .bool (tbB n i (binI nn k)) ∧ Bx wx gq 49 #[.slice A1 n c1, .int .i64 (tbAt n i (binI nn k))] ∧ wx.ownsRow v8.heap.size 5 1 (.slice A1 n c1) n (xs.map (Value.int .u8)) ∧ v8.heap.size ≤ gq ∧ Below v8.heap.size v8 wx)
  case first =>
    go_region_held3 (fun w' => w'.cell? ⟨w.heap.size, 0, none⟩ = some (.slice A n c) ∧ w'.cell? ⟨w.heap.size, 1, none⟩ = some (.int .i64 i) ∧ Below v8.heap.size v8 w')
      (exact HK.out _ (by first | exact b7 | exact b7.alloc b7.size _ | exact (below_set2 b7 (by first | exact Nat.le_refl _ | exact b6.size)) | exact (Below.refl _ _).drew | exact (Below.refl _ v8).alloc (Nat.le_refl _) _ | exact ((Below.refl _ v8).alloc (Nat.le_refl _) _).drew))
      (first
        | (go_at_call 28; refine (iBinomial_any nn k _).mono ?_; rintro e w' ⟨rfl, rfl⟩)
        | (go_at_call 48; go_split_ands; refine (iTB_from base n c A xs i (binI nn k) v8 _ HV.out (by assumption) (by omega) HU.out).mono ?_; rintro e w7 ⟨A1, c1, rfl, o, b, b7⟩; first | (have hx := Bx.same (b := v8.heap.size) (t := 49) (cs := #[.slice none 0 0, .int .i64 0]) (by exact Bx.new v8 49 _) (same_below b (by simp)); have x0 := hx.cells 0; have x1 := hx.cells 1; have y0 := hx.free 0; have y1 := hx.free 1; simp at x0 x1; have HX := Lib.hid hx; clear hx) | skip))
    all_goals (go_wp2_with fail)
    all_goals go_meet
    all_goals first
      | exact ⟨w7.heap.size, A1, c1, rfl, rfl, rfl, Bx.new _ _ _, own_base (o.alloc _) (by first | exact Nat.le_refl _ | exact b6.size), b7.size, b7.alloc b7.size _⟩
      | exact ⟨v8.heap.size, A1, c1, rfl, rfl, rfl, Bx.set_ (Bx.set_ HX.out 0 _) 1 _, own_base (ownsRow_setCell_below (ownsRow_setCell_below o (by simp) _) (by simp) _) (by simp), Nat.le_refl _, below_set2 b7 (Nat.le_refl _)⟩
      | fail
  case rest =>
    obtain ⟨gq, A1, c1, rfl, rfl, rfl, hq, o, hge, hb⟩ := hcut
    rw [HT.out]
    have tz : v8.heap.size ≤ wc.heap.size := hb.size
    have lq := hq.lt
    have ok1 := Ow.of o
    have p_9 := p_4.same (same_below hb (by omega))
    clear p_4
    have r_9 := r_5.same (same_below hb (by omega))
    clear r_5
    have Bn := B_5.trans (hb.mono (by omega))
    have zn : w.heap.size ≤ wc.heap.size := by omega
    clear hb o
    have cp_10 := p_9.cells
    have fp_10 := p_9.free
    have cr_11 := r_9.cells
    have fr_11 := r_9.free
    have cq_12 := hq.cells
    have fq_12 := hq.free
    go_wp2_with fail
    clear cp_10 fp_10
    clear cr_11 fr_11
    clear cq_12 fq_12
    have E0 : Hid (wc.cell? ⟨gq, 0, none⟩ = some (.slice A1 n c1)) := hq.cells 0
    have E1 : Hid (wc.cell? ⟨gq, 1, none⟩ = some (.int .i64 (tbAt n i (binI nn k)))) := hq.cells 1
    have HB := Lib.hid Bn
    have HR := Lib.hid r_9
    have HK2 := Lib.hid ok1
    have hne : gq ≠ w.heap.size + 1 := by omega
    go_region_held3 (fun w' => w'.cell? ⟨gq, 0, none⟩ = some (.slice A1 n c1) ∧ w'.cell? ⟨gq, 1, none⟩ = some (.int .i64 (tbAt n i (binI nn k))))
      (first
        | exact ⟨E0.out, E1.out⟩
        | exact ⟨(Below.cell (p := ⟨gq, 0, none⟩) b9 lq).trans E0.out, (Below.cell (p := ⟨gq, 1, none⟩) b9 lq).trans E1.out⟩
        | exact ⟨(cell_far2 hne).trans ((Below.cell (p := ⟨gq, 0, none⟩) b9 lq).trans E0.out), (cell_far2 hne).trans ((Below.cell (p := ⟨gq, 1, none⟩) b9 lq).trans E1.out)⟩)
      ((go_at_call 24; refine (iSubsetAt_yes nn k (tbV xs n i (binI nn k)) _ HS.out).mono ?_; rintro e w9 ⟨A2, c2, rfl, o2, bb⟩; have b9 : Below wc.heap.size wc w9 := (Below.refl _ wc).drew.trans bb; have o3 : w9.ownsRow wc.heap.size 3 1 (.slice A2 k.toNat c2) k.toNat ((subI nn k (tbV xs n i (binI nn k))).map (Value.int .i64)) := o2; have HO2 := Lib.hid (Ow.of o3); have hr9 := Bx.same HR.out (same_below b9 (by omega)); have r0 := hr9.cells 0; have r1 := hr9.cells 1; have fr0 := hr9.free 0; have fr1 := hr9.free 1; simp at r0 r1; clear hr9 o2 o3 bb))
    go_wp2_with fail
    have z9 := b9.size
    refine bodyPost_ret (v := .tuple #[.agg #[.slice A1 n c1, .int .i64 (tbAt n i (binI nn k))], .slice A2 k.toNat c2, .bool true]) (by simp [results, Try.results54, go_sem, r0, r1, fr0, fr1]) rfl ⟨A1, c1, A2, c2, wc.heap.size, rfl, ?_, ?_, ⟨by omega, by simp only [World.size_setCell]; omega⟩, ?_⟩
    · have h1 := ((HK2.out.same (same_below b9 (Nat.le_refl _))).same (same_set (off := 0) (u := .slice A1 n c1) (b := w.heap.size + 1) (by omega))).same (same_set (off := 1) (u := .int .i64 (tbAt n i (binI nn k))) (b := w.heap.size + 1) (by omega))
      first | exact h1.wide (by omega) (Nat.le_refl _) | exact (h1.wide (by omega) (Nat.le_refl _)).drew
    · have h1 := (HO2.out.same (same_set (off := 0) (u := .slice A1 n c1) (b := w.heap.size + 1) (by omega))).same (same_set (off := 1) (u := .int .i64 (tbAt n i (binI nn k))) (b := w.heap.size + 1) (by omega))
      first | exact h1.wide (Nat.le_refl _) (by simp) | exact (h1.wide (Nat.le_refl _) (by simp)).drew
    · have hB2 := HB.out.trans (b9.mono (by omega))
      go_grown

end Go.Proofs.Ytfdpfeaegcfglaa
