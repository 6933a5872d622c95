/-
  Take of both packages.
-/
import Derived.Test.YtfdpfeaegcfglaaTCopy
namespace Go.Proofs.Ytfdpfeaegcfglaa
open Go.RowKit
set_option linter.unusedSimpArgs false
set_option linter.unusedVariables false
/-- What Take answers: the place behind it, the number, whether there was enough. -/
def takeB (n : Nat) (i : Int) : Bool := decide (2 ≤ leftI n i)
def takeAt (n : Nat) (i : Int) : Int := if 2 ≤ leftI n i then i + 2 else i
def takeV (xs : List Int) (n : Nat) (i : Int) : Int := if 2 ≤ leftI n i then 256 * xs.getD i.toNat 0 + xs.getD (i.toNat + 1) 0 else 0
theorem leftI_two {n : Nat} {i : Int} (h : 2 ≤ leftI n i) : n ≤ 600 ∧ 0 ≤ i ∧ i + 2 ≤ n := by
  unfold leftI tapeB at h
  by_cases h6 : n ≤ 600
  · by_cases hi : 0 ≤ i ∧ i ≤ n
    · rw [if_pos (by simp [h6, inB_yes hi.1 hi.2])] at h
      omega
    · rw [if_neg (by simp [inB_no hi])] at h
      omega
  · rw [if_neg (by simp [h6])] at h
    omega
theorem u8_wf {z : Int} (h : (Lit.int .u8 z).wf = true) : 0 ≤ z ∧ z ≤ 255 := by
  simp [Lit.wf, IntKind.min, IntKind.max, IntKind.bits, IntKind.signed] at h
  omega
theorem same_set {W : World} {lo hi b off : Nat} {u : Value} (h : b < lo ∨ hi ≤ b) : Same lo hi W (W.setCell ⟨b, off, none⟩ u) := fun k h1 h2 => heap_setCell_other W ⟨b, off, none⟩ k u (by simp; omega)
theorem cell_far2 {W : World} {b k off : Nat} {u v : Value} (h : k ≠ b) : ((W.setCell ⟨b, 0, none⟩ u).setCell ⟨b, 1, none⟩ v).cell? ⟨k, off, none⟩ = W.cell? ⟨k, off, none⟩ :=
  World.cell?_of_block ((same_set (lo := k) (hi := k + 1) (by omega) k (Nat.le_refl _) (by omega)).trans (same_set (lo := k) (hi := k + 1) (by omega) k (Nat.le_refl _) (by omega)))
theorem map_getD {f : Int → Value} (xs : List Int) (k : Nat) (h : k < xs.length) : (xs.map f)[k]? = some (f (xs.getD k 0)) := by simp [h]
theorem mem_getD (xs : List Int) (k : Nat) (h : k < xs.length) : xs.getD k 0 ∈ xs := by simp [h]

set_option maxHeartbeats 1000000 in
theorem sTake_no (base n c : Nat) (A : Option Addr) (xs : List Int) (i : Int) (w : World) (h : w.ownsRow base 5 1 (.slice A n c) n (xs.map (Value.int .u8))) (hn : n ≤ 1073741824) (hl : leftI n i < 2) :
    Calls Try.prog 41 #[.agg #[.slice A n c, .int .i64 i]] w fun e w' => ∃ A' c', e = .returned (.tuple #[.agg #[.slice A' n c', .int .i64 i], .int .i64 0, .bool false]) ∧ w'.ownsRow w.heap.size 5 1 (.slice A' n c') n (xs.map (Value.int .u8)) ∧ Below w.heap.size w w' := by
  have HO := Lib.hid h
  clear h
  have B0 := Below.refl w.heap.size w
  have s0 : w.heap.size ≤ w.heap.size := Nat.le_refl _
  go_enter Try.func41, Try.ntmps41
  have p_2 : Bx (w.alloc (.cells #[.slice A n c, .int .i64 i] 49)) (w.heap.size) 49 #[.slice A n c, .int .i64 i] := Bx.new _ _ _
  have B_2 := B0.alloc s0 (.cells #[.slice A n c, .int .i64 i] 49)
  clear B0
  have cp_3 := p_2.cells
  have fp_3 := p_2.free
  clear cp_3 fp_3
  have p_4 := p_2.same (same_alloc (.cells #[.slice none 0 0, .int .i64 0] 49) (by simp only [World.size_alloc]; omega))
  clear p_2
  have r_5 : Bx ((w.alloc (.cells #[.slice A n c, .int .i64 i] 49)).alloc (.cells #[.slice none 0 0, .int .i64 0] 49)) (w.heap.size + 1) 49 #[.slice none 0 0, .int .i64 0] := by
    have h := Bx.new (w.alloc (.cells #[.slice A n c, .int .i64 i] 49)) 49 #[.slice none 0 0, .int .i64 0]
    simpa only [World.size_alloc] using h
  have B_5 := B_2.alloc (by simp only [World.size_alloc]; omega) (.cells #[.slice none 0 0, .int .i64 0] 49)
  clear B_2
  have cp_6 := p_4.cells
  have fp_6 := p_4.free
  have cr_7 := r_5.cells
  have fr_7 := r_5.free
  go_wp2_with fail
  refine (sCopy_any base n c A xs i _ (own_below HO.out B_5 (Nat.le_refl _)) (by omega)).mono ?_
  rintro e w1 ⟨A1, c1, rfl, o, b⟩
  clear cp_6 fp_6
  clear cr_7 fr_7
  simp only [World.size_alloc] at b o
  have t_8 := b.size
  simp only [World.size_alloc] at t_8
  have z_8 : w.heap.size ≤ w1.heap.size := by omega
  have p_9 := p_4.same (same_below b (by omega))
  clear p_4
  have r_9 := r_5.same (same_below b (by omega))
  clear r_5
  have B_8 := B_5.trans (b.mono (by omega))
  clear B_5 b
  have cp_8 := Ow.of o
  clear o
  have cp_10 := p_9.cells
  have fp_10 := p_9.free
  have cr_11 := r_9.cells
  have fr_11 := r_9.free
  clear cp_10 fp_10
  clear cr_11 fr_11
  have p_12 := p_9.same (same_alloc (.cells #[.slice A1 n c1, .int .i64 i] 49) (by omega))
  clear p_9
  have r_12 := r_9.same (same_alloc (.cells #[.slice A1 n c1, .int .i64 i] 49) (by omega))
  clear r_9
  have cp_12 := cp_8.same (same_alloc (.cells #[.slice A1 n c1, .int .i64 i] 49) (by omega))
  clear cp_8
  have q_13 : Bx (w1.alloc (.cells #[.slice A1 n c1, .int .i64 i] 49)) (w1.heap.size) 49 #[.slice A1 n c1, .int .i64 i] := Bx.new _ _ _
  have B_13 := B_8.alloc z_8 (.cells #[.slice A1 n c1, .int .i64 i] 49)
  clear B_8
  have cp_14 := p_12.cells
  have fp_14 := p_12.free
  have cr_15 := r_12.cells
  have fr_15 := r_12.free
  have cq_16 := q_13.cells
  have fq_16 := q_13.free
  go_wp2_with fail
  refine (sTapeLeft_any A n c i _).mono ?_
  rintro e w2 ⟨rfl, b⟩
  clear cp_14 fp_14
  clear cr_15 fr_15
  clear cq_16 fq_16
  simp only [World.size_alloc] at b
  have t_17 := b.size
  simp only [World.size_alloc] at t_17
  have z_17 : w.heap.size ≤ w2.heap.size := by omega
  have p_18 := p_12.same (same_below b (by omega))
  clear p_12
  have r_18 := r_12.same (same_below b (by omega))
  clear r_12
  have cp_18 := cp_12.same (same_below b (by omega))
  clear cp_12
  have q_18 := q_13.same (same_below b (by omega))
  clear q_13
  have B_17 := B_13.trans (b.mono (by omega))
  clear B_13 b
  have cp_19 := p_18.cells
  have fp_19 := p_18.free
  have cr_20 := r_18.cells
  have fr_20 := r_18.free
  have cq_21 := q_18.cells
  have fq_21 := q_18.free
  go_wp2_with fail
  have HB := Lib.hid B_17
  refine bodyPost_ret (v := .tuple #[.agg #[.slice A1 n c1, .int .i64 i], .int .i64 0, .bool false]) (by simp [results, Try.results41, go_sem, cp_19, fp_19, cr_20, fr_20, cq_21, fq_21]) rfl ⟨A1, c1, rfl, ?_, ?_⟩
  · exact own_base (ownsRow_setCell_below (ownsRow_setCell_below cp_18.own (by simp) _) (by simp) _) (by omega)
  · have hB2 := HB.out
    go_grown

set_option maxHeartbeats 1000000 in
theorem sTake_yes (base n c : Nat) (A : Option Addr) (xs : List Int) (K : Nat) (w : World) (h : w.ownsRow base 5 1 (.slice A n c) n (xs.map (Value.int .u8))) (hn : n ≤ 1073741824) (hk : K + 2 ≤ n) (h6 : n ≤ 600) (hu : ∀ z ∈ xs, 0 ≤ z ∧ z ≤ 255) :
    Calls Try.prog 41 #[.agg #[.slice A n c, .int .i64 (K : Nat)]] w fun e w' => ∃ A' c', e = .returned (.tuple #[.agg #[.slice A' n c', .int .i64 ((K : Int) + 2)], .int .i64 (256 * xs.getD K 0 + xs.getD (K + 1) 0), .bool true]) ∧ w'.ownsRow w.heap.size 5 1 (.slice A' n c') n (xs.map (Value.int .u8)) ∧ Below w.heap.size w w' := by
  have hl : ¬ leftI n (K : Nat) < 2 := by
    have h1 : inB (K : Nat) 0 n = true := inB_yes (by omega) (by omega)
    simp only [leftI, tapeB, h1, h6, decide_true, Bool.and_true, if_true]
    omega
  obtain ⟨gA, cap, hv, _, hgA⟩ := h.form (by omega)
  simp only [Value.slice.injEq] at hv
  obtain ⟨rfl, _, rfl⟩ := hv
  have HO := Lib.hid h
  have hlen : xs.length = n := by have := h.1; simpa using this
  obtain ⟨x, hx⟩ : ∃ x, x = xs.getD K 0 := ⟨_, rfl⟩
  obtain ⟨y, hy⟩ : ∃ y, y = xs.getD (K + 1) 0 := ⟨_, rfl⟩
  have kx := map_getD (f := Value.int .u8) xs K (by omega)
  have ky := map_getD (f := Value.int .u8) xs (K + 1) (by omega)
  have bx := hu _ (mem_getD xs K (by omega))
  have by_ := hu _ (mem_getD xs (K + 1) (by omega))
  rw [← hx] at kx bx
  rw [← hy] at ky by_
  rw [← hx, ← hy]
  have HX := Lib.hid kx; have HY := Lib.hid ky
  clear hx hy kx ky h hu hlen
  obtain ⟨bx1, bx2⟩ := bx; obtain ⟨by1, by2⟩ := by_
  have n0 : (0 : Int) ≤ (K : Int) := Int.natCast_nonneg _
  have n1 : (K : Int) < (n : Int) := by omega
  have n2 : (0 : Int) ≤ (K : Int) + 1 := by omega
  have n3 : (K : Int) + 1 < (n : Int) := by omega
  have n4 : ((K : Int) + 1).toNat = K + 1 := by omega
  have n5 : IntKind.i64.wrap (K : Int) = K := IntWalk.i64_in _ (by omega)
  have n6 : IntKind.i64.wrap ((K : Int) + 1) = K + 1 := IntWalk.i64_in _ (by omega)
  have n7 : IntKind.i64.wrap ((K : Int) + 2) = K + 2 := IntWalk.i64_in _ (by omega)
  have m0 : IntKind.i64.wrap x = x := IntWalk.i64_in _ (by omega)
  have m1 : IntKind.i64.wrap y = y := IntWalk.i64_in _ (by omega)
  have m2 : IntKind.i64.wrap (x * 256) = x * 256 := IntWalk.i64_in _ (by omega)
  have m3 : IntKind.i64.wrap (256 * x) = 256 * x := IntWalk.i64_in _ (by omega)
  have m4 : IntKind.i64.wrap (x * 256 + y) = x * 256 + y := IntWalk.i64_in _ (by omega)
  have m5 : IntKind.i64.wrap (256 * x + y) = 256 * x + y := IntWalk.i64_in _ (by omega)
  have B0 := Below.refl w.heap.size w
  have s0 : w.heap.size ≤ w.heap.size := Nat.le_refl _
  go_enter Try.func41, Try.ntmps41
  have p_2 : Bx (w.alloc (.cells #[.slice (some ⟨gA, 0, none⟩) n c, .int .i64 (K : Nat)] 49)) (w.heap.size) 49 #[.slice (some ⟨gA, 0, none⟩) n c, .int .i64 (K : Nat)] := Bx.new _ _ _
  have B_2 := B0.alloc s0 (.cells #[.slice (some ⟨gA, 0, none⟩) n c, .int .i64 (K : Nat)] 49)
  clear B0
  have cp_3 := p_2.cells
  have fp_3 := p_2.free
  clear cp_3 fp_3
  have p_4 := p_2.same (same_alloc (.cells #[.slice none 0 0, .int .i64 0] 49) (by simp only [World.size_alloc]; omega))
  clear p_2
  have r_5 : Bx ((w.alloc (.cells #[.slice (some ⟨gA, 0, none⟩) n c, .int .i64 (K : Nat)] 49)).alloc (.cells #[.slice none 0 0, .int .i64 0] 49)) (w.heap.size + 1) 49 #[.slice none 0 0, .int .i64 0] := by
    have h := Bx.new (w.alloc (.cells #[.slice (some ⟨gA, 0, none⟩) n c, .int .i64 (K : Nat)] 49)) 49 #[.slice none 0 0, .int .i64 0]
    simpa only [World.size_alloc] using h
  have B_5 := B_2.alloc (by simp only [World.size_alloc]; omega) (.cells #[.slice none 0 0, .int .i64 0] 49)
  clear B_2
  have cp_6 := p_4.cells
  have fp_6 := p_4.free
  have cr_7 := r_5.cells
  have fr_7 := r_5.free
  go_wp2_with fail
  refine (sCopy_any base n c (some ⟨gA, 0, none⟩) xs (K : Nat) _ (own_below HO.out B_5 (Nat.le_refl _)) (by omega)).mono ?_
  rintro e w1 ⟨A1, c1, rfl, o, b⟩
  clear cp_6 fp_6
  clear cr_7 fr_7
  simp only [World.size_alloc] at b o
  have t_8 := b.size
  simp only [World.size_alloc] at t_8
  have z_8 : w.heap.size ≤ w1.heap.size := by omega
  have p_9 := p_4.same (same_below b (by omega))
  clear p_4
  have r_9 := r_5.same (same_below b (by omega))
  clear r_5
  have B_8 := B_5.trans (b.mono (by omega))
  clear B_5 b
  have cp_8 := Ow.of o
  clear o
  have cp_10 := p_9.cells
  have fp_10 := p_9.free
  have cr_11 := r_9.cells
  have fr_11 := r_9.free
  clear cp_10 fp_10
  clear cr_11 fr_11
  have p_12 := p_9.same (same_alloc (.cells #[.slice A1 n c1, .int .i64 (K : Nat)] 49) (by omega))
  clear p_9
  have r_12 := r_9.same (same_alloc (.cells #[.slice A1 n c1, .int .i64 (K : Nat)] 49) (by omega))
  clear r_9
  have cp_12 := cp_8.same (same_alloc (.cells #[.slice A1 n c1, .int .i64 (K : Nat)] 49) (by omega))
  clear cp_8
  have q_13 : Bx (w1.alloc (.cells #[.slice A1 n c1, .int .i64 (K : Nat)] 49)) (w1.heap.size) 49 #[.slice A1 n c1, .int .i64 (K : Nat)] := Bx.new _ _ _
  have B_13 := B_8.alloc z_8 (.cells #[.slice A1 n c1, .int .i64 (K : Nat)] 49)
  clear B_8
  have cp_14 := p_12.cells
  have fp_14 := p_12.free
  have cr_15 := r_12.cells
  have fr_15 := r_12.free
  have cq_16 := q_13.cells
  have fq_16 := q_13.free
  go_wp2_with fail
  refine (sTapeLeft_any (some ⟨gA, 0, none⟩) n c (K : Nat) _).mono ?_
  rintro e w2 ⟨rfl, b⟩
  clear cp_14 fp_14
  clear cr_15 fr_15
  clear cq_16 fq_16
  simp only [World.size_alloc] at b
  have t_17 := b.size
  simp only [World.size_alloc] at t_17
  have z_17 : w.heap.size ≤ w2.heap.size := by omega
  have p_18 := p_12.same (same_below b (by omega))
  clear p_12
  have r_18 := r_12.same (same_below b (by omega))
  clear r_12
  have cp_18 := cp_12.same (same_below b (by omega))
  clear cp_12
  have q_18 := q_13.same (same_below b (by omega))
  clear q_13
  have B_17 := B_13.trans (b.mono (by omega))
  clear B_13 b
  have cp_19 := p_18.cells
  have fp_19 := p_18.free
  have cr_20 := r_18.cells
  have fr_20 := r_18.free
  have cq_21 := q_18.cells
  have fq_21 := q_18.free
  go_wp2_with fail
  have ht8 : w.heap.size + 1 + 1 ≤ w1.heap.size := by omega
  obtain ⟨W5, hW5⟩ : ∃ W5, W5 = w2.setCell ⟨w1.heap.size, 1, none⟩ (.int .i64 ((K : Int) + 2)) := ⟨_, rfl⟩
  rw [← hW5]
  have P5 := Bx.same p_18 (same_set (off := 1) (u := .int .i64 ((K : Int) + 2)) (b := w1.heap.size) (by omega))
  have R5 := Bx.same r_18 (same_set (off := 1) (u := .int .i64 ((K : Int) + 2)) (b := w1.heap.size) (by omega))
  have Q5 := Bx.set_ q_18 1 (.int .i64 ((K : Int) + 2))
  have C5 := Ow.same cp_18 (same_set (off := 1) (u := .int .i64 ((K : Int) + 2)) (b := w1.heap.size) (by omega))
  rw [← hW5] at P5 R5 Q5 C5
  replace P5 := Lib.hid P5; replace R5 := Lib.hid R5; replace Q5 := Lib.hid Q5; replace C5 := Lib.hid C5
  have B5 : Hid (Below w.heap.size w W5) := by have hb := B_17; unfold Hid; rw [hW5]; go_grown
  have X5 : Hid (W5.cell? ⟨gA, K, none⟩ = some (.int .u8 x)) := (HO.out |> (own_below · B5.out (Nat.le_refl _))).cellAt K (by omega) |>.trans HX.out
  have Y5 : Hid (W5.cell? ⟨gA, K + 1, none⟩ = some (.int .u8 y)) := (HO.out |> (own_below · B5.out (Nat.le_refl _))).cellAt (K + 1) (by omega) |>.trans HY.out
  have z5 : w2.heap.size ≤ W5.heap.size := by rw [hW5]; simp
  clear hW5
  clear cp_19 fp_19
  clear cr_20 fr_20
  clear cq_21 fq_21
  clear p_18 r_18 q_18 cp_18 B_17
  have p0 := P5.out.cells 0; have p1 := P5.out.cells 1; have q0 := Q5.out.cells 0; have q1 := Q5.out.cells 1; have r0 := R5.out.cells 0; have r1 := R5.out.cells 1; have fr0 := R5.out.free 0; have fr1 := R5.out.free 1; have x5 := X5.out; have y5 := Y5.out
  simp at p0 p1 q0 q1 r0 r1
  have E0 := Lib.hid p0; have E1 := Lib.hid p1; have E2 := Lib.hid q0; have E3 := Lib.hid q1; have E4 := Lib.hid r0; have E5 := Lib.hid r1; have E6 := Lib.hid fr0; have E7 := Lib.hid fr1
  clear p0 p1 q0 q1 x5 y5
  go_region_held3 (fun w' => w'.cell? ⟨w.heap.size, 0, none⟩ = some (.slice (some ⟨gA, 0, none⟩) n c) ∧ w'.cell? ⟨w.heap.size, 1, none⟩ = some (.int .i64 (K : Nat)) ∧ w'.cell? ⟨w1.heap.size, 0, none⟩ = some (.slice A1 n c1) ∧ w'.cell? ⟨w1.heap.size, 1, none⟩ = some (.int .i64 ((K : Int) + 2)) ∧ w'.cell? ⟨gA, K, none⟩ = some (.int .u8 x) ∧ w'.cell? ⟨gA, K + 1, none⟩ = some (.int .u8 y))
    (first
      | exact ⟨E0.out, E1.out, E2.out, E3.out, X5.out, Y5.out⟩
      | exact ⟨(cell_far2 (by omega)).trans E0.out, (cell_far2 (by omega)).trans E1.out, (cell_far2 (by omega)).trans E2.out, (cell_far2 (by omega)).trans E3.out, (cell_far2 (by omega)).trans X5.out, (cell_far2 (by omega)).trans Y5.out⟩)
    (fail)
  go_wp2_with fail
  refine bodyPost_ret (v := .tuple #[.agg #[.slice A1 n c1, .int .i64 ((K : Int) + 2)], .int .i64 (256 * x + y), .bool true]) (by simp [results, Try.results41, go_sem, r0, r1, fr0, fr1, Int.mul_comm]) rfl ⟨A1, c1, rfl, ?_, ?_⟩
  · exact (own_base (ownsRow_setCell_below (ownsRow_setCell_below C5.out.own (by simp) _) (by simp) _) (by omega)).drew
  · have hB2 := B5.out
    go_grown

theorem sTake_any (base n c : Nat) (A : Option Addr) (xs : List Int) (i : Int) (w : World) (h : w.ownsRow base 5 1 (.slice A n c) n (xs.map (Value.int .u8))) (hn : n ≤ 1073741824) (hu : ∀ z ∈ xs, 0 ≤ z ∧ z ≤ 255) :
    Calls Try.prog 41 #[.agg #[.slice A n c, .int .i64 i]] w fun e w' => ∃ A' c', e = .returned (.tuple #[.agg #[.slice A' n c', .int .i64 (takeAt n i)], .int .i64 (takeV xs n i), .bool (takeB n i)]) ∧ w'.ownsRow w.heap.size 5 1 (.slice A' n c') n (xs.map (Value.int .u8)) ∧ Below w.heap.size w w' := by
  by_cases hl : 2 ≤ leftI n i
  · obtain ⟨h6, h0, h2⟩ := leftI_two hl
    obtain ⟨K, rfl⟩ := Int.eq_ofNat_of_zero_le h0
    have h := sTake_yes base n c A xs K w h hn (by omega) h6 hu
    simpa only [takeV, takeB, takeAt, if_pos hl, decide_eq_true hl, Int.toNat_natCast] using h
  · have h := sTake_no base n c A xs i w h hn (by omega)
    simpa only [takeV, takeB, takeAt, if_neg hl, decide_eq_false hl] using h

set_option maxHeartbeats 1000000 in
theorem iTake_no (base n c : Nat) (A : Option Addr) (xs : List Int) (i : Int) (w : World) (h : w.ownsRow base 5 1 (.slice A n c) n (xs.map (Value.int .u8))) (hn : n ≤ 1073741824) (hl : leftI n i < 2) :
    Calls Try.prog 43 #[.agg #[.slice A n c, .int .i64 i]] w fun e w' => ∃ A' c', e = .returned (.tuple #[.agg #[.slice A' n c', .int .i64 i], .int .i64 0, .bool false]) ∧ w'.ownsRow w.heap.size 5 1 (.slice A' n c') n (xs.map (Value.int .u8)) ∧ Below w.heap.size w w' := by
  have HO := Lib.hid h
  clear h
  have B0 := Below.refl w.heap.size w
  have s0 : w.heap.size ≤ w.heap.size := Nat.le_refl _
  go_enter Try.func43, Try.ntmps43
  have p_2 : Bx (w.alloc (.cells #[.slice A n c, .int .i64 i] 49)) (w.heap.size) 49 #[.slice A n c, .int .i64 i] := Bx.new _ _ _
  have B_2 := B0.alloc s0 (.cells #[.slice A n c, .int .i64 i] 49)
  clear B0
  have cp_3 := p_2.cells
  have fp_3 := p_2.free
  clear cp_3 fp_3
  have p_4 := p_2.same (same_alloc (.cells #[.slice none 0 0, .int .i64 0] 49) (by simp only [World.size_alloc]; omega))
  clear p_2
  have r_5 : Bx ((w.alloc (.cells #[.slice A n c, .int .i64 i] 49)).alloc (.cells #[.slice none 0 0, .int .i64 0] 49)) (w.heap.size + 1) 49 #[.slice none 0 0, .int .i64 0] := by
    have h := Bx.new (w.alloc (.cells #[.slice A n c, .int .i64 i] 49)) 49 #[.slice none 0 0, .int .i64 0]
    simpa only [World.size_alloc] using h
  have B_5 := B_2.alloc (by simp only [World.size_alloc]; omega) (.cells #[.slice none 0 0, .int .i64 0] 49)
  clear B_2
  have cp_6 := p_4.cells
  have fp_6 := p_4.free
  have cr_7 := r_5.cells
  have fr_7 := r_5.free
  go_wp2_with fail
  refine (iCopy_any base n c A xs i _ (own_below HO.out B_5 (Nat.le_refl _)) (by omega)).mono ?_
  rintro e w1 ⟨A1, c1, rfl, o, b⟩
  clear cp_6 fp_6
  clear cr_7 fr_7
  simp only [World.size_alloc] at b o
  have t_8 := b.size
  simp only [World.size_alloc] at t_8
  have z_8 : w.heap.size ≤ w1.heap.size := by omega
  have p_9 := p_4.same (same_below b (by omega))
  clear p_4
  have r_9 := r_5.same (same_below b (by omega))
  clear r_5
  have B_8 := B_5.trans (b.mono (by omega))
  clear B_5 b
  have cp_8 := Ow.of o
  clear o
  have cp_10 := p_9.cells
  have fp_10 := p_9.free
  have cr_11 := r_9.cells
  have fr_11 := r_9.free
  clear cp_10 fp_10
  clear cr_11 fr_11
  have p_12 := p_9.same (same_alloc (.cells #[.slice A1 n c1, .int .i64 i] 49) (by omega))
  clear p_9
  have r_12 := r_9.same (same_alloc (.cells #[.slice A1 n c1, .int .i64 i] 49) (by omega))
  clear r_9
  have cp_12 := cp_8.same (same_alloc (.cells #[.slice A1 n c1, .int .i64 i] 49) (by omega))
  clear cp_8
  have q_13 : Bx (w1.alloc (.cells #[.slice A1 n c1, .int .i64 i] 49)) (w1.heap.size) 49 #[.slice A1 n c1, .int .i64 i] := Bx.new _ _ _
  have B_13 := B_8.alloc z_8 (.cells #[.slice A1 n c1, .int .i64 i] 49)
  clear B_8
  have cp_14 := p_12.cells
  have fp_14 := p_12.free
  have cr_15 := r_12.cells
  have fr_15 := r_12.free
  have cq_16 := q_13.cells
  have fq_16 := q_13.free
  go_wp2_with fail
  refine (iTapeLeft_any A n c i _).mono ?_
  rintro e w2 ⟨rfl, b⟩
  clear cp_14 fp_14
  clear cr_15 fr_15
  clear cq_16 fq_16
  simp only [World.size_alloc] at b
  have t_17 := b.size
  simp only [World.size_alloc] at t_17
  have z_17 : w.heap.size ≤ w2.heap.size := by omega
  have p_18 := p_12.same (same_below b (by omega))
  clear p_12
  have r_18 := r_12.same (same_below b (by omega))
  clear r_12
  have cp_18 := cp_12.same (same_below b (by omega))
  clear cp_12
  have q_18 := q_13.same (same_below b (by omega))
  clear q_13
  have B_17 := B_13.trans (b.mono (by omega))
  clear B_13 b
  have cp_19 := p_18.cells
  have fp_19 := p_18.free
  have cr_20 := r_18.cells
  have fr_20 := r_18.free
  have cq_21 := q_18.cells
  have fq_21 := q_18.free
  go_wp2_with fail
  have HB := Lib.hid B_17
  refine bodyPost_ret (v := .tuple #[.agg #[.slice A1 n c1, .int .i64 i], .int .i64 0, .bool false]) (by simp [results, Try.results43, go_sem, cp_19, fp_19, cr_20, fr_20, cq_21, fq_21]) rfl ⟨A1, c1, rfl, ?_, ?_⟩
  · exact own_base (ownsRow_setCell_below (ownsRow_setCell_below cp_18.own (by simp) _) (by simp) _) (by omega)
  · have hB2 := HB.out
    go_grown

set_option maxHeartbeats 1000000 in
theorem iTake_yes (base n c : Nat) (A : Option Addr) (xs : List Int) (K : Nat) (w : World) (h : w.ownsRow base 5 1 (.slice A n c) n (xs.map (Value.int .u8))) (hn : n ≤ 1073741824) (hk : K + 2 ≤ n) (h6 : n ≤ 600) (hu : ∀ z ∈ xs, 0 ≤ z ∧ z ≤ 255) :
    Calls Try.prog 43 #[.agg #[.slice A n c, .int .i64 (K : Nat)]] w fun e w' => ∃ A' c', e = .returned (.tuple #[.agg #[.slice A' n c', .int .i64 ((K : Int) + 2)], .int .i64 (256 * xs.getD K 0 + xs.getD (K + 1) 0), .bool true]) ∧ w'.ownsRow w.heap.size 5 1 (.slice A' n c') n (xs.map (Value.int .u8)) ∧ Below w.heap.size w w' := by
  have hl : ¬ leftI n (K : Nat) < 2 := by
    have h1 : inB (K : Nat) 0 n = true := inB_yes (by omega) (by omega)
    simp only [leftI, tapeB, h1, h6, decide_true, Bool.and_true, if_true]
    omega
  obtain ⟨gA, cap, hv, _, hgA⟩ := h.form (by omega)
  simp only [Value.slice.injEq] at hv
  obtain ⟨rfl, _, rfl⟩ := hv
  have HO := Lib.hid h
  have hlen : xs.length = n := by have := h.1; simpa using this
  obtain ⟨x, hx⟩ : ∃ x, x = xs.getD K 0 := ⟨_, rfl⟩
  obtain ⟨y, hy⟩ : ∃ y, y = xs.getD (K + 1) 0 := ⟨_, rfl⟩
  have kx := map_getD (f := Value.int .u8) xs K (by omega)
  have ky := map_getD (f := Value.int .u8) xs (K + 1) (by omega)
  have bx := hu _ (mem_getD xs K (by omega))
  have by_ := hu _ (mem_getD xs (K + 1) (by omega))
  rw [← hx] at kx bx
  rw [← hy] at ky by_
  rw [← hx, ← hy]
  have HX := Lib.hid kx; have HY := Lib.hid ky
  clear hx hy kx ky h hu hlen
  obtain ⟨bx1, bx2⟩ := bx; obtain ⟨by1, by2⟩ := by_
  have n0 : (0 : Int) ≤ (K : Int) := Int.natCast_nonneg _
  have n1 : (K : Int) < (n : Int) := by omega
  have n2 : (0 : Int) ≤ (K : Int) + 1 := by omega
  have n3 : (K : Int) + 1 < (n : Int) := by omega
  have n4 : ((K : Int) + 1).toNat = K + 1 := by omega
  have n5 : IntKind.i64.wrap (K : Int) = K := IntWalk.i64_in _ (by omega)
  have n6 : IntKind.i64.wrap ((K : Int) + 1) = K + 1 := IntWalk.i64_in _ (by omega)
  have n7 : IntKind.i64.wrap ((K : Int) + 2) = K + 2 := IntWalk.i64_in _ (by omega)
  have m0 : IntKind.i64.wrap x = x := IntWalk.i64_in _ (by omega)
  have m1 : IntKind.i64.wrap y = y := IntWalk.i64_in _ (by omega)
  have m2 : IntKind.i64.wrap (x * 256) = x * 256 := IntWalk.i64_in _ (by omega)
  have m3 : IntKind.i64.wrap (256 * x) = 256 * x := IntWalk.i64_in _ (by omega)
  have m4 : IntKind.i64.wrap (x * 256 + y) = x * 256 + y := IntWalk.i64_in _ (by omega)
  have m5 : IntKind.i64.wrap (256 * x + y) = 256 * x + y := IntWalk.i64_in _ (by omega)
  have B0 := Below.refl w.heap.size w
  have s0 : w.heap.size ≤ w.heap.size := Nat.le_refl _
  go_enter Try.func43, Try.ntmps43
  have p_2 : Bx (w.alloc (.cells #[.slice (some ⟨gA, 0, none⟩) n c, .int .i64 (K : Nat)] 49)) (w.heap.size) 49 #[.slice (some ⟨gA, 0, none⟩) n c, .int .i64 (K : Nat)] := Bx.new _ _ _
  have B_2 := B0.alloc s0 (.cells #[.slice (some ⟨gA, 0, none⟩) n c, .int .i64 (K : Nat)] 49)
  clear B0
  have cp_3 := p_2.cells
  have fp_3 := p_2.free
  clear cp_3 fp_3
  have p_4 := p_2.same (same_alloc (.cells #[.slice none 0 0, .int .i64 0] 49) (by simp only [World.size_alloc]; omega))
  clear p_2
  have r_5 : Bx ((w.alloc (.cells #[.slice (some ⟨gA, 0, none⟩) n c, .int .i64 (K : Nat)] 49)).alloc (.cells #[.slice none 0 0, .int .i64 0] 49)) (w.heap.size + 1) 49 #[.slice none 0 0, .int .i64 0] := by
    have h := Bx.new (w.alloc (.cells #[.slice (some ⟨gA, 0, none⟩) n c, .int .i64 (K : Nat)] 49)) 49 #[.slice none 0 0, .int .i64 0]
    simpa only [World.size_alloc] using h
  have B_5 := B_2.alloc (by simp only [World.size_alloc]; omega) (.cells #[.slice none 0 0, .int .i64 0] 49)
  clear B_2
  have cp_6 := p_4.cells
  have fp_6 := p_4.free
  have cr_7 := r_5.cells
  have fr_7 := r_5.free
  go_wp2_with fail
  refine (iCopy_any base n c (some ⟨gA, 0, none⟩) xs (K : Nat) _ (own_below HO.out B_5 (Nat.le_refl _)) (by omega)).mono ?_
  rintro e w1 ⟨A1, c1, rfl, o, b⟩
  clear cp_6 fp_6
  clear cr_7 fr_7
  simp only [World.size_alloc] at b o
  have t_8 := b.size
  simp only [World.size_alloc] at t_8
  have z_8 : w.heap.size ≤ w1.heap.size := by omega
  have p_9 := p_4.same (same_below b (by omega))
  clear p_4
  have r_9 := r_5.same (same_below b (by omega))
  clear r_5
  have B_8 := B_5.trans (b.mono (by omega))
  clear B_5 b
  have cp_8 := Ow.of o
  clear o
  have cp_10 := p_9.cells
  have fp_10 := p_9.free
  have cr_11 := r_9.cells
  have fr_11 := r_9.free
  clear cp_10 fp_10
  clear cr_11 fr_11
  have p_12 := p_9.same (same_alloc (.cells #[.slice A1 n c1, .int .i64 (K : Nat)] 49) (by omega))
  clear p_9
  have r_12 := r_9.same (same_alloc (.cells #[.slice A1 n c1, .int .i64 (K : Nat)] 49) (by omega))
  clear r_9
  have cp_12 := cp_8.same (same_alloc (.cells #[.slice A1 n c1, .int .i64 (K : Nat)] 49) (by omega))
  clear cp_8
  have q_13 : Bx (w1.alloc (.cells #[.slice A1 n c1, .int .i64 (K : Nat)] 49)) (w1.heap.size) 49 #[.slice A1 n c1, .int .i64 (K : Nat)] := Bx.new _ _ _
  have B_13 := B_8.alloc z_8 (.cells #[.slice A1 n c1, .int .i64 (K : Nat)] 49)
  clear B_8
  have cp_14 := p_12.cells
  have fp_14 := p_12.free
  have cr_15 := r_12.cells
  have fr_15 := r_12.free
  have cq_16 := q_13.cells
  have fq_16 := q_13.free
  go_wp2_with fail
  refine (iTapeLeft_any (some ⟨gA, 0, none⟩) n c (K : Nat) _).mono ?_
  rintro e w2 ⟨rfl, b⟩
  clear cp_14 fp_14
  clear cr_15 fr_15
  clear cq_16 fq_16
  simp only [World.size_alloc] at b
  have t_17 := b.size
  simp only [World.size_alloc] at t_17
  have z_17 : w.heap.size ≤ w2.heap.size := by omega
  have p_18 := p_12.same (same_below b (by omega))
  clear p_12
  have r_18 := r_12.same (same_below b (by omega))
  clear r_12
  have cp_18 := cp_12.same (same_below b (by omega))
  clear cp_12
  have q_18 := q_13.same (same_below b (by omega))
  clear q_13
  have B_17 := B_13.trans (b.mono (by omega))
  clear B_13 b
  have cp_19 := p_18.cells
  have fp_19 := p_18.free
  have cr_20 := r_18.cells
  have fr_20 := r_18.free
  have cq_21 := q_18.cells
  have fq_21 := q_18.free
  go_wp2_with fail
  have ht8 : w.heap.size + 1 + 1 ≤ w1.heap.size := by omega
  obtain ⟨W5, hW5⟩ : ∃ W5, W5 = w2.setCell ⟨w1.heap.size, 1, none⟩ (.int .i64 ((K : Int) + 2)) := ⟨_, rfl⟩
  rw [← hW5]
  have P5 := Bx.same p_18 (same_set (off := 1) (u := .int .i64 ((K : Int) + 2)) (b := w1.heap.size) (by omega))
  have R5 := Bx.same r_18 (same_set (off := 1) (u := .int .i64 ((K : Int) + 2)) (b := w1.heap.size) (by omega))
  have Q5 := Bx.set_ q_18 1 (.int .i64 ((K : Int) + 2))
  have C5 := Ow.same cp_18 (same_set (off := 1) (u := .int .i64 ((K : Int) + 2)) (b := w1.heap.size) (by omega))
  rw [← hW5] at P5 R5 Q5 C5
  replace P5 := Lib.hid P5; replace R5 := Lib.hid R5; replace Q5 := Lib.hid Q5; replace C5 := Lib.hid C5
  have B5 : Hid (Below w.heap.size w W5) := by have hb := B_17; unfold Hid; rw [hW5]; go_grown
  have X5 : Hid (W5.cell? ⟨gA, K, none⟩ = some (.int .u8 x)) := (HO.out |> (own_below · B5.out (Nat.le_refl _))).cellAt K (by omega) |>.trans HX.out
  have Y5 : Hid (W5.cell? ⟨gA, K + 1, none⟩ = some (.int .u8 y)) := (HO.out |> (own_below · B5.out (Nat.le_refl _))).cellAt (K + 1) (by omega) |>.trans HY.out
  have z5 : w2.heap.size ≤ W5.heap.size := by rw [hW5]; simp
  clear hW5
  clear cp_19 fp_19
  clear cr_20 fr_20
  clear cq_21 fq_21
  clear p_18 r_18 q_18 cp_18 B_17
  have p0 := P5.out.cells 0; have p1 := P5.out.cells 1; have q0 := Q5.out.cells 0; have q1 := Q5.out.cells 1; have r0 := R5.out.cells 0; have r1 := R5.out.cells 1; have fr0 := R5.out.free 0; have fr1 := R5.out.free 1; have x5 := X5.out; have y5 := Y5.out
  simp at p0 p1 q0 q1 r0 r1
  have E0 := Lib.hid p0; have E1 := Lib.hid p1; have E2 := Lib.hid q0; have E3 := Lib.hid q1; have E4 := Lib.hid r0; have E5 := Lib.hid r1; have E6 := Lib.hid fr0; have E7 := Lib.hid fr1
  clear p0 p1 q0 q1 x5 y5
  go_region_held3 (fun w' => w'.cell? ⟨w.heap.size, 0, none⟩ = some (.slice (some ⟨gA, 0, none⟩) n c) ∧ w'.cell? ⟨w.heap.size, 1, none⟩ = some (.int .i64 (K : Nat)) ∧ w'.cell? ⟨w1.heap.size, 0, none⟩ = some (.slice A1 n c1) ∧ w'.cell? ⟨w1.heap.size, 1, none⟩ = some (.int .i64 ((K : Int) + 2)) ∧ w'.cell? ⟨gA, K, none⟩ = some (.int .u8 x) ∧ w'.cell? ⟨gA, K + 1, none⟩ = some (.int .u8 y))
    (first
      | exact ⟨E0.out, E1.out, E2.out, E3.out, X5.out, Y5.out⟩
      | exact ⟨(cell_far2 (by omega)).trans E0.out, (cell_far2 (by omega)).trans E1.out, (cell_far2 (by omega)).trans E2.out, (cell_far2 (by omega)).trans E3.out, (cell_far2 (by omega)).trans X5.out, (cell_far2 (by omega)).trans Y5.out⟩)
    (fail)
  go_wp2_with fail
  refine bodyPost_ret (v := .tuple #[.agg #[.slice A1 n c1, .int .i64 ((K : Int) + 2)], .int .i64 (256 * x + y), .bool true]) (by simp [results, Try.results43, go_sem, r0, r1, fr0, fr1, Int.mul_comm]) rfl ⟨A1, c1, rfl, ?_, ?_⟩
  · exact (own_base (ownsRow_setCell_below (ownsRow_setCell_below C5.out.own (by simp) _) (by simp) _) (by omega)).drew
  · have hB2 := B5.out
    go_grown

theorem iTake_any (base n c : Nat) (A : Option Addr) (xs : List Int) (i : Int) (w : World) (h : w.ownsRow base 5 1 (.slice A n c) n (xs.map (Value.int .u8))) (hn : n ≤ 1073741824) (hu : ∀ z ∈ xs, 0 ≤ z ∧ z ≤ 255) :
    Calls Try.prog 43 #[.agg #[.slice A n c, .int .i64 i]] w fun e w' => ∃ A' c', e = .returned (.tuple #[.agg #[.slice A' n c', .int .i64 (takeAt n i)], .int .i64 (takeV xs n i), .bool (takeB n i)]) ∧ w'.ownsRow w.heap.size 5 1 (.slice A' n c') n (xs.map (Value.int .u8)) ∧ Below w.heap.size w w' := by
  by_cases hl : 2 ≤ leftI n i
  · obtain ⟨h6, h0, h2⟩ := leftI_two hl
    obtain ⟨K, rfl⟩ := Int.eq_ofNat_of_zero_le h0
    have h := iTake_yes base n c A xs K w h hn (by omega) h6 hu
    simpa only [takeV, takeB, takeAt, if_pos hl, decide_eq_true hl, Int.toNat_natCast] using h
  · have h := iTake_no base n c A xs i w h hn (by omega)
    simpa only [takeV, takeB, takeAt, if_neg hl, decide_eq_false hl] using h

end Go.Proofs.Ytfdpfeaegcfglaa
