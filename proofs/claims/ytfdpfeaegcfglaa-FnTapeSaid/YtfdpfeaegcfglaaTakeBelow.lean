/-
  TakeBelow of both packages.
-/
import Derived.Test.YtfdpfeaegcfglaaTake
namespace Go.Proofs.Ytfdpfeaegcfglaa
open Go.RowKit
set_option linter.unusedSimpArgs false
set_option linter.unusedVariables false

/-- What TakeBelow answers. -/
def tbB (n : Nat) (i nn : Int) : Bool := takeB n i && inB nn 1 65536
def tbAt (n : Nat) (i nn : Int) : Int := if tbB n i nn then takeAt n i else i
def tbV (xs : List Int) (n : Nat) (i nn : Int) : Int := if tbB n i nn then takeV xs n i % nn else 0
theorem inB_le {x lo hi : Int} (h : inB x lo hi = true) : lo ≤ x ∧ x ≤ hi := by simpa [inB] using h
theorem getD_bd8 {xs : List Int} (hu : ∀ z ∈ xs, 0 ≤ z ∧ z ≤ 255) (k : Nat) : 0 ≤ xs.getD k 0 ∧ xs.getD k 0 ≤ 255 := by
  by_cases h : k < xs.length
  · exact hu _ (mem_getD xs k h)
  · have : xs.getD k 0 = 0 := by simp [List.getD, List.getElem?_eq_none (Nat.le_of_not_lt h)]
    omega
theorem takeV_bd {xs : List Int} {n : Nat} {i : Int} (hu : ∀ z ∈ xs, 0 ≤ z ∧ z ≤ 255) : 0 ≤ takeV xs n i ∧ takeV xs n i ≤ 65535 := by
  have h1 := getD_bd8 hu i.toNat
  have h2 := getD_bd8 hu (i.toNat + 1)
  unfold takeV
  split <;> omega

set_option maxHeartbeats 1000000 in
theorem sTakeBelow_yes (base n c : Nat) (A : Option Addr) (xs : List Int) (i nn : Int) (w : World) (h : w.ownsRow base 5 1 (.slice A n c) n (xs.map (Value.int .u8))) (hn : n ≤ 1073741824) (hu : ∀ z ∈ xs, 0 ≤ z ∧ z ≤ 255) (hT : takeB n i = true) (hI : inB nn 1 65536 = true) :
    Calls Try.prog 47 #[.agg #[.slice A n c, .int .i64 i], .int .i64 nn] w fun e w' => ∃ A' c', e = .returned (.tuple #[.agg #[.slice A' n c', .int .i64 (takeAt n i)], .int .i64 (takeV xs n i % nn), .bool true]) ∧ w'.ownsRow w.heap.size 5 1 (.slice A' n c') n (xs.map (Value.int .u8)) ∧ Below w.heap.size w w' := by
  have HO := Lib.hid h
  have HU := Lib.hid hu
  obtain ⟨v0, v1⟩ := takeV_bd (i := i) (n := n) hu
  obtain ⟨q0, q1⟩ := inB_le hI
  have n1 : nn ≠ 0 := by omega
  have m0 : (takeV xs n i).tmod nn = takeV xs n i % nn := Int.tmod_eq_emod_of_nonneg v0
  have m1 : IntKind.i64.wrap (takeV xs n i % nn) = takeV xs n i % nn := IntWalk.i64_in _ (by have := Int.emod_nonneg (takeV xs n i) n1; have := Int.emod_lt_of_pos (takeV xs n i) (show 0 < nn by omega); omega)
  have HI := Lib.hid hI
  clear hI
  have HT := Lib.hid hT
  clear hT
  clear h hu
  have B0 := Below.refl w.heap.size w
  have s0 : w.heap.size ≤ w.heap.size := Nat.le_refl _
  go_enter Try.func47, Try.ntmps47
  have p_2 : Bx (w.alloc (.cells #[.slice A n c, .int .i64 i] 49)) (w.heap.size) 49 #[.slice A n c, .int .i64 i] := Bx.new _ _ _
  have B_2 := B0.alloc s0 (.cells #[.slice A n c, .int .i64 i] 49)
  clear B0
  have cp_3 := p_2.cells
  have fp_3 := p_2.free
  clear cp_3 fp_3
  have p_4 := p_2.same (same_alloc (.cells #[.slice none 0 0, .int .i64 0] 49) (by simp only [World.size_alloc]; omega))
  clear p_2
  have r_5 : Bx ((w.alloc (.cells #[.slice A n c, .int .i64 i] 49)).alloc (.cells #[.slice none 0 0, .int .i64 0] 49)) (w.heap.size + 1) 49 #[.slice none 0 0, .int .i64 0] := by
    have h := Bx.new (w.alloc (.cells #[.slice A n c, .int .i64 i] 49)) 49 #[.slice none 0 0, .int .i64 0]
    simpa only [World.size_alloc] using h
  have B_5 := B_2.alloc (by simp only [World.size_alloc]; omega) (.cells #[.slice none 0 0, .int .i64 0] 49)
  clear B_2
  have cp_6 := p_4.cells
  have fp_6 := p_4.free
  have cr_7 := r_5.cells
  have fr_7 := r_5.free
  go_wp2_with fail
  refine (sTake_any base n c A xs i _ (own_below HO.out B_5 (Nat.le_refl _)) (by omega) HU.out).mono ?_
  rw [HT.out]
  rintro e w1 ⟨A1, c1, rfl, o, b⟩
  clear cp_6 fp_6
  clear cr_7 fr_7
  simp only [World.size_alloc] at b o
  have t_8 := b.size
  simp only [World.size_alloc] at t_8
  have z_8 : w.heap.size ≤ w1.heap.size := by omega
  have p_9 := p_4.same (same_below b (by omega))
  clear p_4
  have r_9 := r_5.same (same_below b (by omega))
  clear r_5
  have B_8 := B_5.trans (b.mono (by omega))
  clear B_5 b
  have tk_8 := Ow.of o
  clear o
  have cp_10 := p_9.cells
  have fp_10 := p_9.free
  have cr_11 := r_9.cells
  have fr_11 := r_9.free
  clear cp_10 fp_10
  clear cr_11 fr_11
  have p_12 := p_9.same (same_alloc (.cells #[.slice A1 n c1, .int .i64 (takeAt n i)] 49) (by omega))
  clear p_9
  have r_12 := r_9.same (same_alloc (.cells #[.slice A1 n c1, .int .i64 (takeAt n i)] 49) (by omega))
  clear r_9
  have tk_12 := tk_8.same (same_alloc (.cells #[.slice A1 n c1, .int .i64 (takeAt n i)] 49) (by omega))
  clear tk_8
  have q_13 : Bx (w1.alloc (.cells #[.slice A1 n c1, .int .i64 (takeAt n i)] 49)) (w1.heap.size) 49 #[.slice A1 n c1, .int .i64 (takeAt n i)] := Bx.new _ _ _
  have B_13 := B_8.alloc z_8 (.cells #[.slice A1 n c1, .int .i64 (takeAt n i)] 49)
  clear B_8
  have cp_14 := p_12.cells
  have fp_14 := p_12.free
  have cr_15 := r_12.cells
  have fr_15 := r_12.free
  have cq_16 := q_13.cells
  have fq_16 := q_13.free
  go_wp2_with fail
  refine (l1In_q HI.out _).mono ?_
  rintro e w2 ⟨rfl, rfl⟩
  go_wp2_with fail
  clear cp_14 fp_14
  clear cr_15 fr_15
  clear cq_16 fq_16
  obtain ⟨v17, hv17⟩ : ∃ v17, v17 = (w1.alloc (.cells #[.slice A1 n c1, .int .i64 (takeAt n i)] 49)) := ⟨_, rfl⟩
  have zv17 : w1.heap.size + 1 ≤ v17.heap.size := by rw [hv17]; simp
  rw [← hv17] at p_12 r_12 tk_12 q_13 B_13 ⊢
  clear hv17
  have dq0_18 : Hid (v17.cell? ⟨w1.heap.size, 0, none⟩ = some (.slice A1 n c1)) := q_13.cells 0
  have dq1_18 : Hid (v17.cell? ⟨w1.heap.size, 1, none⟩ = some (.int .i64 (takeAt n i))) := q_13.cells 1
  have r0 := r_12.cells 0
  have fr0 := r_12.free 0
  have r1 := r_12.cells 1
  have fr1 := r_12.free 1
  simp at r0 r1
  go_region_held3 (fun w' => w'.cell? ⟨w1.heap.size, 0, none⟩ = some (.slice A1 n c1) ∧ w'.cell? ⟨w1.heap.size, 1, none⟩ = some (.int .i64 (takeAt n i)))
    (first
      | exact ⟨dq0_18.out, dq1_18.out⟩
      | exact ⟨(cell_far2 (by omega)).trans dq0_18.out, (cell_far2 (by omega)).trans dq1_18.out⟩)
    (fail)
  go_wp2_with fail
  have HEnd := Lib.hid B_13
  refine bodyPost_ret (v := .tuple #[.agg #[.slice A1 n c1, .int .i64 (takeAt n i)], .int .i64 (takeV xs n i % nn), .bool true]) (by simp [results, Try.results47, go_sem, r0, r1, fr0, fr1]) rfl ⟨A1, c1, rfl, ?_, ?_⟩
  · first | exact (own_base (ownsRow_setCell_below (ownsRow_setCell_below tk_12.own (by show w.heap.size + 1 < _; omega) _) (by show w.heap.size + 1 < _; omega) _) (by omega)).drew | exact own_base (ownsRow_setCell_below (ownsRow_setCell_below tk_12.own (by show w.heap.size + 1 < _; omega) _) (by show w.heap.size + 1 < _; omega) _) (by omega)
  · have hB2 := HEnd.out
    go_grown

set_option maxHeartbeats 1000000 in
theorem sTakeBelow_no1 (base n c : Nat) (A : Option Addr) (xs : List Int) (i nn : Int) (w : World) (h : w.ownsRow base 5 1 (.slice A n c) n (xs.map (Value.int .u8))) (hn : n ≤ 1073741824) (hu : ∀ z ∈ xs, 0 ≤ z ∧ z ≤ 255) (hT : takeB n i = false) :
    Calls Try.prog 47 #[.agg #[.slice A n c, .int .i64 i], .int .i64 nn] w fun e w' => ∃ A' c', e = .returned (.tuple #[.agg #[.slice A' n c', .int .i64 i], .int .i64 0, .bool false]) ∧ w'.ownsRow w.heap.size 5 1 (.slice A' n c') n (xs.map (Value.int .u8)) ∧ Below w.heap.size w w' := by
  have HO := Lib.hid h
  have HU := Lib.hid hu
  have HT := Lib.hid hT
  clear hT
  clear h hu
  have B0 := Below.refl w.heap.size w
  have s0 : w.heap.size ≤ w.heap.size := Nat.le_refl _
  go_enter Try.func47, Try.ntmps47
  have p_2 : Bx (w.alloc (.cells #[.slice A n c, .int .i64 i] 49)) (w.heap.size) 49 #[.slice A n c, .int .i64 i] := Bx.new _ _ _
  have B_2 := B0.alloc s0 (.cells #[.slice A n c, .int .i64 i] 49)
  clear B0
  have cp_3 := p_2.cells
  have fp_3 := p_2.free
  clear cp_3 fp_3
  have p_4 := p_2.same (same_alloc (.cells #[.slice none 0 0, .int .i64 0] 49) (by simp only [World.size_alloc]; omega))
  clear p_2
  have r_5 : Bx ((w.alloc (.cells #[.slice A n c, .int .i64 i] 49)).alloc (.cells #[.slice none 0 0, .int .i64 0] 49)) (w.heap.size + 1) 49 #[.slice none 0 0, .int .i64 0] := by
    have h := Bx.new (w.alloc (.cells #[.slice A n c, .int .i64 i] 49)) 49 #[.slice none 0 0, .int .i64 0]
    simpa only [World.size_alloc] using h
  have B_5 := B_2.alloc (by simp only [World.size_alloc]; omega) (.cells #[.slice none 0 0, .int .i64 0] 49)
  clear B_2
  have cp_6 := p_4.cells
  have fp_6 := p_4.free
  have cr_7 := r_5.cells
  have fr_7 := r_5.free
  go_wp2_with fail
  refine (sTake_any base n c A xs i _ (own_below HO.out B_5 (Nat.le_refl _)) (by omega) HU.out).mono ?_
  rw [HT.out]
  rintro e w1 ⟨A1, c1, rfl, o, b⟩
  clear cp_6 fp_6
  clear cr_7 fr_7
  simp only [World.size_alloc] at b o
  have t_8 := b.size
  simp only [World.size_alloc] at t_8
  have z_8 : w.heap.size ≤ w1.heap.size := by omega
  have p_9 := p_4.same (same_below b (by omega))
  clear p_4
  have r_9 := r_5.same (same_below b (by omega))
  clear r_5
  have B_8 := B_5.trans (b.mono (by omega))
  clear B_5 b
  have tk_8 := Ow.of o
  clear o
  have cp_10 := p_9.cells
  have fp_10 := p_9.free
  have cr_11 := r_9.cells
  have fr_11 := r_9.free
  clear cp_10 fp_10
  clear cr_11 fr_11
  have p_12 := p_9.same (same_alloc (.cells #[.slice A1 n c1, .int .i64 (takeAt n i)] 49) (by omega))
  clear p_9
  have r_12 := r_9.same (same_alloc (.cells #[.slice A1 n c1, .int .i64 (takeAt n i)] 49) (by omega))
  clear r_9
  have tk_12 := tk_8.same (same_alloc (.cells #[.slice A1 n c1, .int .i64 (takeAt n i)] 49) (by omega))
  clear tk_8
  have q_13 : Bx (w1.alloc (.cells #[.slice A1 n c1, .int .i64 (takeAt n i)] 49)) (w1.heap.size) 49 #[.slice A1 n c1, .int .i64 (takeAt n i)] := Bx.new _ _ _
  have B_13 := B_8.alloc z_8 (.cells #[.slice A1 n c1, .int .i64 (takeAt n i)] 49)
  clear B_8
  have cp_14 := p_12.cells
  have fp_14 := p_12.free
  have cr_15 := r_12.cells
  have fr_15 := r_12.free
  have cq_16 := q_13.cells
  have fq_16 := q_13.free
  go_wp2_with fail
  refine (sCopy_any base n c A xs i _ (own_below HO.out B_13 (Nat.le_refl _)) (by omega)).mono ?_
  rintro e w2 ⟨A7, c7, rfl, o, b⟩
  clear cp_14 fp_14
  clear cr_15 fr_15
  clear cq_16 fq_16
  simp only [World.size_alloc] at b o
  have t_17 := b.size
  simp only [World.size_alloc] at t_17
  have z_17 : w.heap.size ≤ w2.heap.size := by omega
  have p_18 := p_12.same (same_below b (by omega))
  clear p_12
  have r_18 := r_12.same (same_below b (by omega))
  clear r_12
  have tk_18 := tk_12.same (same_below b (by omega))
  clear tk_12
  have q_18 := q_13.same (same_below b (by omega))
  clear q_13
  have B_17 := B_13.trans (b.mono (by omega))
  clear B_13 b
  have cp_17 := Ow.of o
  clear o
  have cp_19 := p_18.cells
  have fp_19 := p_18.free
  have cr_20 := r_18.cells
  have fr_20 := r_18.free
  have cq_21 := q_18.cells
  have fq_21 := q_18.free
  go_wp2_with fail
  have HB := Lib.hid B_17
  refine bodyPost_ret (v := .tuple #[.agg #[.slice A7 n c7, .int .i64 i], .int .i64 0, .bool false]) (by simp [results, Try.results47, go_sem, cp_19, fp_19, cr_20, fr_20, cq_21, fq_21]) rfl ⟨A7, c7, rfl, ?_, ?_⟩
  · exact own_base (ownsRow_setCell_below (ownsRow_setCell_below cp_17.own (by show w.heap.size + 1 < _; omega) _) (by show w.heap.size + 1 < _; omega) _) (by omega)
  · have hB2 := HB.out
    go_grown

set_option maxHeartbeats 1000000 in
theorem sTakeBelow_no2 (base n c : Nat) (A : Option Addr) (xs : List Int) (i nn : Int) (w : World) (h : w.ownsRow base 5 1 (.slice A n c) n (xs.map (Value.int .u8))) (hn : n ≤ 1073741824) (hu : ∀ z ∈ xs, 0 ≤ z ∧ z ≤ 255) (hT : takeB n i = true) (hI : inB nn 1 65536 = false) :
    Calls Try.prog 47 #[.agg #[.slice A n c, .int .i64 i], .int .i64 nn] w fun e w' => ∃ A' c', e = .returned (.tuple #[.agg #[.slice A' n c', .int .i64 i], .int .i64 0, .bool false]) ∧ w'.ownsRow w.heap.size 5 1 (.slice A' n c') n (xs.map (Value.int .u8)) ∧ Below w.heap.size w w' := by
  have HO := Lib.hid h
  have HU := Lib.hid hu
  have HT := Lib.hid hT
  have HI := Lib.hid hI
  clear hT hI
  clear h hu
  have B0 := Below.refl w.heap.size w
  have s0 : w.heap.size ≤ w.heap.size := Nat.le_refl _
  go_enter Try.func47, Try.ntmps47
  have p_2 : Bx (w.alloc (.cells #[.slice A n c, .int .i64 i] 49)) (w.heap.size) 49 #[.slice A n c, .int .i64 i] := Bx.new _ _ _
  have B_2 := B0.alloc s0 (.cells #[.slice A n c, .int .i64 i] 49)
  clear B0
  have cp_3 := p_2.cells
  have fp_3 := p_2.free
  clear cp_3 fp_3
  have p_4 := p_2.same (same_alloc (.cells #[.slice none 0 0, .int .i64 0] 49) (by simp only [World.size_alloc]; omega))
  clear p_2
  have r_5 : Bx ((w.alloc (.cells #[.slice A n c, .int .i64 i] 49)).alloc (.cells #[.slice none 0 0, .int .i64 0] 49)) (w.heap.size + 1) 49 #[.slice none 0 0, .int .i64 0] := by
    have h := Bx.new (w.alloc (.cells #[.slice A n c, .int .i64 i] 49)) 49 #[.slice none 0 0, .int .i64 0]
    simpa only [World.size_alloc] using h
  have B_5 := B_2.alloc (by simp only [World.size_alloc]; omega) (.cells #[.slice none 0 0, .int .i64 0] 49)
  clear B_2
  have cp_6 := p_4.cells
  have fp_6 := p_4.free
  have cr_7 := r_5.cells
  have fr_7 := r_5.free
  go_wp2_with fail
  refine (sTake_any base n c A xs i _ (own_below HO.out B_5 (Nat.le_refl _)) (by omega) HU.out).mono ?_
  rw [HT.out]
  rintro e w1 ⟨A1, c1, rfl, o, b⟩
  clear cp_6 fp_6
  clear cr_7 fr_7
  simp only [World.size_alloc] at b o
  have t_8 := b.size
  simp only [World.size_alloc] at t_8
  have z_8 : w.heap.size ≤ w1.heap.size := by omega
  have p_9 := p_4.same (same_below b (by omega))
  clear p_4
  have r_9 := r_5.same (same_below b (by omega))
  clear r_5
  have B_8 := B_5.trans (b.mono (by omega))
  clear B_5 b
  have tk_8 := Ow.of o
  clear o
  have cp_10 := p_9.cells
  have fp_10 := p_9.free
  have cr_11 := r_9.cells
  have fr_11 := r_9.free
  clear cp_10 fp_10
  clear cr_11 fr_11
  have p_12 := p_9.same (same_alloc (.cells #[.slice A1 n c1, .int .i64 (takeAt n i)] 49) (by omega))
  clear p_9
  have r_12 := r_9.same (same_alloc (.cells #[.slice A1 n c1, .int .i64 (takeAt n i)] 49) (by omega))
  clear r_9
  have tk_12 := tk_8.same (same_alloc (.cells #[.slice A1 n c1, .int .i64 (takeAt n i)] 49) (by omega))
  clear tk_8
  have q_13 : Bx (w1.alloc (.cells #[.slice A1 n c1, .int .i64 (takeAt n i)] 49)) (w1.heap.size) 49 #[.slice A1 n c1, .int .i64 (takeAt n i)] := Bx.new _ _ _
  have B_13 := B_8.alloc z_8 (.cells #[.slice A1 n c1, .int .i64 (takeAt n i)] 49)
  clear B_8
  have cp_14 := p_12.cells
  have fp_14 := p_12.free
  have cr_15 := r_12.cells
  have fr_15 := r_12.free
  have cq_16 := q_13.cells
  have fq_16 := q_13.free
  go_wp2_with fail
  refine (l1In_q HI.out _).mono ?_
  rintro e w2 ⟨rfl, rfl⟩
  go_wp2_with fail
  refine (sCopy_any base n c A xs i _ (own_below HO.out B_13 (Nat.le_refl _)) (by omega)).mono ?_
  rintro e w2 ⟨A7, c7, rfl, o, b⟩
  clear cp_14 fp_14
  clear cr_15 fr_15
  clear cq_16 fq_16
  simp only [World.size_alloc] at b o
  have t_17 := b.size
  simp only [World.size_alloc] at t_17
  have z_17 : w.heap.size ≤ w2.heap.size := by omega
  have p_18 := p_12.same (same_below b (by omega))
  clear p_12
  have r_18 := r_12.same (same_below b (by omega))
  clear r_12
  have tk_18 := tk_12.same (same_below b (by omega))
  clear tk_12
  have q_18 := q_13.same (same_below b (by omega))
  clear q_13
  have B_17 := B_13.trans (b.mono (by omega))
  clear B_13 b
  have cp_17 := Ow.of o
  clear o
  have cp_19 := p_18.cells
  have fp_19 := p_18.free
  have cr_20 := r_18.cells
  have fr_20 := r_18.free
  have cq_21 := q_18.cells
  have fq_21 := q_18.free
  go_wp2_with fail
  have HB := Lib.hid B_17
  refine bodyPost_ret (v := .tuple #[.agg #[.slice A7 n c7, .int .i64 i], .int .i64 0, .bool false]) (by simp [results, Try.results47, go_sem, cp_19, fp_19, cr_20, fr_20, cq_21, fq_21]) rfl ⟨A7, c7, rfl, ?_, ?_⟩
  · exact own_base (ownsRow_setCell_below (ownsRow_setCell_below cp_17.own (by show w.heap.size + 1 < _; omega) _) (by show w.heap.size + 1 < _; omega) _) (by omega)
  · have hB2 := HB.out
    go_grown

set_option maxHeartbeats 1000000 in
theorem iTakeBelow_yes (base n c : Nat) (A : Option Addr) (xs : List Int) (i nn : Int) (w : World) (h : w.ownsRow base 5 1 (.slice A n c) n (xs.map (Value.int .u8))) (hn : n ≤ 1073741824) (hu : ∀ z ∈ xs, 0 ≤ z ∧ z ≤ 255) (hI : inB nn 1 65536 = true) :
    Calls Try.prog 48 #[.agg #[.slice A n c, .int .i64 i], .int .i64 nn] w fun e w' => ∃ A' c', e = .returned (.tuple #[.agg #[.slice A' n c', .int .i64 (takeAt n i)], .int .i64 (takeV xs n i % nn), .bool (takeB n i)]) ∧ w'.ownsRow w.heap.size 5 1 (.slice A' n c') n (xs.map (Value.int .u8)) ∧ Below w.heap.size w w' := by
  have HO := Lib.hid h
  have HU := Lib.hid hu
  obtain ⟨v0, v1⟩ := takeV_bd (i := i) (n := n) hu
  obtain ⟨q0, q1⟩ := inB_le hI
  have n1 : nn ≠ 0 := by omega
  have m0 : (takeV xs n i).tmod nn = takeV xs n i % nn := Int.tmod_eq_emod_of_nonneg v0
  have m1 : IntKind.i64.wrap (takeV xs n i % nn) = takeV xs n i % nn := IntWalk.i64_in _ (by have := Int.emod_nonneg (takeV xs n i) n1; have := Int.emod_lt_of_pos (takeV xs n i) (show 0 < nn by omega); omega)
  have HI := Lib.hid hI
  clear hI
  clear h hu
  have B0 := Below.refl w.heap.size w
  have s0 : w.heap.size ≤ w.heap.size := Nat.le_refl _
  go_enter Try.func48, Try.ntmps48
  have p_2 : Bx (w.alloc (.cells #[.slice A n c, .int .i64 i] 49)) (w.heap.size) 49 #[.slice A n c, .int .i64 i] := Bx.new _ _ _
  have B_2 := B0.alloc s0 (.cells #[.slice A n c, .int .i64 i] 49)
  clear B0
  have cp_3 := p_2.cells
  have fp_3 := p_2.free
  clear cp_3 fp_3
  have p_4 := p_2.same (same_alloc (.cells #[.slice none 0 0, .int .i64 0] 49) (by simp only [World.size_alloc]; omega))
  clear p_2
  have r_5 : Bx ((w.alloc (.cells #[.slice A n c, .int .i64 i] 49)).alloc (.cells #[.slice none 0 0, .int .i64 0] 49)) (w.heap.size + 1) 49 #[.slice none 0 0, .int .i64 0] := by
    have h := Bx.new (w.alloc (.cells #[.slice A n c, .int .i64 i] 49)) 49 #[.slice none 0 0, .int .i64 0]
    simpa only [World.size_alloc] using h
  have B_5 := B_2.alloc (by simp only [World.size_alloc]; omega) (.cells #[.slice none 0 0, .int .i64 0] 49)
  clear B_2
  have cp_6 := p_4.cells
  have fp_6 := p_4.free
  have cr_7 := r_5.cells
  have fr_7 := r_5.free
  go_wp2_with fail
  refine (within_q HI.out _).mono ?_
  rintro e w1 ⟨rfl, rfl⟩
  go_wp2_with fail
  refine (iTake_any base n c A xs i _ (own_below HO.out B_5 (Nat.le_refl _)) (by omega) HU.out).mono ?_
  rintro e w1 ⟨A1, c1, rfl, o, b⟩
  clear cp_6 fp_6
  clear cr_7 fr_7
  simp only [World.size_alloc] at b o
  have t_8 := b.size
  simp only [World.size_alloc] at t_8
  have z_8 : w.heap.size ≤ w1.heap.size := by omega
  have p_9 := p_4.same (same_below b (by omega))
  clear p_4
  have r_9 := r_5.same (same_below b (by omega))
  clear r_5
  have B_8 := B_5.trans (b.mono (by omega))
  clear B_5 b
  have tk_8 := Ow.of o
  clear o
  have cp_10 := p_9.cells
  have fp_10 := p_9.free
  have cr_11 := r_9.cells
  have fr_11 := r_9.free
  clear cp_10 fp_10
  clear cr_11 fr_11
  have p_12 := p_9.same (same_alloc (.cells #[.slice A1 n c1, .int .i64 (takeAt n i)] 49) (by omega))
  clear p_9
  have r_12 := r_9.same (same_alloc (.cells #[.slice A1 n c1, .int .i64 (takeAt n i)] 49) (by omega))
  clear r_9
  have tk_12 := tk_8.same (same_alloc (.cells #[.slice A1 n c1, .int .i64 (takeAt n i)] 49) (by omega))
  clear tk_8
  have q_13 : Bx (w1.alloc (.cells #[.slice A1 n c1, .int .i64 (takeAt n i)] 49)) (w1.heap.size) 49 #[.slice A1 n c1, .int .i64 (takeAt n i)] := Bx.new _ _ _
  have B_13 := B_8.alloc z_8 (.cells #[.slice A1 n c1, .int .i64 (takeAt n i)] 49)
  clear B_8
  have cp_14 := p_12.cells
  have fp_14 := p_12.free
  have cr_15 := r_12.cells
  have fr_15 := r_12.free
  have cq_16 := q_13.cells
  have fq_16 := q_13.free
  go_wp2_with fail
  clear cp_14 fp_14
  clear cr_15 fr_15
  clear cq_16 fq_16
  obtain ⟨v17, hv17⟩ : ∃ v17, v17 = (w1.alloc (.cells #[.slice A1 n c1, .int .i64 (takeAt n i)] 49)) := ⟨_, rfl⟩
  have zv17 : w1.heap.size + 1 ≤ v17.heap.size := by rw [hv17]; simp
  rw [← hv17] at p_12 r_12 tk_12 q_13 B_13 ⊢
  clear hv17
  have dq0_18 : Hid (v17.cell? ⟨w1.heap.size, 0, none⟩ = some (.slice A1 n c1)) := q_13.cells 0
  have dq1_18 : Hid (v17.cell? ⟨w1.heap.size, 1, none⟩ = some (.int .i64 (takeAt n i))) := q_13.cells 1
  have r0 := r_12.cells 0
  have fr0 := r_12.free 0
  have r1 := r_12.cells 1
  have fr1 := r_12.free 1
  simp at r0 r1
  go_region_held3 (fun w' => w'.cell? ⟨w1.heap.size, 0, none⟩ = some (.slice A1 n c1) ∧ w'.cell? ⟨w1.heap.size, 1, none⟩ = some (.int .i64 (takeAt n i)))
    (first
      | exact ⟨dq0_18.out, dq1_18.out⟩
      | exact ⟨(cell_far2 (by omega)).trans dq0_18.out, (cell_far2 (by omega)).trans dq1_18.out⟩)
    (fail)
  go_wp2_with fail
  have HEnd := Lib.hid B_13
  refine bodyPost_ret (v := .tuple #[.agg #[.slice A1 n c1, .int .i64 (takeAt n i)], .int .i64 (takeV xs n i % nn), .bool (takeB n i)]) (by simp [results, Try.results48, go_sem, r0, r1, fr0, fr1]) rfl ⟨A1, c1, rfl, ?_, ?_⟩
  · first | exact (own_base (ownsRow_setCell_below (ownsRow_setCell_below tk_12.own (by show w.heap.size + 1 < _; omega) _) (by show w.heap.size + 1 < _; omega) _) (by omega)).drew | exact own_base (ownsRow_setCell_below (ownsRow_setCell_below tk_12.own (by show w.heap.size + 1 < _; omega) _) (by show w.heap.size + 1 < _; omega) _) (by omega)
  · have hB2 := HEnd.out
    go_grown

set_option maxHeartbeats 1000000 in
theorem iTakeBelow_no (base n c : Nat) (A : Option Addr) (xs : List Int) (i nn : Int) (w : World) (h : w.ownsRow base 5 1 (.slice A n c) n (xs.map (Value.int .u8))) (hn : n ≤ 1073741824) (hu : ∀ z ∈ xs, 0 ≤ z ∧ z ≤ 255) (hI : inB nn 1 65536 = false) :
    Calls Try.prog 48 #[.agg #[.slice A n c, .int .i64 i], .int .i64 nn] w fun e w' => ∃ A' c', e = .returned (.tuple #[.agg #[.slice A' n c', .int .i64 i], .int .i64 0, .bool false]) ∧ w'.ownsRow w.heap.size 5 1 (.slice A' n c') n (xs.map (Value.int .u8)) ∧ Below w.heap.size w w' := by
  have HO := Lib.hid h
  have HU := Lib.hid hu
  have HI := Lib.hid hI
  clear hI
  clear h hu
  have B0 := Below.refl w.heap.size w
  have s0 : w.heap.size ≤ w.heap.size := Nat.le_refl _
  go_enter Try.func48, Try.ntmps48
  have p_2 : Bx (w.alloc (.cells #[.slice A n c, .int .i64 i] 49)) (w.heap.size) 49 #[.slice A n c, .int .i64 i] := Bx.new _ _ _
  have B_2 := B0.alloc s0 (.cells #[.slice A n c, .int .i64 i] 49)
  clear B0
  have cp_3 := p_2.cells
  have fp_3 := p_2.free
  clear cp_3 fp_3
  have p_4 := p_2.same (same_alloc (.cells #[.slice none 0 0, .int .i64 0] 49) (by simp only [World.size_alloc]; omega))
  clear p_2
  have r_5 : Bx ((w.alloc (.cells #[.slice A n c, .int .i64 i] 49)).alloc (.cells #[.slice none 0 0, .int .i64 0] 49)) (w.heap.size + 1) 49 #[.slice none 0 0, .int .i64 0] := by
    have h := Bx.new (w.alloc (.cells #[.slice A n c, .int .i64 i] 49)) 49 #[.slice none 0 0, .int .i64 0]
    simpa only [World.size_alloc] using h
  have B_5 := B_2.alloc (by simp only [World.size_alloc]; omega) (.cells #[.slice none 0 0, .int .i64 0] 49)
  clear B_2
  have cp_6 := p_4.cells
  have fp_6 := p_4.free
  have cr_7 := r_5.cells
  have fr_7 := r_5.free
  go_wp2_with fail
  refine (within_q HI.out _).mono ?_
  rintro e w1 ⟨rfl, rfl⟩
  go_wp2_with fail
  refine (iCopy_any base n c A xs i _ (own_below HO.out B_5 (Nat.le_refl _)) (by omega)).mono ?_
  rintro e w1 ⟨A7, c7, rfl, o, b⟩
  clear cp_6 fp_6
  clear cr_7 fr_7
  simp only [World.size_alloc] at b o
  have t_8 := b.size
  simp only [World.size_alloc] at t_8
  have z_8 : w.heap.size ≤ w1.heap.size := by omega
  have p_9 := p_4.same (same_below b (by omega))
  clear p_4
  have r_9 := r_5.same (same_below b (by omega))
  clear r_5
  have B_8 := B_5.trans (b.mono (by omega))
  clear B_5 b
  have cp_8 := Ow.of o
  clear o
  have cp_10 := p_9.cells
  have fp_10 := p_9.free
  have cr_11 := r_9.cells
  have fr_11 := r_9.free
  go_wp2_with fail
  have HB := Lib.hid B_8
  refine bodyPost_ret (v := .tuple #[.agg #[.slice A7 n c7, .int .i64 i], .int .i64 0, .bool false]) (by simp [results, Try.results48, go_sem, cp_10, fp_10, cr_11, fr_11]) rfl ⟨A7, c7, rfl, ?_, ?_⟩
  · exact own_base (ownsRow_setCell_below (ownsRow_setCell_below cp_8.own (by show w.heap.size + 1 < _; omega) _) (by show w.heap.size + 1 < _; omega) _) (by omega)
  · have hB2 := HB.out
    go_grown

theorem sTakeBelow_any (base n c : Nat) (A : Option Addr) (xs : List Int) (i nn : Int) (w : World) (h : w.ownsRow base 5 1 (.slice A n c) n (xs.map (Value.int .u8))) (hn : n ≤ 1073741824) (hu : ∀ z ∈ xs, 0 ≤ z ∧ z ≤ 255) :
    Calls Try.prog 47 #[.agg #[.slice A n c, .int .i64 i], .int .i64 nn] w fun e w' => ∃ A' c', e = .returned (.tuple #[.agg #[.slice A' n c', .int .i64 (tbAt n i nn)], .int .i64 (tbV xs n i nn), .bool (tbB n i nn)]) ∧ w'.ownsRow w.heap.size 5 1 (.slice A' n c') n (xs.map (Value.int .u8)) ∧ Below w.heap.size w w' := by
  cases hT : takeB n i
  · have h := sTakeBelow_no1 base n c A xs i nn w h hn hu hT
    simpa [tbB, tbAt, tbV, hT] using h
  · cases hI : inB nn 1 65536
    · have h := sTakeBelow_no2 base n c A xs i nn w h hn hu hT hI
      simpa [tbB, tbAt, tbV, hT, hI] using h
    · have h := sTakeBelow_yes base n c A xs i nn w h hn hu hT hI
      simpa [tbB, tbAt, tbV, hT, hI] using h
theorem iTakeBelow_any (base n c : Nat) (A : Option Addr) (xs : List Int) (i nn : Int) (w : World) (h : w.ownsRow base 5 1 (.slice A n c) n (xs.map (Value.int .u8))) (hn : n ≤ 1073741824) (hu : ∀ z ∈ xs, 0 ≤ z ∧ z ≤ 255) :
    Calls Try.prog 48 #[.agg #[.slice A n c, .int .i64 i], .int .i64 nn] w fun e w' => ∃ A' c', e = .returned (.tuple #[.agg #[.slice A' n c', .int .i64 (tbAt n i nn)], .int .i64 (tbV xs n i nn), .bool (tbB n i nn)]) ∧ w'.ownsRow w.heap.size 5 1 (.slice A' n c') n (xs.map (Value.int .u8)) ∧ Below w.heap.size w w' := by
  cases hI : inB nn 1 65536
  · have h := iTakeBelow_no base n c A xs i nn w h hn hu hI
    simpa [tbB, tbAt, tbV, hI] using h
  · have h := iTakeBelow_yes base n c A xs i nn w h hn hu hI
    cases hT : takeB n i
    · have e1 : takeAt n i = i := if_neg (by simpa [takeB] using hT)
      have e2 : takeV xs n i = 0 := if_neg (by simpa [takeB] using hT)
      simpa [tbB, tbAt, tbV, hI, hT, e1, e2] using h
    · simpa [tbB, tbAt, tbV, hI, hT] using h

end Go.Proofs.Ytfdpfeaegcfglaa
