/-
  Ex measured, copied, compared and marked by the law file's helpers; totals and cells marked with known marks.
-/
import Derived.Test.YtchkmcikpamdeaaStatW
import Derived.Test.YtchkmcikpamdeaaMarkS
namespace Go.Proofs.Ytchkmcikpamdeaa
open Go.RowKit
set_option linter.unusedSimpArgs false
set_option linter.unusedVariables false

set_option maxHeartbeats 1000000 in
theorem toEx_any (A : Option Addr) (n c : Nat) (xs : List Int) (cl : Int) (w : World) (h : Rd w A n (xs.map (Value.int .i64))) (hn : n ≤ 1073741824) :
    Calls Try.prog 15 #[.agg #[.slice A n c, .int .i64 cl]] w fun e w' => ∃ g, e = .returned (.agg #[.slice (some ⟨g, 0, none⟩) n n, .int .i64 cl]) ∧ Ow 3 w.heap.size w'.heap.size w' (some ⟨g, 0, none⟩) n n (xs.map (Value.int .i64)) ∧ Below w.heap.size w w' := by
  have H := Lib.hid h
  clear h
  have B0 := Below.refl w.heap.size w
  have s0 : w.heap.size ≤ w.heap.size := Nat.le_refl _
  go_enter Try.func15, Try.ntmps15
  have p_2 : Bx (w.alloc (.cells #[.slice A n c, .int .i64 cl] 31)) (w.heap.size) 31 #[.slice A n c, .int .i64 cl] := Bx.new _ _ _
  have B_2 := B0.alloc s0 (.cells #[.slice A n c, .int .i64 cl] 31)
  clear B0
  have cp_3 := p_2.cells
  have fp_3 := p_2.free
  clear cp_3 fp_3
  have p_4 := p_2.same (same_alloc (.cells #[.slice none 0 0, .int .i64 0] 43) (by simp only [World.size_alloc]; omega))
  clear p_2
  have r_5 : Bx ((w.alloc (.cells #[.slice A n c, .int .i64 cl] 31)).alloc (.cells #[.slice none 0 0, .int .i64 0] 43)) (w.heap.size + 1) 43 #[.slice none 0 0, .int .i64 0] := by
    have h := Bx.new (w.alloc (.cells #[.slice A n c, .int .i64 cl] 31)) 43 #[.slice none 0 0, .int .i64 0]
    simpa only [World.size_alloc] using h
  have B_5 := B_2.alloc (by simp only [World.size_alloc]; omega) (.cells #[.slice none 0 0, .int .i64 0] 43)
  clear B_2
  have cp_6 := p_4.cells
  have fp_6 := p_4.free
  have cr_7 := r_5.cells
  have fr_7 := r_5.free
  clear cp_6 fp_6
  clear cr_7 fr_7
  have p_8 := p_4.same (same_alloc (.cells #[.slice none 0 0, .int .i64 0] 43) (by simp only [World.size_alloc]; omega))
  clear p_4
  have r_8 := r_5.same (same_alloc (.cells #[.slice none 0 0, .int .i64 0] 43) (by simp only [World.size_alloc]; omega))
  clear r_5
  have o_9 : Bx (((w.alloc (.cells #[.slice A n c, .int .i64 cl] 31)).alloc (.cells #[.slice none 0 0, .int .i64 0] 43)).alloc (.cells #[.slice none 0 0, .int .i64 0] 43)) (w.heap.size + 1 + 1) 43 #[.slice none 0 0, .int .i64 0] := by
    have h := Bx.new ((w.alloc (.cells #[.slice A n c, .int .i64 cl] 31)).alloc (.cells #[.slice none 0 0, .int .i64 0] 43)) 43 #[.slice none 0 0, .int .i64 0]
    simpa only [World.size_alloc] using h
  have B_9 := B_5.alloc (by simp only [World.size_alloc]; omega) (.cells #[.slice none 0 0, .int .i64 0] 43)
  clear B_5
  have cp_10 := p_8.cells
  have fp_10 := p_8.free
  have cr_11 := r_8.cells
  have fr_11 := r_8.free
  have co_12 := o_9.cells
  have fo_12 := o_9.free
  go_wp2_with fail
  refine (toIntS_own2 A n c xs _ (H.out.below B_9 (Nat.le_refl _)) hn).mono ?_
  rintro e w1 ⟨g1, rfl, o, b⟩
  clear cp_10 fp_10
  clear cr_11 fr_11
  clear co_12 fo_12
  simp only [World.size_alloc] at b o
  have t_13 := b.size
  simp only [World.size_alloc] at t_13
  have z_13 : w.heap.size ≤ w1.heap.size := by omega
  have p_14 := p_8.same (same_below b (by omega))
  clear p_8
  have r_14 := r_8.same (same_below b (by omega))
  clear r_8
  have o_14 := o_9.same (same_below b (by omega))
  clear o_9
  have B_13 := B_9.trans (b.mono (by omega))
  clear B_9 b
  have y_13 := o
  clear o
  have cp_15 := p_14.cells
  have fp_15 := p_14.free
  have cr_16 := r_14.cells
  have fr_16 := r_14.free
  have co_17 := o_14.cells
  have fo_17 := o_14.free
  have HB2 := Lib.hid B_13
  go_wp2_with fail
  refine bodyPost_ret (v := .agg #[.slice (some ⟨g1, 0, none⟩) n n, .int .i64 cl]) (by simp [results, Try.results15, go_sem, cp_15, fp_15, cr_16, fr_16, co_17, fo_17]) rfl ⟨g1, rfl, ?_, ?_⟩
  · refine Ow.wide (lo := w.heap.size + 1 + 1 + 1) ?_ (by omega) (Nat.le_refl _)
    have h := (((y_13.same (same_set (b := w.heap.size + 1 + 1) (off := 0) (u := .slice (some ⟨g1, 0, none⟩) n n) (by omega))).same (same_set (b := w.heap.size + 1 + 1) (off := 1) (u := .int .i64 cl) (by omega))).same (same_set (b := w.heap.size + 1) (off := 0) (u := .slice (some ⟨g1, 0, none⟩) n n) (by omega))).same (same_set (b := w.heap.size + 1) (off := 1) (u := .int .i64 cl) (by omega))
    simpa only [World.size_setCell] using h
  · have hB := HB2.out
    go_grown

set_option maxHeartbeats 1000000 in
theorem szEx_any (A : Option Addr) (n c : Nat) (cl left : Int) (w : World) (h0 : 0 ≤ left) (h1 : left ≤ 1048576) (hn : n ≤ 9223372036854775807) :
    Calls Try.prog 11 #[.agg #[.slice A n c, .int .i64 cl], .int .i64 left] w fun e w' => e = .returned (.int .i64 (szI left (n : Int))) ∧ Below w.heap.size w w' := by
  have HB := Lib.hid (below_alloc1 (w := w) (.cells #[.slice A n c, .int .i64 cl] 31))
  by_cases c1 : (n : Int) ≤ left
  · have HT := Lib.hid (szI_yes c1)
    go_enter Try.func11, Try.ntmps11
    go_wp2_with fail
    refine (szIntS_any A n c left h0 h1 hn _).mono ?_
    rw [HT.out]
    rintro e w1 ⟨rfl, rfl⟩
    go_wp2_with fail
    go_ret
    exact ⟨by rw [HT.out]; rfl, HB.out⟩
  · have HT := Lib.hid (szI_no (left := left) (n := (n : Int)) (by omega))
    go_enter Try.func11, Try.ntmps11
    go_wp2_with fail
    refine (szIntS_any A n c left h0 h1 hn _).mono ?_
    rw [HT.out]
    rintro e w1 ⟨rfl, rfl⟩
    go_wp2_with fail
    go_ret
    exact ⟨by rw [HT.out]; rfl, HB.out⟩

set_option maxHeartbeats 1000000 in
theorem eqEx_same (A C : Option Addr) (n c d : Nat) (xs : List Int) (cl : Int) (w : World) (hx : Rd w A n (xs.map (Value.int .i64))) (hy : Rd w C n (xs.map (Value.int .i64))) (hn : n ≤ 1073741824) :
    Calls Try.prog 19 #[.agg #[.slice A n c, .int .i64 cl], .agg #[.slice C n d, .int .i64 cl]] w fun e w' => e = .returned (.bool true) ∧ Below w.heap.size w w' := by
  have hb0 : Below w.heap.size w ((w.alloc (.cells #[.slice A n c, .int .i64 cl] 43)).alloc (.cells #[.slice C n d, .int .i64 cl] 43)) := by go_grown
  have X := Lib.hid (hx.below hb0 (Nat.le_refl _)); have Y := Lib.hid (hy.below hb0 (Nat.le_refl _))
  have b1 : Bx ((w.alloc (.cells #[.slice A n c, .int .i64 cl] 43)).alloc (.cells #[.slice C n d, .int .i64 cl] 43)) w.heap.size 43 #[.slice A n c, .int .i64 cl] := (Bx.new w _ _).same (same_alloc _ (by simp))
  have b2 : Bx ((w.alloc (.cells #[.slice A n c, .int .i64 cl] 43)).alloc (.cells #[.slice C n d, .int .i64 cl] 43)) (w.heap.size + 1) 43 #[.slice C n d, .int .i64 cl] := by
    have h := Bx.new (w.alloc (.cells #[.slice A n c, .int .i64 cl] 43)) 43 #[.slice C n d, .int .i64 cl]
    simpa only [World.size_alloc] using h
  have HB0 := Lib.hid hb0
  clear hx hy hb0
  go_enter Try.func19, Try.ntmps19
  go_wp2_with fail
  refine (eqIntS_same A C n c d xs _ X.out Y.out hn).mono ?_
  rintro e w1 ⟨rfl, b⟩
  have bb1 := b1.same (same_below b (by simp only [World.size_alloc]; omega))
  have bb2 := b2.same (same_below b (by simp only [World.size_alloc]; omega))
  have c1 : w1.cell? ⟨w.heap.size, 1, none⟩ = some (.int .i64 cl) := bb1.cells 1
  have c2 : w1.cell? ⟨w.heap.size + 1, 1, none⟩ = some (.int .i64 cl) := bb2.cells 1
  have HB1 := Lib.hid (HB0.out.trans (b.mono (by simp only [World.size_alloc]; omega)))
  clear b b1 b2 bb1 bb2
  go_wp2_with fail
  go_ret
  exact ⟨rfl, HB1.out⟩

set_option maxHeartbeats 1000000 in
theorem markEx_any (lo hi n c k : Nat) (A : Option Addr) (xs : List Value) (cl : Int) (w : World) (h : Ow 3 lo hi w A n c xs) (hhi : hi ≤ w.heap.size) (hn : n ≤ 1073741824) (hk : k ≤ 16777216) :
    Calls Try.prog 22 #[.agg #[.slice A n c, .int .i64 cl], .int .i64 (k : Nat)] w fun e w' => e = .returned (.int .i64 ((k + n : Nat) : Int)) ∧ Only lo hi w w' := by
  have HO0 : Hid (Only lo hi w (w.alloc (.cells #[.slice A n c, .int .i64 cl] 43))) := Only.of_below (below_alloc1 _) (Nat.le_refl _)
  have H1 := Lib.hid (h.same (same_alloc (.cells #[.slice A n c, .int .i64 cl] 43) hhi))
  clear h
  go_enter Try.func22, Try.ntmps22
  go_wp2_with fail
  refine (markIntS_any lo n c k A _ _ H1.out.own (by omega) (by omega)).mono ?_
  rintro e w1 ⟨rfl, o, g, z⟩
  have HO1 := Lib.hid (HO0.out.trans (Ow.only H1.out g))
  clear o g z
  go_wp2_with fail
  go_ret
  exact ⟨rfl, HO1.out⟩

structure OwStV (lo hi : Nat) (w : World) (A C : Option Addr) (n c m d mid : Nat) (gs : List Hd) (vs : List Value) (vss : List (List Value)) : Prop where
  tot : Ow 3 lo mid w A n c vs
  cel : OwSS mid hi w C m d gs vss
  le : lo ≤ mid ∧ mid ≤ hi
theorem OwStV.same {lo hi : Nat} {w w' : World} {A C : Option Addr} {n c m d mid : Nat} {gs : List Hd} {vs : List Value} {vss : List (List Value)} (h : OwStV lo hi w A C n c m d mid gs vs vss) (s : Same lo hi w w') : OwStV lo hi w' A C n c m d mid gs vs vss :=
  ⟨h.tot.same (fun k h1 h2 => s k h1 (Nat.lt_of_lt_of_le h2 h.le.2)), h.cel.same (fun k h1 h2 => s k (Nat.le_trans h.le.1 h1) h2), h.le⟩

set_option maxHeartbeats 1000000 in
theorem markStatsK_any (lo hi mid n c m d k : Nat) (A C : Option Addr) (gs : List Hd) (ts : List Int) (xss : List (List Int)) (w : World) (h : OwSta lo hi w A C n c m d mid gs ts xss) (hhi : hi ≤ w.heap.size) (hn : n ≤ 1048576) (hm : m ≤ 1048576) (hb : totI xss ≤ 1048576) (hk : k ≤ 16777216) :
    Calls Try.prog 21 #[.agg #[.slice A n c, .slice C m d], .int .i64 (k : Nat)] w fun e w' => e = .returned (.int .i64 ((k + n + tot (iss xss) : Nat) : Int)) ∧ OwStV lo hi w' A C n c m d mid gs (marksIntS k n) (marksSS (k + n) (iss xss)) ∧ Only lo hi w w' := by
  have hle := h.le
  have b1 : Bx (w.alloc (.cells #[.slice A n c, .slice C m d] 35)) w.heap.size 35 #[.slice A n c, .slice C m d] := Bx.new _ _ _
  have HO0 : Hid (Only lo hi w (w.alloc (.cells #[.slice A n c, .slice C m d] 35))) := Only.of_below (below_alloc1 _) (Nat.le_refl _)
  have H1 := Lib.hid (h.same (same_alloc (.cells #[.slice A n c, .slice C m d] 35) hhi))
  have HT := Lib.hid (tot_iss xss)
  clear h
  go_enter Try.func21, Try.ntmps21
  go_wp2_with fail
  refine (markIntS_any lo n c k A _ _ H1.out.tot.own (by omega) (by omega)).mono ?_
  rintro e w1 ⟨rfl, o, g, z⟩
  have ho := Ow.only H1.out.tot g
  have hs1 := ho.size
  simp only [World.size_alloc] at hs1
  have hb1 := b1.same (same_only ho (by omega) (by simp))
  have c0 : w1.cell? ⟨w.heap.size, 0, none⟩ = some (.slice A n c) := hb1.cells 0
  have c1 : w1.cell? ⟨w.heap.size, 1, none⟩ = some (.slice C m d) := hb1.cells 1
  have HC := Lib.hid (H1.out.cel.same (same_only ho (by omega) (by simp; omega)))
  have HO1 := Lib.hid (HO0.out.trans (ho.mono (Nat.le_refl _) hle.2))
  have HMk : Hid (Ow 3 lo mid w1 A n c (marksIntS k n)) := ⟨o, H1.out.tot.top⟩
  clear ho hb1 b1 HO0 H1 o g z
  obtain ⟨K, hK⟩ : ∃ K, k + n = K := ⟨_, rfl⟩
  rw [hK]
  have hKb : K ≤ 1099511627776 - 1048576 := by omega
  have HK := Lib.hid hK
  clear hK
  go_wp2_with fail
  refine (markIntSS_any mid hi m d K C _ _ w1 HC.out hm (by rw [HT.out]; exact hb) hKb).mono ?_
  rintro e w2 ⟨rfl, o2, ho2⟩
  have HO2 := Lib.hid (HO1.out.trans (ho2.mono hle.1 (Nat.le_refl _)))
  have HT2 := Lib.hid (HMk.out.same (same_only ho2 (by omega) (by omega)))
  have HR2 := Lib.hid o2
  clear ho2 o2
  go_wp2_with fail
  go_ret
  exact ⟨by rw [HK.out]; push_cast; rfl, ⟨HT2.out, by rw [HK.out]; exact HR2.out, hle⟩, HO2.out⟩

set_option maxHeartbeats 1000000 in
theorem heldStats_any (n c m d k : Nat) (A C : Option Addr) (gs : List Hd) (vss : List (List Value)) (w : World) (h : Rd w A n (marksIntS k n)) (h2 : RdSS w C m gs (marksSS (k + n) vss)) (hl : vss.length = m) (hn : n ≤ 1048576) (hm : m ≤ 1048576) (hb : tot vss ≤ 1048576) (hk : k ≤ 16777216) :
    Calls Try.prog 23 #[.agg #[.slice A n c, .slice C m d], .int .i64 (k : Nat)] w fun e w' => e = .returned (.int .i64 ((k + n + tot vss : Nat) : Int)) ∧ Below w.heap.size w w' := by
  have hb0 := below_alloc1 (w := w) (.cells #[.slice A n c, .slice C m d] 35)
  have HB := Lib.hid hb0
  have H := Lib.hid (h.below hb0 (Nat.le_refl _)); have H2 := Lib.hid (h2.below hb0 (Nat.le_refl _))
  have HL := Lib.hid hl
  clear h h2 hb0 hl
  go_enter Try.func23, Try.ntmps23
  go_wp2_with fail
  refine (heldIntS_any A n c k _ H.out (by omega) (by omega)).mono ?_
  rintro e w1 ⟨rfl, rfl⟩
  obtain ⟨K, hK⟩ : ∃ K, k + n = K := ⟨_, rfl⟩
  rw [hK] at H2 ⊢
  have HK := Lib.hid hK
  have hKb : K ≤ 1099511627776 - 1048576 := by omega
  have hK0 : ¬ (K : Int) < 0 := by omega
  clear hK
  go_wp2_with fail
  refine (heldIntSS_any C m d K gs vss _ H2.out HL.out hm hb hKb).mono ?_
  rintro e w2 ⟨rfl, rfl⟩
  have hK1 : ¬ ((K + tot vss : Nat) : Int) < 0 := by omega
  go_wp2_with fail
  go_ret
  exact ⟨by rw [HK.out]; push_cast; rfl, HB.out⟩

end Go.Proofs.Ytchkmcikpamdeaa
