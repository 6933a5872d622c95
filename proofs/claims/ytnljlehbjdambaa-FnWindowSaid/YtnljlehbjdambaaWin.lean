/-
  Windows: the law file's helpers (szWindow, toWindow, eqWindow, markWindow, heldWindow), the powers of two, WindowOk of both packages.
-/
import Derived.Test.YtnljlehbjdambaaIn
import Derived.Test.YtnljlehbjdambaaSSW
namespace Go.Proofs.Ytnljlehbjdambaa
open Go.RowKit
set_option linter.unusedSimpArgs false
set_option linter.unusedVariables false

/-- 2 to the r. -/
def pw (r : Nat) : Int := ((2 ^ r : Nat) : Int)
theorem pw_succ (r : Nat) : pw (r + 1) = 2 * pw r := by unfold pw; rw [Nat.pow_succ]; omega
theorem pw_bd {r : Nat} (h : r ≤ 8) : 1 ≤ pw r ∧ pw r ≤ 256 := by
  have h1 : 2 ^ r ≤ 2 ^ 8 := Nat.pow_le_pow_right (by omega) h
  have h2 : 1 ≤ 2 ^ r := Nat.one_le_two_pow
  unfold pw; omega
/-- What a row of a window may be. -/
def rowB (r : Nat) (xs : List Int) : Bool := inB xs.length 1 3 && xs.all fun x => inB x 0 (pw r)
/-- What WindowOk answers. -/
def winB (xss : List (List Int)) : Bool := decide (xss.length ≤ 8) && (List.range xss.length).all fun r => rowB r (xss.getD r [])
theorem winB_long {xss : List (List Int)} (h : ¬ xss.length ≤ 8) : winB xss = false := by simp [winB, h]
theorem winB_bad {xss : List (List Int)} {r : Nat} {xs : List Int} (h : xss[r]? = some xs) (hb : rowB r xs = false) : winB xss = false := by
  obtain ⟨h1, h2⟩ := List.getElem?_eq_some_iff.1 h
  have : (List.range xss.length).all (fun r => rowB r (xss.getD r [])) = false := by
    rw [List.all_eq_false]
    exact ⟨r, List.mem_range.2 h1, by simp [List.getD, h, hb]⟩
  rw [winB, this, Bool.and_false]
theorem winB_good {xss : List (List Int)} (h : xss.length ≤ 8) (hg : ∀ r xs, xss[r]? = some xs → rowB r xs = true) : winB xss = true := by
  have : (List.range xss.length).all (fun r => rowB r (xss.getD r [])) = true := by
    rw [List.all_eq_true]
    intro r hr
    have hr' := List.mem_range.1 hr
    have := hg r xss[r] (List.getElem?_eq_getElem hr')
    simpa [List.getD, hr'] using this
  rw [winB, this, Bool.and_true, decide_eq_true h]
theorem winB_len {xss : List (List Int)} (h : winB xss = true) : xss.length ≤ 8 := by simp [winB] at h; exact h.1
theorem winB_row {xss : List (List Int)} (h : winB xss = true) {r : Nat} {xs : List Int} (hx : xss[r]? = some xs) : rowB r xs = true := by
  cases hb : rowB r xs
  · rw [winB_bad hx hb] at h; cases h
  · rfl
theorem rowB_len {r : Nat} {xs : List Int} (h : rowB r xs = true) : 1 ≤ xs.length ∧ xs.length ≤ 3 := by
  simp only [rowB, Bool.and_eq_true] at h
  have := inB_iff.1 h.1
  omega
theorem rowB_elem {r : Nat} {xs : List Int} (h : rowB r xs = true) {x : Int} (hx : x ∈ xs) : 0 ≤ x ∧ x ≤ pw r := by
  simp only [rowB, Bool.and_eq_true, List.all_eq_true] at h
  exact inB_iff.1 (h.2 x hx)
theorem rowB_yes {r : Nat} {xs : List Int} (h1 : inB xs.length 1 3 = true) (h2 : ∀ (j : Nat) (x : Int), xs[j]? = some x → inB x 0 (pw r) = true) : rowB r xs = true := by
  unfold rowB
  rw [h1, Bool.true_and, List.all_eq_true]
  intro x hx
  obtain ⟨j, hj⟩ := List.getElem?_of_mem hx
  exact h2 j x hj
theorem rowB_no1 {r : Nat} {xs : List Int} (h1 : inB xs.length 1 3 = false) : rowB r xs = false := by simp [rowB, h1]
theorem rowB_no2 {r j : Nat} {xs : List Int} {x : Int} (hx : xs[j]? = some x) (h : inB x 0 (pw r) = false) : rowB r xs = false := by
  have : xs.all (fun x => inB x 0 (pw r)) = false := by
    rw [List.all_eq_false]
    exact ⟨x, List.mem_of_getElem? hx, by simp [h]⟩
  simp [rowB, this]
theorem same_set {W : World} {lo hi b off : Nat} {u : Value} (h : b < lo ∨ hi ≤ b) : Same lo hi W (W.setCell ⟨b, off, none⟩ u) := fun k h1 h2 => heap_setCell_other W ⟨b, off, none⟩ k u (by simp; omega)

set_option maxHeartbeats 400000 in
theorem l16Power_any (r : Nat) (w : World) (hr : r ≤ 8) : Calls Try.prog 46 #[.int .i64 (r : Nat)] w fun e w' => e = .returned (.int .i64 (pw r)) ∧ w = w' := by
  go_enter Try.func46, Try.ntmps46
  go_wp2
  go_loop [3, 4] (fun v i => ∃ k : Nat, k ≤ r ∧ i = .int .i64 k ∧ v = .int .i64 (pw k)) (fun _ i => r - (intOf i).toNat)
  case atStart => exact ⟨0, Nat.zero_le _, rfl, rfl⟩
  case round =>
    obtain ⟨k, hk, rfl, rfl⟩ := hrel
    by_cases hlt : k < r
    · have hs := pw_succ k
      have hb := pw_bd (r := k) (by omega)
      obtain ⟨p, hp⟩ : ∃ p, pw k = p := ⟨_, rfl⟩
      rw [hp] at hs hb ⊢
      have HS := Lib.hid hs
      clear hs hp
      go_wp2
      go_round
      case rel => exact ⟨k + 1, by omega, by go_num, by rw [HS.out]; congr 1; omega⟩
      case measure => simp [intOf]; omega
    · obtain rfl : k = r := by omega
      go_wp2
      go_ret
      exact ⟨rfl, rfl⟩

set_option maxHeartbeats 400000 in
theorem szWindow_any (A : Option Addr) (n c : Nat) (hs : List Hd) (vss : List (List Value)) (left : Int) (w : World) (h0 : 0 ≤ left) (h1 : left ≤ 1048576) (hn : n ≤ 9223372036854775807) (h : RdSS w A n hs vss) (hb : ∀ x ∈ hs, x.2.1 ≤ 9223372036854775807) :
    Calls Try.prog 16 #[.agg #[.slice A n c], .int .i64 left] w fun e w' => e = .returned (.int .i64 (szI left ((n : Int) + (tot vss : Int)))) ∧ Below w.heap.size w w' := by
  have H := Lib.hid h
  have HB := Lib.hid hb
  clear h hb
  by_cases hl : left < (n : Int) + (tot vss : Int)
  · have HS := Lib.hid (szI_no hl)
    clear hl
    go_enter Try.func16, Try.ntmps16
    go_wp2_with fail
    refine (szIntSS_any A n c hs vss left _ h0 h1 hn (H.out.below (below_alloc1 _) (Nat.le_refl _)) HB.out).mono ?_
    rw [HS.out]
    rintro e w' ⟨rfl, rfl⟩
    go_wp2_with fail
    go_ret
    exact ⟨by rw [HS.out]; rfl, below_alloc1 _⟩
  · have hl' : (n : Int) + (tot vss : Int) ≤ left := by omega
    have HS := Lib.hid (szI_yes hl')
    clear hl
    go_enter Try.func16, Try.ntmps16
    go_wp2_with fail
    refine (szIntSS_any A n c hs vss left _ h0 h1 hn (H.out.below (below_alloc1 _) (Nat.le_refl _)) HB.out).mono ?_
    rw [HS.out]
    rintro e w' ⟨rfl, rfl⟩
    go_wp2_with fail
    go_ret
    exact ⟨by rw [HS.out]; rfl, below_alloc1 _⟩

theorem eqWindow_same (A C : Option Addr) (n c d : Nat) (hs gs : List Hd) (xss : List (List Int)) (w : World) (hx : RdSS w A n hs (iss xss)) (hy : RdSS w C n gs (iss xss)) (hn : n ≤ 1048576) (hb : totI xss ≤ 1048576) :
    Calls Try.prog 20 #[.agg #[.slice A n c], .agg #[.slice C n d]] w fun e w' => e = .returned (.bool true) ∧ Below w.heap.size w w' := by
  have H1 := Lib.hid hx
  have H2 := Lib.hid hy
  clear hx hy
  have HB := Lib.hid (Below.refl (w.heap.size + 1 + 1) ((w.alloc (.cells #[.slice A n c] 26)).alloc (.cells #[.slice C n d] 26)))
  go_enter Try.func20, Try.ntmps20
  go_wp2_with fail
  refine (lift (eqIntSS_same A C n c d hs gs xss _ (H1.out.below (B := w.heap.size) (by go_grown) (Nat.le_refl _)) (H2.out.below (B := w.heap.size) (by go_grown) (Nat.le_refl _)) hn hb) HB.out (by simp)).mono ?_
  rintro e w1 ⟨rfl, hb⟩
  have HB1 := Lib.hid hb
  clear hb
  go_wp2_with fail
  go_ret
  exact ⟨rfl, fin_below HB1.out (by go_grown) (by omega)⟩

set_option maxHeartbeats 400000 in
theorem markWindow_any (lo hi n c k : Nat) (A : Option Addr) (hs : List Hd) (vss : List (List Value)) (w : World) (h : OwSS lo hi w A n c hs vss) (hn : n ≤ 1048576) (hb : tot vss ≤ 1048576) (hk : k ≤ 1099511627776 - 1048576) (hh : hi ≤ w.heap.size) :
    Calls Try.prog 21 #[.agg #[.slice A n c], .int .i64 k] w fun e w' => e = .returned (.int .i64 ((k : Int) + (tot vss : Int))) ∧ OwSS lo hi w' A n c hs (marksSS k vss) ∧ Only lo hi w w' := by
  have H := Lib.hid h
  clear h
  go_enter Try.func21, Try.ntmps21
  go_wp2_with fail
  refine (markIntSS_any lo hi n c k A hs vss _ (H.out.same (same_alloc _ hh)) hn hb hk).mono ?_
  rintro e w1 ⟨rfl, o1, g1⟩
  have HO := Lib.hid o1
  have HG := Lib.hid g1
  clear o1 g1
  go_wp2_with fail
  go_ret
  exact ⟨rfl, HO.out, (Only.of_below (below_alloc1 _) (Nat.le_refl _)).trans HG.out⟩

theorem heldWindow_any (A : Option Addr) (n c k : Nat) (hs : List Hd) (vss : List (List Value)) (w : World) (h : RdSS w A n hs (marksSS k vss)) (hl : vss.length = n) (hn : n ≤ 1048576) (hb : tot vss ≤ 1048576) (hk : k ≤ 1099511627776 - 1048576) :
    Calls Try.prog 22 #[.agg #[.slice A n c], .int .i64 k] w fun e w' => e = .returned (.int .i64 ((k : Int) + (tot vss : Int))) ∧ Below w.heap.size w w' := by
  have H := Lib.hid h
  clear h
  go_enter Try.func22, Try.ntmps22
  go_wp2_with fail
  refine (heldIntSS_any A n c k hs vss _ (H.out.below (below_alloc1 _) (Nat.le_refl _)) hl hn hb hk).mono ?_
  rintro e w1 ⟨rfl, rfl⟩
  go_wp2_with fail
  go_ret
  exact ⟨rfl, by go_grown⟩

set_option maxHeartbeats 1000000 in
theorem toWindow_any (A : Option Addr) (n c : Nat) (hs : List Hd) (xss : List (List Int)) (w : World) (h : RdSS w A n hs (iss xss)) (hn : n ≤ 1048576) (hb : totI xss ≤ 1048576) :
    Calls Try.prog 18 #[.agg #[.slice A n c]] w fun e w' => ∃ g hs', e = .returned (.agg #[.slice (some ⟨g, 0, none⟩) n n]) ∧ OwSS w.heap.size w'.heap.size w' (some ⟨g, 0, none⟩) n n hs' (iss xss) ∧ Below w.heap.size w w' := by
  have H := Lib.hid h
  clear h
  have B0 := Below.refl w.heap.size w
  have s0 : w.heap.size ≤ w.heap.size := Nat.le_refl _
  go_enter Try.func18, Try.ntmps18
  have p_2 : Bx (w.alloc (.cells #[.slice A n c] 34)) (w.heap.size) 34 #[.slice A n c] := Bx.new _ _ _
  have B_2 := B0.alloc s0 (.cells #[.slice A n c] 34)
  clear B0
  have cp_3 := p_2.cells
  have fp_3 := p_2.free
  clear cp_3 fp_3
  have p_4 := p_2.same (same_alloc (.cells #[.slice none 0 0] 26) (by simp only [World.size_alloc]; omega))
  clear p_2
  have r_5 : Bx ((w.alloc (.cells #[.slice A n c] 34)).alloc (.cells #[.slice none 0 0] 26)) (w.heap.size + 1) 26 #[.slice none 0 0] := by
    have h := Bx.new (w.alloc (.cells #[.slice A n c] 34)) 26 #[.slice none 0 0]
    simpa only [World.size_alloc] using h
  have B_5 := B_2.alloc (by simp only [World.size_alloc]; omega) (.cells #[.slice none 0 0] 26)
  clear B_2
  have cp_6 := p_4.cells
  have fp_6 := p_4.free
  have cr_7 := r_5.cells
  have fr_7 := r_5.free
  clear cp_6 fp_6
  clear cr_7 fr_7
  have p_8 := p_4.same (same_alloc (.cells #[.slice none 0 0] 26) (by simp only [World.size_alloc]; omega))
  clear p_4
  have r_8 := r_5.same (same_alloc (.cells #[.slice none 0 0] 26) (by simp only [World.size_alloc]; omega))
  clear r_5
  have o_9 : Bx (((w.alloc (.cells #[.slice A n c] 34)).alloc (.cells #[.slice none 0 0] 26)).alloc (.cells #[.slice none 0 0] 26)) (w.heap.size + 1 + 1) 26 #[.slice none 0 0] := by
    have h := Bx.new ((w.alloc (.cells #[.slice A n c] 34)).alloc (.cells #[.slice none 0 0] 26)) 26 #[.slice none 0 0]
    simpa only [World.size_alloc] using h
  have B_9 := B_5.alloc (by simp only [World.size_alloc]; omega) (.cells #[.slice none 0 0] 26)
  clear B_5
  have cp_10 := p_8.cells
  have fp_10 := p_8.free
  have cr_11 := r_8.cells
  have fr_11 := r_8.free
  have co_12 := o_9.cells
  have fo_12 := o_9.free
  go_wp2_with fail
  refine (toIntSS_any A n c hs xss _ (H.out.below B_9 (Nat.le_refl _)) hn hb).mono ?_
  rintro e w1 ⟨hs', rfl, o, b⟩
  clear cp_10 fp_10
  clear cr_11 fr_11
  clear co_12 fo_12
  simp only [World.size_alloc] at b o
  have t_13 := b.size
  simp only [World.size_alloc] at t_13
  have z_13 : w.heap.size ≤ w1.heap.size := by omega
  have p_14 := p_8.same (same_below b (by omega))
  clear p_8
  have r_14 := r_8.same (same_below b (by omega))
  clear r_8
  have o_14 := o_9.same (same_below b (by omega))
  clear o_9
  have B_13 := B_9.trans (b.mono (by omega))
  clear B_9 b
  have q_13 := o
  clear o
  have cp_15 := p_14.cells
  have fp_15 := p_14.free
  have cr_16 := r_14.cells
  have fr_16 := r_14.free
  have co_17 := o_14.cells
  have fo_17 := o_14.free
  go_wp2_with fail
  have HB := Lib.hid B_13
  refine bodyPost_ret (v := .agg #[.slice (some ⟨w.heap.size + 1 + 1 + 1, 0, none⟩) n n]) (by simp [results, Try.results18, go_sem, cp_15, fp_15, cr_16, fr_16, co_17, fo_17]) rfl ⟨_, hs', rfl, ?_, ?_⟩
  · simpa [World.size_setCell] using ((q_13.same (same_set (by omega))).same (same_set (by omega))).wide (show w.heap.size ≤ w.heap.size + 1 + 1 + 1 by omega) (Nat.le_refl _)
  · have hB2 := HB.out
    go_grown

end Go.Proofs.Ytnljlehbjdambaa
