/-
  Proved: laws.FnGini returns true for every code. Conditions: none.
-/
import Derived.Test.YtfdpfeaegcfglaaDrawL
import Derived.Test.YtfdpfeaegcfglaaGini
import Derived.Test.YtfdpfeaegcfglaaObj
import Derived.Test.YtfdpfeaegcfglaaOpen
import Derived.Lib.QuietBelow
namespace Go.Proofs.Ytfdpfeaegcfglaa
open Go.ChangeShapes Go.WideShapes Go.ChangeAt Go.RowKit Go.Deep
namespace LawFGini
open Go.Sort
set_option linter.unusedSimpArgs false
set_option linter.unusedVariables false
/-- The first k values of a function, as a list. -/
def rowF (f : Nat → Int) (k : Nat) : List Int := (List.range k).map f
theorem rowF_succ (f : Nat → Int) (k : Nat) : rowF f (k + 1) = rowF f k ++ [f k] := by simp [rowF, List.range_succ]
theorem rowF_len (f : Nat → Int) (k : Nat) : (rowF f k).length = k := by simp [rowF]
def backF (xs : List Int) (j : Nat) : Int := xs.getD (xs.length - 1 - j) 0
def twiceF (xs : List Int) (j : Nat) : Int := xs.getD j 0 / 2 * 2
def halfF (xs : List Int) (j : Nat) : Int := xs.getD j 0 / 2
/-- How many of the first k are above 0. -/
def cntP (xs : List Int) : Nat → Nat
  | 0 => 0
  | k + 1 => cntP xs k + if 0 < xs.getD k 0 then 1 else 0
theorem cntP_le (xs : List Int) : ∀ k, cntP xs k ≤ k
  | 0 => Nat.le_refl _
  | k + 1 => by have := cntP_le xs k; simp only [cntP]; split <;> omega

theorem sq_three {xs : List Int} (h : ¬ sqI xs < 0) : xs.length ≤ 3 ∧ (∀ x ∈ xs, 0 ≤ x ∧ x ≤ 999) ∧ sqI xs = sqL xs := by
  unfold sqI at *
  split at h
  · rename_i hc
    exact ⟨hc.1, any_bad hc.2, by rw [if_pos hc]⟩
  · exact absurd h (by omega)
theorem sq_mk {xs : List Int} (h1 : xs.length ≤ 3) (h2 : ∀ x ∈ xs, 0 ≤ x ∧ x ≤ 999) : sqI xs = sqL xs := by
  unfold sqI
  rw [if_pos ⟨h1, List.any_eq_false.2 fun x hx => by simpa using (badW_iff x).2 (h2 x hx)⟩]
theorem len3 {xs : List Int} (h : xs.length ≤ 3) : xs = [] ∨ (∃ a, xs = [a]) ∨ (∃ a b, xs = [a, b]) ∨ (∃ a b c, xs = [a, b, c]) := by
  match xs, h with
  | [], _ => exact .inl rfl
  | [a], _ => exact .inr (.inl ⟨a, rfl⟩)
  | [a, b], _ => exact .inr (.inr (.inl ⟨a, b, rfl⟩))
  | [a, b, c], _ => exact .inr (.inr (.inr ⟨a, b, c, rfl⟩))
  | _ :: _ :: _ :: _ :: _, h => simp at h
theorem gini_eq {xs ys : List Int} (h1 : sqI xs = sqI ys) (h2 : xs.sum = ys.sum) : giniN xs = giniN ys ∧ giniD xs = giniD ys := by
  unfold giniN giniD
  rw [h1, h2]; exact ⟨rfl, rfl⟩
theorem back_same {xs : List Int} (h : ¬ sqI xs < 0) : sqI (rowF (backF xs) xs.length) = sqI xs ∧ (rowF (backF xs) xs.length).sum = xs.sum := by
  obtain ⟨h1, h2, h3⟩ := sq_three h
  rw [h3]
  rcases len3 h1 with rfl | ⟨a, rfl⟩ | ⟨a, b, rfl⟩ | ⟨a, b, c, rfl⟩
  · exact ⟨h3, rfl⟩
  · have e : rowF (backF [a]) [a].length = [a] := rfl
    rw [e, sq_mk h1 h2]; exact ⟨rfl, rfl⟩
  · have e : rowF (backF [a, b]) [a, b].length = [b, a] := rfl
    rw [e, sq_mk (by simp) (by simp at h2 ⊢; omega)]; simp [sqL]; omega
  · have e : rowF (backF [a, b, c]) [a, b, c].length = [c, b, a] := rfl
    rw [e, sq_mk (by simp) (by simp at h2 ⊢; omega)]; simp [sqL]; omega
theorem fracB_of {a b : Int} (h1 : 0 ≤ a) (h2 : a ≤ b) (h3 : 1 ≤ b) (h4 : b ≤ 4000000000000000) : fracB a b = true := by
  simp [fracB, inB]; omega
theorem low_facts {a b : Int} (h1 : 0 ≤ a) (h2 : a < b) (h4 : b ≤ 4000000000000000) : 0 ≤ lowN a b ∧ lowN a b < lowD a b ∧ (lowN a b = 0 ↔ a = 0) := by
  have hf := fracB_of h1 (Int.le_of_lt h2) (by omega) h4
  unfold lowN lowD
  rw [if_pos hf, if_pos hf]
  obtain ⟨A, rfl⟩ := Int.eq_ofNat_of_zero_le h1
  obtain ⟨B, rfl⟩ := Int.eq_ofNat_of_zero_le (show 0 ≤ b by omega)
  simp only [Int.toNat_natCast]
  have hB : 0 < B := by omega
  have hg : 0 < Nat.gcd A B := Nat.gcd_pos_of_pos_right A hB
  obtain ⟨p, hp⟩ := Nat.gcd_dvd_left A B
  obtain ⟨q, hq⟩ := Nat.gcd_dvd_right A B
  have e1 : A / Nat.gcd A B = p := by rw [Nat.div_eq_of_eq_mul_right hg hp]
  have e2 : B / Nat.gcd A B = q := by rw [Nat.div_eq_of_eq_mul_right hg hq]
  have f1 : (A : Int) / ((Nat.gcd A B : Nat) : Int) = (p : Int) := by rw [← Int.natCast_ediv, e1]
  have f2 : (B : Int) / ((Nat.gcd A B : Nat) : Int) = (q : Int) := by rw [← Int.natCast_ediv, e2]
  rw [f1, f2]
  have hAB : A < B := by omega
  refine ⟨by omega, ?_, ?_⟩
  · have : p < q := by
      rcases Nat.lt_or_ge p q with hlt | hge
      · exact hlt
      · have := Nat.mul_le_mul_left (Nat.gcd A B) hge
        omega
    omega
  · constructor
    · intro h
      have : p = 0 := by omega
      rw [this] at hp; simp at hp; omega
    · intro h
      have hA : A = 0 := by omega
      subst hA
      rw [Nat.zero_div] at e1; omega
theorem low_scale {a b : Int} (h1 : 0 ≤ a) (h2 : a ≤ b) (h3 : 1 ≤ b) (h4 : 4 * b ≤ 4000000000000000) : lowN (4 * a) (4 * b) = lowN a b ∧ lowD (4 * a) (4 * b) = lowD a b := by
  have hf := fracB_of h1 h2 h3 (by omega)
  have hf4 := fracB_of (a := 4 * a) (b := 4 * b) (by omega) (by omega) (by omega) h4
  unfold lowN lowD
  rw [if_pos hf, if_pos hf, if_pos hf4, if_pos hf4]
  obtain ⟨A, rfl⟩ := Int.eq_ofNat_of_zero_le h1
  obtain ⟨B, rfl⟩ := Int.eq_ofNat_of_zero_le (show 0 ≤ b by omega)
  have e1 : (4 * (A : Int)).toNat = 4 * A := by omega
  have e2 : (4 * (B : Int)).toNat = 4 * B := by omega
  rw [e1, e2, Nat.gcd_mul_left]
  simp only [Int.toNat_natCast, Int.natCast_mul]
  exact ⟨Int.mul_ediv_mul_of_pos _ _ (by decide), Int.mul_ediv_mul_of_pos _ _ (by decide)⟩
theorem gini_facts {xs : List Int} (h : ¬ sqI xs < 0) : 0 ≤ giniN xs ∧ giniN xs < giniD xs ∧ (giniN xs = 0 ↔ cntP xs xs.length ≤ 1) := by
  obtain ⟨h1, h2, h3⟩ := sq_three h
  have hq : sqI xs = sqL xs := h3
  have key : 0 ≤ xs.sum ∧ sqL xs ≤ xs.sum * xs.sum ∧ (xs.sum = 0 → cntP xs xs.length ≤ 1) ∧ (0 < xs.sum → 0 < sqL xs) ∧ (xs.sum * xs.sum - sqL xs = 0 ↔ cntP xs xs.length ≤ 1) ∧ xs.sum * xs.sum ≤ 4000000000000000 := by
    rcases len3 h1 with rfl | ⟨a, rfl⟩ | ⟨a, b, rfl⟩ | ⟨a, b, c, rfl⟩
    · simp [sqL, cntP]
    · have ha := h2 a (by simp)
      have m1 : a * a ≤ 999 * 999 := Int.mul_le_mul ha.2 ha.2 ha.1 (by decide)
      have m2 : 0 < a → 0 < a * a := fun h => Int.mul_pos h h
      simp [sqL, cntP]
      refine ⟨ha.1, by intro; split <;> omega, m2, by split <;> omega, by omega⟩
    · have ha := h2 a (by simp)
      have hb := h2 b (by simp)
      have e : (a + b) * (a + b) = a * a + b * b + 2 * (a * b) := by grind
      have m1 : (a + b) * (a + b) ≤ 1998 * 1998 := Int.mul_le_mul (by omega) (by omega) (by omega) (by decide)
      have p1 : 0 < a → 0 < a * a := fun h => Int.mul_pos h h
      have p2 : 0 < b → 0 < b * b := fun h => Int.mul_pos h h
      have p3 : 0 < a → 0 < b → 0 < a * b := fun h h' => Int.mul_pos h h'
      have n1 : 0 ≤ a * a := Int.mul_nonneg ha.1 ha.1
      have n2 : 0 ≤ b * b := Int.mul_nonneg hb.1 hb.1
      have z1 : a = 0 → a * b = 0 := fun h => by rw [h, Int.zero_mul]
      have z2 : b = 0 → a * b = 0 := fun h => by rw [h, Int.mul_zero]
      have n3 : 0 ≤ a * b := Int.mul_nonneg ha.1 hb.1
      simp only [sqL, cntP, List.sum_cons, List.sum_nil, List.map_cons, List.map_nil, List.length_cons, List.length_nil, Int.add_zero, List.getD_cons_zero, List.getD_cons_succ]
      generalize a * b = ab at *; generalize a * a = aa at *; generalize b * b = bb at *; generalize (a + b) * (a + b) = s at *
      refine ⟨by omega, by omega, ?_, by omega, ?_, by omega⟩ <;> (split <;> split <;> omega)
    · have ha := h2 a (by simp)
      have hb := h2 b (by simp)
      have hc := h2 c (by simp)
      have e : (a + (b + c)) * (a + (b + c)) = a * a + (b * b + c * c) + 2 * (a * b) + 2 * (a * c) + 2 * (b * c) := by grind
      have m1 : (a + (b + c)) * (a + (b + c)) ≤ 2997 * 2997 := Int.mul_le_mul (by omega) (by omega) (by omega) (by decide)
      have p1 : 0 < a → 0 < a * a := fun h => Int.mul_pos h h
      have p2 : 0 < b → 0 < b * b := fun h => Int.mul_pos h h
      have p3 : 0 < c → 0 < c * c := fun h => Int.mul_pos h h
      have q1 : 0 < a → 0 < b → 0 < a * b := fun h h' => Int.mul_pos h h'
      have q2 : 0 < a → 0 < c → 0 < a * c := fun h h' => Int.mul_pos h h'
      have q3 : 0 < b → 0 < c → 0 < b * c := fun h h' => Int.mul_pos h h'
      have n1 : 0 ≤ a * a := Int.mul_nonneg ha.1 ha.1
      have n2 : 0 ≤ b * b := Int.mul_nonneg hb.1 hb.1
      have n3 : 0 ≤ c * c := Int.mul_nonneg hc.1 hc.1
      have n4 : 0 ≤ a * b := Int.mul_nonneg ha.1 hb.1
      have n5 : 0 ≤ a * c := Int.mul_nonneg ha.1 hc.1
      have n6 : 0 ≤ b * c := Int.mul_nonneg hb.1 hc.1
      have z1 : a = 0 → a * b = 0 := fun h => by rw [h, Int.zero_mul]
      have z2 : b = 0 → a * b = 0 := fun h => by rw [h, Int.mul_zero]
      have z3 : a = 0 → a * c = 0 := fun h => by rw [h, Int.zero_mul]
      have z4 : c = 0 → a * c = 0 := fun h => by rw [h, Int.mul_zero]
      have z5 : b = 0 → b * c = 0 := fun h => by rw [h, Int.zero_mul]
      have z6 : c = 0 → b * c = 0 := fun h => by rw [h, Int.mul_zero]
      simp only [sqL, cntP, List.sum_cons, List.sum_nil, List.map_cons, List.map_nil, List.length_cons, List.length_nil, Int.add_zero, List.getD_cons_zero, List.getD_cons_succ]
      generalize a * b = ab at *; generalize a * a = aa at *; generalize b * b = bb at *; generalize a * c = ac at *; generalize b * c = bc at *; generalize c * c = cc at *; generalize (a + (b + c)) * (a + (b + c)) = s at *
      refine ⟨by omega, by omega, ?_, by omega, ?_, by omega⟩ <;> (split <;> split <;> split <;> omega)
  obtain ⟨k1, k2, k3, k4, k5, k6⟩ := key
  unfold giniN giniD
  rw [if_neg h, if_neg h, hq]
  by_cases hs : xs.sum = 0
  · rw [if_pos hs, if_pos hs]
    exact ⟨by omega, by omega, by simpa using k3 hs⟩
  · rw [if_neg hs, if_neg hs]
    have hp := k4 (by omega)
    obtain ⟨l1, l2, l3⟩ := low_facts (a := xs.sum * xs.sum - sqL xs) (b := xs.sum * xs.sum) (by omega) (by omega) k6
    exact ⟨l1, l2, l3.trans k5⟩
theorem sq_le_sum (xs : List Int) (h : ∀ x ∈ xs, 0 ≤ x ∧ x ≤ 999) : sqL xs ≤ xs.sum * xs.sum := by
  have key : 0 ≤ xs.sum ∧ sqL xs ≤ xs.sum * xs.sum := by
    induction xs with
    | nil => simp [sqL]
    | cons x xs ih =>
      obtain ⟨i1, i2⟩ := ih fun y hy => h y (by simp [hy])
      have hx := h x (by simp)
      have e : (x + xs.sum) * (x + xs.sum) = x * x + xs.sum * xs.sum + 2 * (x * xs.sum) := by grind
      have n := Int.mul_nonneg hx.1 i1
      unfold sqL at *
      simp only [List.map_cons, List.sum_cons]
      rw [e]; omega
  exact key.2
theorem half_bd {xs : List Int} (h : ∀ x ∈ xs, 0 ≤ x ∧ x ≤ 999) (j : Nat) : 0 ≤ xs.getD j 0 ∧ xs.getD j 0 ≤ 999 := by
  by_cases hj : j < xs.length
  · exact getD_bd h hj
  · simp [List.getD, List.getElem?_eq_none (by omega : xs.length ≤ j)]
theorem twice_half {xs : List Int} (h : ¬ sqI xs < 0) : giniN (rowF (twiceF xs) xs.length) = giniN (rowF (halfF xs) xs.length) ∧ giniD (rowF (twiceF xs) xs.length) = giniD (rowF (halfF xs) xs.length) := by
  obtain ⟨h1, h2, h3⟩ := sq_three h
  have hh : ∀ x ∈ rowF (halfF xs) xs.length, 0 ≤ x ∧ x ≤ 999 := by
    intro x hx
    obtain ⟨j, hj, rfl⟩ := List.mem_map.1 hx
    have := half_bd h2 j
    simp only [halfF]; omega
  have ht : ∀ x ∈ rowF (twiceF xs) xs.length, 0 ≤ x ∧ x ≤ 999 := by
    intro x hx
    obtain ⟨j, hj, rfl⟩ := List.mem_map.1 hx
    have := half_bd h2 j
    simp only [twiceF]; omega
  have q1 := sq_mk (xs := rowF (halfF xs) xs.length) (by rw [rowF_len]; exact h1) hh
  have q2 := sq_mk (xs := rowF (twiceF xs) xs.length) (by rw [rowF_len]; exact h1) ht
  have key : ∀ k, (rowF (twiceF xs) k).sum = 2 * (rowF (halfF xs) k).sum ∧ sqL (rowF (twiceF xs) k) = 4 * sqL (rowF (halfF xs) k) := by
    intro k
    induction k with
    | zero => simp [rowF, sqL]
    | succ k ih =>
      unfold sqL at *
      rw [rowF_succ, rowF_succ, List.sum_append, List.sum_append, List.map_append, List.map_append, List.sum_append, List.sum_append, ih.1, ih.2]
      simp only [List.map_cons, List.map_nil, List.sum_cons, List.sum_nil, Int.add_zero, twiceF, halfF]
      generalize xs.getD k 0 / 2 = y
      have e : y * 2 * (y * 2) = 4 * (y * y) := by grind
      rw [e]; omega
  obtain ⟨k1, k2⟩ := key xs.length
  have p1 := sqI_pos (xs := rowF (halfF xs) xs.length) (by rw [q1]; have := sqL_nonneg (rowF (halfF xs) xs.length); omega)
  have hf := gini_facts (xs := rowF (halfF xs) xs.length) (by rw [q1]; have := sqL_nonneg (rowF (halfF xs) xs.length); omega)
  unfold giniN giniD
  have n1 : ¬ sqI (rowF (twiceF xs) xs.length) < 0 := by rw [q2]; have := sqL_nonneg (rowF (twiceF xs) xs.length); omega
  have n2 : ¬ sqI (rowF (halfF xs) xs.length) < 0 := by rw [q1]; have := sqL_nonneg (rowF (halfF xs) xs.length); omega
  rw [if_neg n1, if_neg n1, if_neg n2, if_neg n2, q1, q2, k1, k2]
  by_cases hs : (rowF (halfF xs) xs.length).sum = 0
  · rw [hs]; simp
  · rw [if_neg hs, if_neg hs, if_neg (by omega), if_neg (by omega)]
    have e1 : 2 * (rowF (halfF xs) xs.length).sum * (2 * (rowF (halfF xs) xs.length).sum) = 4 * ((rowF (halfF xs) xs.length).sum * (rowF (halfF xs) xs.length).sum) := by grind
    have e2 : 4 * ((rowF (halfF xs) xs.length).sum * (rowF (halfF xs) xs.length).sum) - 4 * sqL (rowF (halfF xs) xs.length) = 4 * ((rowF (halfF xs) xs.length).sum * (rowF (halfF xs) xs.length).sum - sqL (rowF (halfF xs) xs.length)) := by omega
    rw [e1, e2]
    obtain ⟨_, _, _, s0, s1⟩ := p1
    have sm : (rowF (halfF xs) xs.length).sum * (rowF (halfF xs) xs.length).sum ≤ 2997 * 2997 := Int.mul_le_mul s1 s1 s0 (by decide)
    have sp : 0 < (rowF (halfF xs) xs.length).sum * (rowF (halfF xs) xs.length).sum := Int.mul_pos (by omega) (by omega)
    have sq : sqL (rowF (halfF xs) xs.length) ≤ (rowF (halfF xs) xs.length).sum * (rowF (halfF xs) xs.length).sum := sq_le_sum _ hh
    have nn := sqL_nonneg (rowF (halfF xs) xs.length)
    exact low_scale (by omega) (by omega) (by omega) (by omega)

theorem own_at {w : World} {base g n c : Nat} {e : TypeId} {xs : List Value} (h : w.ownsRow base e 1 (.slice (some ⟨g, 0, none⟩) n c) n xs) : Ow e g (g + 1) w (some ⟨g, 0, none⟩) n c xs :=
  ⟨own_reown h (fun k hk => by simp [Value.ownBlock] at hk; omega), fun k hk => by simp [Value.ownBlock] at hk; omega⟩
theorem own_nil_bx {w : World} {b : Nat} {e : TypeId} (h : Bx w b e #[]) : Ow e b (b + 1) w (some ⟨b, 0, none⟩) 0 0 [] :=
  ⟨⟨rfl, .inr ⟨b, 0, #[], rfl, Nat.le_refl _, h, Nat.le_refl _, by simp [maxLen], rfl, rfl⟩⟩, fun k hk => by simp [Value.ownBlock] at hk; omega⟩
theorem keep_grow {W w3 : World} {o : Obj} {gb lo hi : Nat} (hg : (W.alloc o).grownBy w3 (some gb)) (h : hi ≤ W.heap.size) (hr : gb < lo ∨ hi ≤ gb) : Same lo hi W w3 := fun k h1 h2 =>
  (hg.block k (by simp; omega) (by simp; omega)).trans (Below.heap_alloc W o k (by omega))
theorem ow_lt {e : TypeId} {g n c : Nat} {w : World} {xs : List Value} (h : Ow e g (g + 1) w (some ⟨g, 0, none⟩) n c xs) : g < w.heap.size := (h.own.lt g rfl).2
theorem row_is {W w3 : World} {gb n c : Nat} {o : Obj} (h : (W.alloc o).grownBy w3 (Value.slice (some ⟨gb, 0, none⟩) n c).ownBlock) : (W.alloc o).grownBy w3 (some gb) := h
theorem grow_below2 {B gb : Nat} {W w3 : World} {o : Obj} (hg : (W.alloc o).grownBy w3 (some gb)) (hB : B ≤ W.heap.size) (hgb : B ≤ gb) : Below B W w3 :=
  ((Below.refl B W).alloc hB o).grown hg (by simp; omega) (fun k hk => by simp at hk; omega)

theorem u8wf {z : Int} (h : (Lit.int .u8 z).wf = true) : 0 ≤ z ∧ z ≤ 255 := by
  simp [Lit.wf, IntKind.min, IntKind.max, IntKind.bits, IntKind.signed] at h
  omega

theorem big_no (A : Option Addr) (n c : Nat) (w : World) (h : n ≤ 1048576) : Calls Try.prog 15 #[.slice A n c] w fun e w' => e = .returned (.bool false) ∧ w = w' := by
  go_enter Try.func15, Try.ntmps15
  go_wp2
  go_ret
  exact ⟨by simp; omega, rfl⟩
theorem big_yes (A : Option Addr) (n c : Nat) (w : World) (h : ¬ n ≤ 1048576) : Calls Try.prog 15 #[.slice A n c] w fun e w' => e = .returned (.bool true) ∧ w = w' := by
  go_enter Try.func15, Try.ntmps15
  go_wp2
  go_ret
  exact ⟨by simp; omega, rfl⟩

set_option maxRecDepth 50000 in
set_option maxHeartbeats 8000000 in
theorem walkIn (w : World) (A : Option Addr) (n c : Nat) (xs : List Int) (hn : n ≤ 1048576) (HR : Hid (Rd w A n (xs.map (Value.int .u8)))) (HU : Hid (∀ z ∈ xs, 0 ≤ z ∧ z ≤ 255)) :
    Calls Try.prog 9 #[.slice A n c] w fun e w' => e = .returned (.bool true) ∧ Below w.heap.size w w' := by
  have B0 := Below.refl w.heap.size w
  have s0 : w.heap.size ≤ w.heap.size := Nat.le_refl _
  go_enter Try.func9, Try.ntmps9
  go_wp2_with fail
  refine (big_no A n c _ hn).mono ?_
  rintro e w1 ⟨rfl, rfl⟩
  go_wp2_with fail
  refine (sDrawGini_any A n c xs _ HR.out HU.out (by omega)).mono ?_
  rintro e w1 ⟨A', c', m, ys, rfl, hm, o, b⟩
  have t_1 := b.size
  have z_1 : w.heap.size ≤ w1.heap.size := by omega
  have B_1 := B0.trans (b.mono (by omega))
  clear B0 b
  have ys_1 := Ow.of o
  clear o
  obtain ⟨p, hp⟩ : ∃ p, giniN ys = p := ⟨_, rfl⟩
  obtain ⟨q, hq⟩ : ∃ q, giniD ys = q := ⟨_, rfl⟩
  have HL : Hid (ys.length = m) := by have := ys_1.rd.len; unfold Hid; simpa using this
  go_wp2_with fail
  refine (iGini_any A' m c' ys _ ys_1.rd (by omega)).mono ?_
  rw [hp, hq]
  rintro e w2 ⟨rfl, b⟩
  have t_3 := b.size
  have z_3 : w.heap.size ≤ w2.heap.size := by omega
  have ys_4 := ys_1.same (same_below b (by omega))
  clear ys_1
  have B_3 := B_1.trans (b.mono (by omega))
  clear B_1 b
  have ys_5 := ys_4.same (same_alloc (.cells #[.int .i64 p, .int .i64 q] 43) (by omega))
  clear ys_4
  have a_6 : Bx (w2.alloc (.cells #[.int .i64 p, .int .i64 q] 43)) (w2.heap.size) 43 #[.int .i64 p, .int .i64 q] := Bx.new _ _ _
  have B_6 := B_3.alloc z_3 (.cells #[.int .i64 p, .int .i64 q] 43)
  clear B_3
  have ca_7 := a_6.cells
  have fa_7 := a_6.free
  clear ca_7 fa_7
  have ys_8 := ys_5.same (same_alloc (.cells #[] 3) (by simp only [World.size_alloc]; omega))
  clear ys_5
  have a_8 := a_6.same (same_alloc (.cells #[] 3) (by simp only [World.size_alloc]; omega))
  clear a_6
  have bk_9 : Bx ((w2.alloc (.cells #[.int .i64 p, .int .i64 q] 43)).alloc (.cells #[] 3)) (w2.heap.size + 1) 3 #[] := by
    have h := Bx.new (w2.alloc (.cells #[.int .i64 p, .int .i64 q] 43)) 3 #[]
    simpa only [World.size_alloc] using h
  have B_9 := B_6.alloc (by simp only [World.size_alloc]; omega) (.cells #[] 3)
  clear B_6
  have ca_10 := a_8.cells
  have fa_10 := a_8.free
  have cbk_11 := bk_9.cells
  have fbk_11 := bk_9.free
  clear ca_10 fa_10
  clear cbk_11 fbk_11
  have ys_12 := ys_8.same (same_alloc (.cells #[] 3) (by simp only [World.size_alloc]; omega))
  clear ys_8
  have a_12 := a_8.same (same_alloc (.cells #[] 3) (by simp only [World.size_alloc]; omega))
  clear a_8
  have bk_12 := bk_9.same (same_alloc (.cells #[] 3) (by simp only [World.size_alloc]; omega))
  clear bk_9
  have tw_13 : Bx (((w2.alloc (.cells #[.int .i64 p, .int .i64 q] 43)).alloc (.cells #[] 3)).alloc (.cells #[] 3)) (w2.heap.size + 1 + 1) 3 #[] := by
    have h := Bx.new ((w2.alloc (.cells #[.int .i64 p, .int .i64 q] 43)).alloc (.cells #[] 3)) 3 #[]
    simpa only [World.size_alloc] using h
  have B_13 := B_9.alloc (by simp only [World.size_alloc]; omega) (.cells #[] 3)
  clear B_9
  have ca_14 := a_12.cells
  have fa_14 := a_12.free
  have cbk_15 := bk_12.cells
  have fbk_15 := bk_12.free
  have ctw_16 := tw_13.cells
  have ftw_16 := tw_13.free
  clear ca_14 fa_14
  clear cbk_15 fbk_15
  clear ctw_16 ftw_16
  have HYs := Lib.hid ys_12; have HA := Lib.hid a_12; have HTw := Lib.hid tw_13; have HBk := Lib.hid (own_nil_bx bk_12); have HAcc := Lib.hid B_13
  clear ys_12 a_12 tw_13 bk_12 B_13
  have HP := Lib.hid hp; have HQ := Lib.hid hq
  clear hp hq
  obtain ⟨i0, hi0, hz0, hz1, hz2⟩ := info_parts info_int
  have HI := Lib.hid hi0; have HZ := Lib.hid hz0; have HZ1 := Lib.hid hz1; have HZ2 := Lib.hid hz2
  clear hi0 hz0 hz1 hz2
  go_wp2_with fail
  go_loopw [5, 7, 8] (fun bk sm i wr => ∃ (k gb cb : Nat), k ≤ m ∧ i = .int .i64 k ∧ sm = .int .i64 (cntP ys k : Nat) ∧ bk = .slice (some ⟨gb, 0, none⟩) k cb ∧ w2.heap.size + 1 ≤ gb ∧ gb ≠ w2.heap.size + 2 ∧
    Ow 3 gb (gb + 1) wr (some ⟨gb, 0, none⟩) k cb ((rowF (backF ys) k).map (Value.int .i64)) ∧ Ow 3 (w.heap.size) (w1.heap.size) wr A' m c' (ys.map (Value.int .i64)) ∧ Bx wr w2.heap.size 43 #[.int .i64 p, .int .i64 q] ∧ Bx wr (w2.heap.size + 2) 3 #[] ∧ Below w.heap.size w wr) (fun _ _ i _ => m - (intOf i).toNat)
  case atStart =>
    refine ⟨0, _, 0, Nat.zero_le _, rfl, rfl, rfl, ?_, ?_, HBk.out, HYs.out, HA.out, HTw.out, HAcc.out⟩
    · exact Nat.le_refl _
    · omega
  case round =>
    obtain ⟨k, gb, cb, hk, rfl, rfl, rfl, hgb, hgt, hbk, hys, ha, htw, hbel⟩ := hrel
    have HBk1 := Lib.hid hbk; have HYs1 := Lib.hid hys; have HA1 := Lib.hid ha; have HTw1 := Lib.hid htw; have HB1 := Lib.hid hbel
    have hct := cntP_le ys k
    clear hbk hys ha htw hbel HBk HYs HA HTw
    by_cases hlt : k < m
    · obtain ⟨b, off, rfl, hbl, hc⟩ := HYs1.out.rd.ex (by omega)
      have hcell : wr.cell? ⟨b, off + (m - 1 - k), none⟩ = some (.int .i64 (backF ys k)) := by
        rw [hc (m - 1 - k) _ (getCell (by rw [HL.out]; omega))]; simp only [backF, HL.out]
      obtain ⟨y, hy⟩ : ∃ y, backF ys k = y := ⟨_, rfl⟩
      obtain ⟨x, hx⟩ : ∃ x, ys.getD k 0 = x := ⟨_, rfl⟩
      rw [hy] at hcell
      have HY := Lib.hid hy; have HX := Lib.hid hx
      have hs1 := ow_lt HBk1.out
      have hs2 := HTw1.out.lt
      have hs3 := HB1.out.size
      have n1 : (k : Int) < (m : Int) := by omega
      have n2 : ((m : Int) - 1 - (k : Int)).toNat = m - 1 - k := by omega
      have n3 : 0 ≤ (m : Int) - 1 - (k : Int) := by omega
      have n4 : (m : Int) - 1 - (k : Int) < (m : Int) := by omega
      clear hc hy hx
      go_wp2_with (at_builtin; refine wpList_append_lies _ rfl _ _ 27 rfl gb 3 i0 (.int .i64 0) 1 8 Try.underlying27 HI.out HZ.out HZ1.out HZ2.out rfl (by decide) (.slice (some ⟨gb, 0, none⟩) k cb) k ((rowF (backF ys) k).map (Value.int .i64)) rfl (HBk1.out.own.alloc _) ⟨wr.heap.size, 0, none⟩ 1 1 [.int .i64 y] rfl rfl ?c1 ?c2 (by decide) ?c3 ?c4 ?c5 _ rfl ?_)
      case c1 => exact cell_one_new _ _ _
      case c2 => intro u hu; simp at hu; subst hu; rfl
      case c3 => unfold maxLen; omega
      case c4 => omega
      case c5 => simp; omega
      · intro g' cap w3 hown3 hgrow0 hat _
        have hgrow := row_is hgrow0
        clear hgrow0
        have HBk3 : Hid (Ow 3 g' (g' + 1) w3 (some ⟨g', 0, none⟩) (k + 1) cap ((rowF (backF ys) (k + 1)).map (Value.int .i64))) := own_at (by rw [rowF_succ, List.map_append, HY.out]; exact hown3)
        have hg' : w2.heap.size + 1 ≤ g' ∧ g' ≠ w2.heap.size + 2 := by
          rcases hat with h | h
          · simp [Value.ownBlock] at h; omega
          · have h' : g' = wr.heap.size + 1 := by simpa using h
            omega
        have HYs3 := Lib.hid (HYs1.out.same (keep_grow hgrow (by omega) (by omega)))
        have HA3 := Lib.hid (HA1.out.same (keep_grow hgrow (by omega) (by omega)))
        have HTw3 := Lib.hid (HTw1.out.same (keep_grow hgrow (by omega) (by omega)))
        have HB3 := Lib.hid (HB1.out.trans (grow_below2 hgrow (by omega) (by omega)))
        have hcell : w3.cell? ⟨b, off + k, none⟩ = some (.int .i64 x) := by
          obtain ⟨b', off', e', _, hc⟩ := HYs3.out.rd.ex (by omega)
          injection e' with e'
          injection e' with e1 e2
          subst e1 e2
          rw [hc k _ (getCell (by rw [HL.out]; omega)), HX.out]
        clear hown3 hgrow hat HBk1 HYs1 HA1 HTw1 HB1 n2 n3 n4
        by_cases hpos : 0 < x
        · have HCt := Lib.hid (show (cntP ys (k + 1) : Int) = cntP ys k + 1 by simp only [cntP, HX.out, if_pos hpos]; omega)
          go_wp2_with fail
          go_roundw
          case rel => exact ⟨k + 1, g', cap, by omega, by go_num, by rw [HCt.out], rfl, hg'.1, hg'.2, HBk3.out, HYs3.out, HA3.out, HTw3.out, HB3.out⟩
          case measure => simp [intOf]; omega
        · have HCt := Lib.hid (show (cntP ys (k + 1) : Int) = cntP ys k by simp only [cntP, HX.out, if_neg hpos]; omega)
          go_wp2_with fail
          go_roundw
          case rel => exact ⟨k + 1, g', cap, by omega, by go_num, by rw [HCt.out], rfl, hg'.1, hg'.2, HBk3.out, HYs3.out, HA3.out, HTw3.out, HB3.out⟩
          case measure => simp [intOf]; omega
    · obtain rfl : k = m := by omega
      have hs1 := ow_lt HBk1.out
      have hs2 := HTw1.out.lt
      have hs3 := HB1.out.size
      by_cases hv : sqI ys < 0
      · have e := sqI_neg hv
        have HP0 := Lib.hid (show p = 0 by rw [← HP.out]; simp [giniN, hv])
        have HQ0 := Lib.hid (show q = 0 by rw [← HQ.out]; simp [giniD, hv])
        go_wp2_with fail
        refine (sSquares_any A' k c' ys _ HYs1.out.rd (by omega)).mono ?_
        rw [e]
        rintro e' v1 ⟨rfl, hb⟩
        have hA := (HA1.out.same (same_below hb (by omega)))
        have ca := hA.cells 0
        have cb' := hA.cells 1
        rw [HP0.out] at ca; rw [HQ0.out] at cb'
        have HYs4 := Lib.hid (HYs1.out.rd.below hb (Nat.le_refl _))
        have HB4 := Lib.hid (HB1.out.trans (hb.mono (by omega)))
        clear hA hb
        go_wp2_with fail
        refine (iSquares_any A' k c' ys _ HYs4.out (by omega)).mono ?_
        rw [e]
        rintro e' _ ⟨rfl, rfl⟩
        go_wp2_with fail
        go_ret
        exact ⟨rfl, HB4.out⟩
      · have hsq := (sqI_pos hv).2.1
        obtain ⟨hf1, hf2, hf3⟩ := gini_facts hv
        have hbs := back_same hv
        have hbg := gini_eq hbs.1 hbs.2
        have hth := twice_half hv
        rw [HL.out] at hbg hth hf3
        rw [HP.out, HQ.out] at hbg
        rw [HP.out] at hf1 hf2 hf3
        rw [HQ.out] at hf2
        have HBg := Lib.hid hbg; have HTh := Lib.hid hth; have HF3 := Lib.hid hf3
        have hm3 : k ≤ 3 := by have := (sq_three hv).1; rw [HL.out] at this; exact this
        have HBd := Lib.hid (sq_three hv).2.1
        obtain ⟨sq, hsq'⟩ : ∃ sq, sqI ys = sq := ⟨_, rfl⟩
        rw [hsq'] at hsq
        clear hbs hbg hth hf3 hv
        go_wp2_with fail
        refine (sSquares_any A' k c' ys _ HYs1.out.rd (by omega)).mono ?_
        rw [hsq']
        rintro e' v1 ⟨rfl, hb⟩
        have hsz := hb.size
        have HBk2 := Lib.hid (HBk1.out.same (same_below hb (by omega)))
        have HYs2 := Lib.hid (HYs1.out.same (same_below hb (by omega)))
        have HA2 := Lib.hid (HA1.out.same (same_below hb (by omega)))
        have HTw2 := Lib.hid (own_nil_bx (HTw1.out.same (same_below hb (by omega))))
        have HB2 := Lib.hid (HB1.out.trans (hb.mono (by omega)))
        clear hb HBk1 HYs1 HA1 HTw1 HB1
        go_wp2_with fail
        go_loopw [6, 9] (fun tw i wr => ∃ (j gt ct : Nat), j ≤ k ∧ i = .int .i64 j ∧ tw = .slice (some ⟨gt, 0, none⟩) j ct ∧ w2.heap.size + 1 ≤ gt ∧ gt ≠ gb ∧ Ow 3 gt (gt + 1) wr (some ⟨gt, 0, none⟩) j ct ((rowF (twiceF ys) j).map (Value.int .i64)) ∧ Ow 3 (w.heap.size) (w1.heap.size) wr A' k c' (ys.map (Value.int .i64)) ∧ Bx wr w2.heap.size 43 #[.int .i64 p, .int .i64 q] ∧ Ow 3 gb (gb + 1) wr (some ⟨gb, 0, none⟩) k cb ((rowF (backF ys) k).map (Value.int .i64)) ∧ Below w.heap.size w wr) (fun _ i _ => k - (intOf i).toNat)
        case atStart =>
          refine ⟨0, _, 0, Nat.zero_le _, rfl, rfl, ?_, ?_, HTw2.out, HYs2.out, HA2.out, HBk2.out, HB2.out⟩
          all_goals omega
        case round =>
          obtain ⟨j, gt, ct, hj, rfl, rfl, hgt, hnbk, htw, hys, ha, hbk, hbel⟩ := hrel
          have HRow := Lib.hid htw; have Gys := Lib.hid hys; have Ga := Lib.hid ha; have Gbk := Lib.hid hbk; have HB5 := Lib.hid hbel
          clear htw hys ha hbk hbel
          have hs5 := ow_lt HRow.out
          have hs6 := HB5.out.size
          by_cases hlt : j < k
          · obtain ⟨b, off, rfl, hbl, hc⟩ := Gys.out.rd.ex (by omega)
            have hcell : wr.cell? ⟨b, off + j, none⟩ = some (.int .i64 (ys.getD j 0)) := hc j _ (getCell (by rw [HL.out]; omega))
            have hbd := half_bd HBd.out j
            obtain ⟨x, hx⟩ : ∃ x, ys.getD j 0 = x := ⟨_, rfl⟩
            rw [hx] at hcell hbd
            have HX := Lib.hid hx
            have n0 : 0 ≤ x := hbd.1
            have n1 : x ≤ 999 := hbd.2
            have n2 : (j : Int) < (k : Int) := by omega
            have hlbk := ow_lt Gbk.out
            have hla := Ga.out.lt
            clear hc hx hbd
            go_wp2_with (at_builtin; refine wpList_append_lies _ rfl _ _ 27 rfl gt 3 i0 (.int .i64 0) 1 8 Try.underlying27 HI.out HZ.out HZ1.out HZ2.out rfl (by decide) (.slice (some ⟨gt, 0, none⟩) j ct) j ((rowF (twiceF ys) j).map (Value.int .i64)) rfl (HRow.out.own.alloc _) ⟨wr.heap.size, 0, none⟩ 1 1 [.int .i64 (x / 2 * 2)] rfl rfl ?c1 ?c2 (by decide) ?c3 ?c4 ?c5 _ rfl ?_)
            case c1 => exact cell_one_new _ _ _
            case c2 => intro u hu; simp at hu; subst hu; rfl
            case c3 => unfold maxLen; omega
            case c4 => omega
            case c5 => simp; omega
            · intro g' cap w3 hown3 hgrow0 hat _
              have hgrow := row_is hgrow0
              clear hgrow0
              have HRow3 : Hid (Ow 3 g' (g' + 1) w3 (some ⟨g', 0, none⟩) (j + 1) cap ((rowF (twiceF ys) (j + 1)).map (Value.int .i64))) := own_at (by rw [rowF_succ, List.map_append]; simpa only [twiceF, HX.out, List.map_cons, List.map_nil] using hown3)
              have hg' : w2.heap.size + 1 ≤ g' ∧ g' ≠ gb := by
                rcases hat with h | h
                · simp [Value.ownBlock] at h; omega
                · have h' : g' = wr.heap.size + 1 := by simpa using h
                  omega
              have Kys := Lib.hid (Gys.out.same (keep_grow hgrow (by omega) (by omega))); have Ka := Lib.hid (Ga.out.same (keep_grow hgrow (by omega) (by omega))); have Kbk := Lib.hid (Gbk.out.same (keep_grow hgrow (by omega) (by omega)))
              have HB6 := Lib.hid (HB5.out.trans (grow_below2 hgrow (by omega) (by omega)))
              clear hown3 hgrow hat
              go_wp2_with fail
              go_roundw
              case rel => exact ⟨j + 1, g', cap, by omega, by go_num, rfl, hg'.1, hg'.2, HRow3.out, Kys.out, Ka.out, Kbk.out, HB6.out⟩
              case measure => simp [intOf]; omega
          · obtain rfl : j = k := by omega
            have HRow2 : Hid (Ow 3 gt (gt + 1) wr (some ⟨gt, 0, none⟩) j ct ((rowF (twiceF ys) j).map (Value.int .i64))) := HRow.out
            have hlbk := ow_lt Gbk.out
            have hla := Ga.out.lt
            have HNew := Lib.hid (own_nil_bx (Bx.new wr 3 #[]))
            have Hys7 := Lib.hid (Gys.out.same (same_alloc (.cells #[] 3) (by omega)))
            have Ha7 := Lib.hid (Ga.out.same (same_alloc (.cells #[] 3) (by omega)))
            have Hbk7 := Lib.hid (Gbk.out.same (same_alloc (.cells #[] 3) (by omega)))
            have Htw7 := Lib.hid (HRow2.out.same (same_alloc (.cells #[] 3) (by omega)))
            have HB7 := Lib.hid (HB5.out.alloc hs6 (.cells #[] 3))
            clear Gys Ga Gbk HRow HRow2 HB5
            go_wp2_with fail
            go_loopw [10, 11] (fun tw i wr => ∃ (i3 gh ch : Nat), i3 ≤ j ∧ i = .int .i64 i3 ∧ tw = .slice (some ⟨gh, 0, none⟩) i3 ch ∧ w2.heap.size + 1 ≤ gh ∧ gh ≠ gb ∧ gh ≠ gt ∧ Ow 3 gh (gh + 1) wr (some ⟨gh, 0, none⟩) i3 ch ((rowF (halfF ys) i3).map (Value.int .i64)) ∧ Ow 3 (w.heap.size) (w1.heap.size) wr A' j c' (ys.map (Value.int .i64)) ∧ Bx wr w2.heap.size 43 #[.int .i64 p, .int .i64 q] ∧ Ow 3 gb (gb + 1) wr (some ⟨gb, 0, none⟩) j cb ((rowF (backF ys) j).map (Value.int .i64)) ∧ Ow 3 gt (gt + 1) wr (some ⟨gt, 0, none⟩) j ct ((rowF (twiceF ys) j).map (Value.int .i64)) ∧ Below w.heap.size w wr) (fun _ i _ => j - (intOf i).toNat)
            case atStart =>
              refine ⟨0, _, 0, Nat.zero_le _, rfl, rfl, ?_, ?_, ?_, HNew.out, Hys7.out, Ha7.out, Hbk7.out, Htw7.out, HB7.out⟩
              all_goals omega
            case round =>
              obtain ⟨i3, gh, ch, hi3, rfl, rfl, hgh, hnbk, hntw, hrow, hys, ha, hbk, htw, hbel⟩ := hrel
              have HRow := Lib.hid hrow; have Gys := Lib.hid hys; have Ga := Lib.hid ha; have Gbk := Lib.hid hbk; have Gtw := Lib.hid htw; have HB5 := Lib.hid hbel
              clear hrow hys ha hbk htw hbel
              have hs5 := ow_lt HRow.out
              have hs6 := HB5.out.size
              by_cases hlt : i3 < j
              · obtain ⟨b, off, rfl, hbl, hc⟩ := Gys.out.rd.ex (by omega)
                have hcell : wr.cell? ⟨b, off + i3, none⟩ = some (.int .i64 (ys.getD i3 0)) := hc i3 _ (getCell (by rw [HL.out]; omega))
                have hbd := half_bd HBd.out i3
                obtain ⟨x, hx⟩ : ∃ x, ys.getD i3 0 = x := ⟨_, rfl⟩
                rw [hx] at hcell hbd
                have HX := Lib.hid hx
                have n0 : 0 ≤ x := hbd.1
                have n1 : x ≤ 999 := hbd.2
                have n2 : (i3 : Int) < (j : Int) := by omega
                have hlbk := ow_lt Gbk.out; have hltw := ow_lt Gtw.out
                have hla := Ga.out.lt
                clear hc hx hbd
                go_wp2_with (at_builtin; refine wpList_append_lies _ rfl _ _ 27 rfl gh 3 i0 (.int .i64 0) 1 8 Try.underlying27 HI.out HZ.out HZ1.out HZ2.out rfl (by decide) (.slice (some ⟨gh, 0, none⟩) i3 ch) i3 ((rowF (halfF ys) i3).map (Value.int .i64)) rfl (HRow.out.own.alloc _) ⟨wr.heap.size, 0, none⟩ 1 1 [.int .i64 (x / 2)] rfl rfl ?c1 ?c2 (by decide) ?c3 ?c4 ?c5 _ rfl ?_)
                case c1 => exact cell_one_new _ _ _
                case c2 => intro u hu; simp at hu; subst hu; rfl
                case c3 => unfold maxLen; omega
                case c4 => omega
                case c5 => simp; omega
                · intro g' cap w3 hown3 hgrow0 hat _
                  have hgrow := row_is hgrow0
                  clear hgrow0
                  have HRow3 : Hid (Ow 3 g' (g' + 1) w3 (some ⟨g', 0, none⟩) (i3 + 1) cap ((rowF (halfF ys) (i3 + 1)).map (Value.int .i64))) := own_at (by rw [rowF_succ, List.map_append]; simpa only [halfF, HX.out, List.map_cons, List.map_nil] using hown3)
                  have hg' : w2.heap.size + 1 ≤ g' ∧ g' ≠ gb ∧ g' ≠ gt := by
                    rcases hat with h | h
                    · simp [Value.ownBlock] at h; omega
                    · have h' : g' = wr.heap.size + 1 := by simpa using h
                      omega
                  have Kys := Lib.hid (Gys.out.same (keep_grow hgrow (by omega) (by omega))); have Ka := Lib.hid (Ga.out.same (keep_grow hgrow (by omega) (by omega))); have Kbk := Lib.hid (Gbk.out.same (keep_grow hgrow (by omega) (by omega))); have Ktw := Lib.hid (Gtw.out.same (keep_grow hgrow (by omega) (by omega)))
                  have HB6 := Lib.hid (HB5.out.trans (grow_below2 hgrow (by omega) (by omega)))
                  clear hown3 hgrow hat
                  go_wp2_with fail
                  go_roundw
                  case rel => exact ⟨i3 + 1, g', cap, by omega, by go_num, rfl, hg'.1, hg'.2.1, hg'.2.2, HRow3.out, Kys.out, Ka.out, Kbk.out, Ktw.out, HB6.out⟩
                  case measure => simp [intOf]; omega
              · obtain rfl : i3 = j := by omega
                have f0 := cell_regrown (w := wr) (a := ⟨w2.heap.size, 0, none⟩) (v := Value.int .i64 p) (Ga.out.cells 0)
                have f1 := cell_regrown (w := wr) (a := ⟨w2.heap.size, 1, none⟩) (v := Value.int .i64 q) (Ga.out.cells 1)
                obtain ⟨r, hr⟩ : ∃ r, giniN (rowF (halfF ys) i3) = r := ⟨_, rfl⟩
                obtain ⟨s, hs⟩ : ∃ s, giniD (rowF (halfF ys) i3) = s := ⟨_, rfl⟩
                have HH := Lib.hid (And.intro hr hs)
                have HT : Hid (giniN (rowF (twiceF ys) i3) = r ∧ giniD (rowF (twiceF ys) i3) = s) := by
                  unfold Hid
                  rw [HTh.out.1, HTh.out.2]; exact ⟨hr, hs⟩
                clear hr hs
                have cB : ∀ d os, Calls Try.prog 37 #[.slice (some ⟨gb, 0, none⟩) i3 cb] (grow (redrawn wr d) os) fun e w'' => e = .returned (.agg #[.int .i64 p, .int .i64 q]) ∧ ∃ p : Regrown, w'' = grow (redrawn wr p.d) p.os := fun d os => Calls.regrown_of (by
                  have h := iGini_any _ i3 cb (rowF (backF ys) i3) (grow (redrawn wr d) os) (Gbk.out.rd.below (below_regrown wr d os) (Nat.le_refl _)) (by omega)
                  rw [HBg.out.1, HBg.out.2] at h
                  exact h)
                have cT : ∀ d os, Calls Try.prog 37 #[.slice (some ⟨gt, 0, none⟩) i3 ct] (grow (redrawn wr d) os) fun e w'' => e = .returned (.agg #[.int .i64 r, .int .i64 s]) ∧ ∃ p : Regrown, w'' = grow (redrawn wr p.d) p.os := fun d os => Calls.regrown_of (by
                  have h := iGini_any _ i3 ct (rowF (twiceF ys) i3) (grow (redrawn wr d) os) (Gtw.out.rd.below (below_regrown wr d os) (Nat.le_refl _)) (by omega)
                  rw [HT.out.1, HT.out.2] at h
                  exact h)
                have cH : ∀ d os, Calls Try.prog 37 #[.slice (some ⟨gh, 0, none⟩) i3 ch] (grow (redrawn wr d) os) fun e w'' => e = .returned (.agg #[.int .i64 r, .int .i64 s]) ∧ ∃ p : Regrown, w'' = grow (redrawn wr p.d) p.os := fun d os => Calls.regrown_of (by
                  have h := iGini_any _ i3 ch (rowF (halfF ys) i3) (grow (redrawn wr d) os) (HRow.out.rd.below (below_regrown wr d os) (Nat.le_refl _)) (by omega)
                  rw [HH.out.1, HH.out.2] at h
                  exact h)
                have hp0 : (p = 0 ∧ cntP ys i3 ≤ 1) ∨ (¬ p = 0 ∧ ¬ cntP ys i3 ≤ 1) := by
                  by_cases hc : cntP ys i3 ≤ 1
                  · exact .inl ⟨HF3.out.2 hc, hc⟩
                  · exact .inr ⟨fun h => hc (HF3.out.1 h), hc⟩
                have hp1 : (p = 0 ∧ (cntP ys i3 : Int) ≤ 1) ∨ (¬ p = 0 ∧ ¬ (cntP ys i3 : Int) ≤ 1) := by omega
                clear hp0
                rcases hp1 with ⟨k1, k2⟩ | ⟨k1, k2⟩
                · subst k1
                  have d1 : decide ((0 : Int) < q) = true := decide_eq_true hf2
                  have d2 : decide ((cntP ys i3 : Int) ≤ 1) = true := decide_eq_true k2
                  go_wp2_with fail
                  refine wp_region_quiet_below (by kernel_rfl) (by kernel_rfl) ?_
                  repeat (first | go_big_quiet_step (first | with_reducible exact cB _ _ | with_reducible exact cT _ _ | with_reducible exact cH _ _) | quiet_step (first | with_reducible exact cB _ _ | with_reducible exact cT _ _ | with_reducible exact cH _ _))
                  refine wpQuiet_nil ?_
                  intro _ hw'
                  obtain ⟨⟨dq, osq⟩, hw''⟩ := hw'
                  subst hw''
                  go_wp2
                  go_ret
                  exact ⟨rfl, HB5.out.trans ((below_regrown _ dq osq).mono hs6)⟩
                · have d1 : decide (p < q) = true := decide_eq_true hf2
                  have d0 : decide (0 ≤ p) = true := decide_eq_true hf1
                  have d2 : decide ((cntP ys i3 : Int) ≤ 1) = false := decide_eq_false k2
                  have d3 : (p == 0) = false := by simp [k1]
                  have d4 : decide (p = 0) = false := decide_eq_false k1
                  go_wp2_with fail
                  refine wp_region_quiet_below (by kernel_rfl) (by kernel_rfl) ?_
                  repeat (first | go_big_quiet_step (first | with_reducible exact cB _ _ | with_reducible exact cT _ _ | with_reducible exact cH _ _) | quiet_step (first | with_reducible exact cB _ _ | with_reducible exact cT _ _ | with_reducible exact cH _ _))
                  refine wpQuiet_nil ?_
                  intro _ hw'
                  obtain ⟨⟨dq, osq⟩, hw''⟩ := hw'
                  subst hw''
                  go_wp2
                  go_ret
                  exact ⟨rfl, HB5.out.trans ((below_regrown _ dq osq).mono hs6)⟩

theorem walk (w : World) (A : Option Addr) (n c : Nat) (xs : List Int) (hl : n ≤ c) (hm : c ≤ maxLen) (hr : Rd w A n (xs.map (Value.int .u8))) (hu : ∀ z ∈ xs, (Lit.int .u8 z).wf = true) :
    Calls Try.prog 9 #[.slice A n c] w fun e w' => e = .returned (.bool true) ∧ Below w.heap.size w w' := by
  unfold maxLen at hm
  have HR := Lib.hid hr
  have HU : Hid (∀ z ∈ xs, 0 ≤ z ∧ z ≤ 255) := fun z hz => u8wf (hu z hz)
  clear hr hu
  by_cases hn : n ≤ 1048576
  · exact walkIn w A n c xs hn HR HU
  · go_enter Try.func9, Try.ntmps9
    go_wp2_with fail
    refine (big_yes A n c w hn).mono ?_
    rintro e _ ⟨rfl, rfl⟩
    go_wp2_with fail
    go_ret
    exact ⟨rfl, Below.refl _ _⟩

theorem walks : Walks 9 Try.f9 := by
  intro H enc W base args ds ps hval hA _
  rw [Try.params9] at hA hval
  obtain ⟨v0, vs0, d0, ds0, p0, q0, hargs, rfl, rfl, h0, r0⟩ := trodAll_cons hA
  obtain ⟨rfl, rfl, rfl⟩ := trodAll_nil r0
  obtain rfl : args = #[v0] := by cases args; simp_all
  obtain ⟨f0, y0, z0⟩ := slice_cell Try.underlying22 (hval 0 22 v0 rfl rfl) h0
  obtain ⟨A0, n0, c0, a0, rfl, hl0, hm0, hr0, w0⟩ := open_ints_rd Try.underlying22 (by kernel_rfl) Try.underlying5 z0
  exact walk (w := W) A0 n0 c0 a0 hl0 hm0 hr0 w0

set_option maxRecDepth 100000 in
theorem lifted (os : Os) (started : os.Started) (H : Type) (enc : TypeId × Value → H) :
    ReturnsInHanded {} Try.checked os 9 .any (Rows.fnGiniSpec.pre6 enc Try.prog Try.f9 Rows.fnGiniRow.domain false) (Rows.fnGiniSpec.post enc Try.prog Try.f9 false true false false) :=
  law_lifted started (by kernel_rfl) Try.func9
    (ChangeSpec.witness6 (enc := enc) (C := Try.checked) false ⟨#[], #[.slice none 0 0], []⟩ 8 (by kernel_rfl) (by kernel_rfl) (by kernel_rfl) (by kernel_rfl))
    rfl rfl Try.underlying4 (fun ds h => match ds, h with | [_], _ => rfl) (by
      rw [Try.params9]
      intro t ht
      simp only [List.mem_cons, List.not_mem_nil, or_false] at ht
      subst ht
      exact ⟨by kernel_rfl, of_decide_eq_true (by kernel_rfl)⟩) walks

theorem over : Rows.fnGiniRow.holds Try.pinned (OpenSpec.ofChange Rows.fnGiniSpec) :=
  OpenClaim.holds_of_wide 9 Try.f9 rfl rfl rfl rfl rfl rfl rfl ⟨rfl, rfl, rfl, rfl, rfl⟩ rfl rfl rfl rfl rfl (by kernel_rfl) Try.func9 (by kernel_rfl)
    (of_decide_eq_true (by kernel_rfl)) (by unfold Func.isWrapper; first | (rw [if_pos (by decide +kernel)]; kernel_rfl) | (rw [if_neg (by decide +kernel)]; exact ⟨rfl, rfl⟩))
    (fun os started H enc _ => lifted os started H enc)

theorem proved : Rows.FnGiniSaid := over
#print axioms proved

end LawFGini
end Go.Proofs.Ytfdpfeaegcfglaa
