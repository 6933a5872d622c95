/-
  Merit, the plain part: rows of numbers added up, the rows that weigh something, the product of their weights; what both packages reckon is the same.
-/
import Derived.Test.YtchkmcikpamdeaaSqM
namespace Go.Proofs.Ytchkmcikpamdeaa
open Go.RowKit
set_option linter.unusedSimpArgs false
set_option linter.unusedVariables false

/-- A row of m numbers, told by a function. -/
def rowV (m : Nat) (f : Nat → Int) : List Value := (List.range m).map fun j => .int .i64 (f j)
theorem rowV_len (m : Nat) (f : Nat → Int) : (rowV m f).length = m := by simp [rowV]
theorem rowV_get {m j : Nat} {f : Nat → Int} (hj : j < m) : (rowV m f)[j]? = some (.int .i64 (f j)) := by
  unfold rowV; rw [List.getElem?_map, List.getElem?_range hj, Option.map_some]
theorem rowV_ext {m : Nat} {f g : Nat → Int} (h : ∀ j, j < m → f j = g j) : rowV m f = rowV m g := by
  unfold rowV; apply List.map_congr_left; intro j hj; rw [h j (List.mem_range.1 hj)]
theorem rowV_set {m k : Nat} {f : Nat → Int} {x : Int} (hk : k < m) : (rowV m f).set k (.int .i64 x) = rowV m (fun j => if j = k then x else f j) := by
  apply List.ext_getElem?
  intro j
  by_cases hj : j < m
  · rw [rowV_get hj]
    by_cases h : k = j
    · subst h
      rw [List.getElem?_set_self (by rw [rowV_len]; exact hk), if_pos rfl]
    · rw [List.getElem?_set_ne h, rowV_get hj, if_neg (fun e => h e.symm)]
  · rw [List.getElem?_eq_none (by rw [List.length_set, rowV_len]; omega), List.getElem?_eq_none (by rw [rowV_len]; omega)]
theorem rowV_zero (m : Nat) : rowV m (fun _ => 0) = List.replicate m (Value.int .i64 0) := by
  unfold rowV
  rw [List.eq_replicate_iff]
  refine ⟨by simp, fun x hx => ?_⟩
  obtain ⟨j, _, rfl⟩ := List.mem_map.1 hx
  rfl

/-- The sum of the j-th numbers of all rows. -/
def aF (Ls : List (List Int)) (j : Nat) : Int := (Ls.map fun l => l.getD j 0).sum
def addF (Ls : List (List Int)) (l : List Int) (k j : Nat) : Int := aF Ls j + (if j < k then l.getD j 0 else 0)
def allI (m : Nat) (Ls : List (List Int)) : List Int := (List.range m).map (aF Ls)
theorem rowV_all (m : Nat) (Ls : List (List Int)) : rowV m (aF Ls) = (allI m Ls).map (Value.int .i64) := by
  unfold rowV allI; rw [List.map_map]; rfl
theorem aF_nil (j : Nat) : aF [] j = 0 := rfl
theorem aF_snoc (Ls : List (List Int)) (l : List Int) (j : Nat) : aF (Ls ++ [l]) j = aF Ls j + l.getD j 0 := by
  unfold aF; rw [List.map_append, List.sum_append]; simp
theorem addF_zero (m : Nat) (Ls : List (List Int)) (l : List Int) : rowV m (aF Ls) = rowV m (addF Ls l 0) := rowV_ext fun j _ => by simp [addF]
theorem addF_all (m : Nat) (Ls : List (List Int)) (l : List Int) : rowV m (addF Ls l m) = rowV m (aF (Ls ++ [l])) := rowV_ext fun j hj => by rw [aF_snoc]; unfold addF; rw [if_pos hj]
theorem addF_set {m k : Nat} {Ls : List (List Int)} {l : List Int} {x : Int} (hk : k < m) (hx : l[k]? = some x) : (rowV m (addF Ls l k)).set k (.int .i64 (aF Ls k + x)) = rowV m (addF Ls l (k + 1)) := by
  rw [rowV_set hk]
  refine rowV_ext fun j _ => ?_
  by_cases h : j = k
  · subst h
    rw [if_pos rfl]; unfold addF; rw [if_pos (by omega)]; simp [List.getD, hx]
  · rw [if_neg h]; unfold addF
    by_cases h1 : j < k
    · rw [if_pos h1, if_pos (by omega)]
    · rw [if_neg h1, if_neg (by omega)]
theorem addF_at (Ls : List (List Int)) (l : List Int) (k : Nat) : addF Ls l k k = aF Ls k := by unfold addF; rw [if_neg (by omega), Int.add_zero]

/-- The rows that weigh something. -/
def partsL (Ls : List (List Int)) : List (List Int) := Ls.filter fun l => decide (0 < l.sum)
theorem parts_yes {Ls : List (List Int)} {l : List Int} (h : 0 < l.sum) : partsL (Ls ++ [l]) = partsL Ls ++ [l] := by
  unfold partsL; rw [List.filter_append]; simp [h]
theorem parts_no {Ls : List (List Int)} {l : List Int} (h : ¬ 0 < l.sum) : partsL (Ls ++ [l]) = partsL Ls := by
  unfold partsL; rw [List.filter_append]; simp [h]
def prodL : List Int → Int
  | [] => 1
  | x :: xs => x * prodL xs
theorem prod_snoc (x : Int) : ∀ xs : List Int, prodL (xs ++ [x]) = prodL xs * x
  | [] => by simp [prodL]
  | y :: ys => by rw [List.cons_append, prodL, prod_snoc x ys, prodL, Int.mul_assoc]
theorem prod_dvd {x : Int} : ∀ {xs : List Int}, x ∈ xs → x ∣ prodL xs
  | y :: ys, h => by
    rcases List.mem_cons.1 h with rfl | h
    · exact Int.dvd_mul_right _ _
    · exact Int.dvd_trans (prod_dvd h) (Int.dvd_mul_left _ _)
def prI (Ls : List (List Int)) : Int := prodL ((partsL Ls).map List.sum)

/-- What the rows of the branches are like. -/
structure MOk (m : Nat) (Ls : List (List Int)) : Prop where
  hm : m = 2 ∨ m = 3
  cnt : Ls.length ≤ 4
  len : ∀ l ∈ Ls, l.length = m
  pos : ∀ l ∈ Ls, ∀ x ∈ l, 0 ≤ x
  tot : (Ls.map List.sum).sum ≤ 999

theorem sum_pos {xs : List Int} (h : ∀ x ∈ xs, 0 ≤ x) : 0 ≤ xs.sum := by
  induction xs with
  | nil => simp
  | cons y ys ih =>
    rw [List.sum_cons]
    have := h y (by simp)
    have := ih fun x hx => h x (by simp [hx])
    omega
theorem mem_le_sum {xs : List Int} (h : ∀ x ∈ xs, 0 ≤ x) {x : Int} (hx : x ∈ xs) : x ≤ xs.sum := by
  induction xs with
  | nil => cases hx
  | cons y ys ih =>
    rw [List.sum_cons]
    have h1 := h y (by simp)
    have h2 := sum_pos fun z hz => h z (List.mem_cons_of_mem _ hz)
    rcases List.mem_cons.1 hx with rfl | hx
    · omega
    · have := ih (fun z hz => h z (by simp [hz])) hx; omega
section
variable {m : Nat} {Ls : List (List Int)}
theorem MOk.spos (H : MOk m Ls) : ∀ x ∈ Ls.map List.sum, 0 ≤ x := fun x hx => by
  obtain ⟨l, hl, rfl⟩ := List.mem_map.1 hx
  exact sum_pos (H.pos l hl)
theorem MOk.row (H : MOk m Ls) {l : List Int} (hl : l ∈ Ls) : 0 ≤ l.sum ∧ l.sum ≤ 999 ∧ ∀ x ∈ l, 0 ≤ x ∧ x ≤ 999 := by
  have h1 := sum_pos (H.pos l hl)
  have h2 := mem_le_sum H.spos (List.mem_map_of_mem (f := List.sum) hl)
  have h3 := H.tot
  refine ⟨h1, by omega, fun x hx => ⟨H.pos l hl x hx, ?_⟩⟩
  have := mem_le_sum (H.pos l hl) hx
  omega
theorem take_tot {xs : List Int} (h : ∀ x ∈ xs, 0 ≤ x) (i : Nat) : (xs.take i).sum ≤ xs.sum := by
  have h1 : xs.sum = (xs.take i).sum + (xs.drop i).sum := by rw [← List.sum_append, List.take_append_drop]
  have h2 := sum_pos fun x hx => h x (List.mem_of_mem_drop (i := i) hx)
  omega
theorem MOk.take (H : MOk m Ls) (i : Nat) : MOk m (Ls.take i) := by
  refine ⟨H.hm, ?_, fun l hl => H.len l (List.mem_of_mem_take hl), fun l hl => H.pos l (List.mem_of_mem_take hl), ?_⟩
  · have := H.cnt; simp; omega
  · have h1 := take_tot H.spos i
    have h2 := H.tot
    rw [← List.map_take] at h1
    omega
theorem all_sum2 (hm : m = 2 ∨ m = 3) : ∀ {Ls : List (List Int)}, (∀ l ∈ Ls, l.length = m) → (allI m Ls).sum = (Ls.map List.sum).sum := by
  intro Ls hl
  induction Ls with
  | nil => rcases hm with rfl | rfl <;> rfl
  | cons l Ls ih =>
    have h1 := ih fun x hx => hl x (by simp [hx])
    have h2 := hl l (by simp)
    rw [List.map_cons, List.sum_cons, ← h1]
    rcases hm with rfl | rfl
    · match l, h2 with
      | [a, b], _ => simp [allI, aF, List.range_succ]; omega
    · match l, h2 with
      | [a, b, c], _ => simp [allI, aF, List.range_succ]; omega
theorem all_sum (H : MOk m Ls) : (allI m Ls).sum = (Ls.map List.sum).sum := all_sum2 H.hm H.len
theorem aF_pos (H : MOk m Ls) (j : Nat) : 0 ≤ aF Ls j := by
  refine sum_pos fun x hx => ?_
  obtain ⟨l, hl, rfl⟩ := List.mem_map.1 hx
  by_cases h : j < l.length
  · have : l[j]? = some l[j] := List.getElem?_eq_getElem h
    rw [List.getD, this, Option.getD_some]
    exact H.pos l hl _ (List.getElem_mem h)
  · rw [List.getD, List.getElem?_eq_none (by omega)]; simp
theorem all_bd (H : MOk m Ls) : ∀ x ∈ allI m Ls, 0 ≤ x ∧ x ≤ 999 := by
  have hp : ∀ x ∈ allI m Ls, 0 ≤ x := fun x hx => by
    obtain ⟨j, _, rfl⟩ := List.mem_map.1 hx
    exact aF_pos H j
  intro x hx
  have h1 := mem_le_sum hp hx
  have h2 := all_sum H
  have h3 := H.tot
  exact ⟨hp x hx, by omega⟩
theorem aF_bd (H : MOk m Ls) {j : Nat} (hj : j < m) : 0 ≤ aF Ls j ∧ aF Ls j ≤ 999 := all_bd H _ (List.mem_map.2 ⟨j, List.mem_range.2 hj, rfl⟩)
theorem allI_len : (allI m Ls).length = m := by simp [allI]

theorem pow_bd : ∀ (xs : List Int), (∀ x ∈ xs, 1 ≤ x ∧ x ≤ 999) → 1 ≤ prodL xs ∧ prodL xs ≤ 999 ^ xs.length
  | [], _ => by simp [prodL]
  | x :: xs, h => by
    obtain ⟨h1, h2⟩ := pow_bd xs fun y hy => h y (by simp [hy])
    obtain ⟨h3, h4⟩ := h x (by simp)
    refine ⟨?_, ?_⟩
    · have := Int.mul_le_mul h3 h1 (by omega) (by omega); unfold prodL; omega
    · have := Int.mul_le_mul h4 h2 (by omega) (by omega)
      unfold prodL
      rw [List.length_cons, Int.pow_succ, Int.mul_comm ((999 : Int) ^ xs.length) 999]
      exact this
theorem MOk.pr (H : MOk m Ls) : 1 ≤ prI Ls ∧ prI Ls ≤ 996005996001 := by
  have h := pow_bd ((partsL Ls).map List.sum) fun x hx => by
    obtain ⟨l, hl, rfl⟩ := List.mem_map.1 hx
    obtain ⟨h1, h2⟩ := List.mem_filter.1 hl
    have := H.row h1
    have := of_decide_eq_true h2
    omega
  have hl : ((partsL Ls).map List.sum).length ≤ 4 := by
    have h1 : (partsL Ls).length ≤ Ls.length := List.length_filter_le _ _
    have h2 := H.cnt
    rw [List.length_map]; omega
  generalize ((partsL Ls).map List.sum).length = k at h hl
  refine ⟨h.1, Int.le_trans h.2 ?_⟩
  match k, hl with
  | 0, _ => decide
  | 1, _ => decide
  | 2, _ => decide
  | 3, _ => decide
  | 4, _ => decide
theorem MOk.prk (H : MOk m Ls) (k : Nat) : 1 ≤ prodL (((partsL Ls).take k).map List.sum) ∧ prodL (((partsL Ls).take k).map List.sum) ≤ 996005996001 := by
  have h := pow_bd (((partsL Ls).take k).map List.sum) fun x hx => by
    obtain ⟨l, hl, rfl⟩ := List.mem_map.1 hx
    obtain ⟨h1, h2⟩ := List.mem_filter.1 (List.mem_of_mem_take hl)
    have := H.row h1
    have := of_decide_eq_true h2
    omega
  have hl : (((partsL Ls).take k).map List.sum).length ≤ 4 := by
    have h1 : (partsL Ls).length ≤ Ls.length := List.length_filter_le _ _
    have h2 := H.cnt
    rw [List.length_map, List.length_take]; omega
  generalize (((partsL Ls).take k).map List.sum).length = k at h hl
  refine ⟨h.1, Int.le_trans h.2 ?_⟩
  match k, hl with
  | 0, _ => decide
  | 1, _ => decide
  | 2, _ => decide
  | 3, _ => decide
  | 4, _ => decide
theorem MOk.parts (H : MOk m Ls) {l : List Int} (hl : l ∈ partsL Ls) : l ∈ Ls ∧ 1 ≤ l.sum ∧ l.sum ∣ prI Ls := by
  obtain ⟨h1, h2⟩ := List.mem_filter.1 hl
  have := of_decide_eq_true h2
  exact ⟨h1, by omega, prod_dvd (List.mem_map_of_mem (f := List.sum) hl)⟩
theorem parts_sum (h : ∀ l ∈ Ls, 0 ≤ l.sum) : ((partsL Ls).map List.sum).sum = (Ls.map List.sum).sum := by
  induction Ls with
  | nil => rfl
  | cons l Ls ih =>
    have h1 := ih fun x hx => h x (by simp [hx])
    have h2 := h l (by simp)
    unfold partsL at h1 ⊢
    rw [List.filter_cons]
    split
    · simp only [List.map_cons, List.sum_cons, h1]
    · rename_i h3
      have : ¬ 0 < l.sum := fun h4 => h3 (decide_eq_true h4)
      simp only [List.map_cons, List.sum_cons, h1]; omega
end

theorem sqI_in {xs : List Int} (hl : xs.length ≤ 3) (h : ∀ x ∈ xs, 0 ≤ x ∧ x ≤ 999) : sqI xs = sqL xs := by
  unfold sqI
  rw [if_pos ⟨hl, by
    rw [List.any_eq_false]
    intro x hx
    rw [(badE_iff x).2 (h x hx)]
    simp⟩]

/-- Squares against the square of the sum. -/
theorem sq_le {m : Nat} (hm : m = 2 ∨ m = 3) {l : List Int} (hl : l.length = m) (h : ∀ x ∈ l, 0 ≤ x) : 0 ≤ sqL l ∧ sqL l ≤ l.sum * l.sum := by
  rcases hm with rfl | rfl
  · match l, hl with
    | [a, b], _ =>
      have ha := h a (by simp); have hb := h b (by simp)
      have h1 := Int.mul_nonneg ha hb; have h2 := Int.mul_nonneg ha ha; have h3 := Int.mul_nonneg hb hb
      have e : (a + b) * (a + b) = a * a + b * b + 2 * (a * b) := by grind
      simp only [sqL, List.map_cons, List.map_nil, List.sum_cons, List.sum_nil, Int.add_zero]
      omega
  · match l, hl with
    | [a, b, c], _ =>
      have ha := h a (by simp); have hb := h b (by simp); have hc := h c (by simp)
      have h1 := Int.mul_nonneg ha hb; have h2 := Int.mul_nonneg ha ha; have h3 := Int.mul_nonneg hb hb
      have h4 := Int.mul_nonneg ha hc; have h5 := Int.mul_nonneg hb hc; have h6 := Int.mul_nonneg hc hc
      have e : (a + (b + c)) * (a + (b + c)) = a * a + (b * b + c * c) + 2 * (a * b) + 2 * (a * c) + 2 * (b * c) := by grind
      simp only [sqL, List.map_cons, List.map_nil, List.sum_cons, List.sum_nil, Int.add_zero]
      omega

/-- One row's share, as spec and as impl reckon it. -/
def shS (n P : Int) (l : List Int) : Int := sqL l * n * (P / l.sum)
def shI (n P : Int) (l : List Int) : Int := (l.sum * l.sum - sqL l) * n * (P / l.sum)
/-- s divides P: what the shares come to. -/
theorem share_bd {n P s q : Int} (hn : 0 ≤ n ∧ n ≤ 999) (hP : 1 ≤ P ∧ P ≤ 996005996001) (hs : 1 ≤ s ∧ s ≤ 999) (hd : s ∣ P) (hq : 0 ≤ q ∧ q ≤ s * s) :
    0 ≤ q * n ∧ q * n ≤ 998001 * 999 ∧ 0 ≤ P / s ∧ P / s ≤ 996005996001 ∧ 0 ≤ q * n * (P / s) ∧ q * n * (P / s) ≤ 994014980014994001 := by
  obtain ⟨d, rfl⟩ := hd
  have hs0 : s ≠ 0 := by omega
  rw [Int.mul_ediv_cancel_left _ hs0]
  have hd0 : 0 ≤ d := by
    rcases Int.lt_or_le d 0 with h | h
    · have := Int.mul_le_mul_of_nonneg_left (show d ≤ -1 by omega) (show 0 ≤ s by omega); omega
    · exact h
  have h1 : 0 ≤ q * n := Int.mul_nonneg hq.1 hn.1
  have hss : s * s ≤ 999 * 999 := Int.mul_le_mul hs.2 hs.2 (by omega) (by omega)
  have h2 : q * n ≤ 998001 * 999 := Int.mul_le_mul (by omega) hn.2 hn.1 (by omega)
  have h3 : d ≤ s * d := by have := Int.mul_le_mul_of_nonneg_right hs.1 hd0; omega
  have h4 : 0 ≤ q * n * d := Int.mul_nonneg h1 hd0
  have h5 : q * n * d ≤ (s * s) * n * d := Int.mul_le_mul_of_nonneg_right (Int.mul_le_mul_of_nonneg_right hq.2 hn.1) hd0
  have h6 : (s * s) * n * d = s * n * (s * d) := by grind
  have h7 : s * n ≤ 999 * 999 := Int.mul_le_mul hs.2 hn.2 hn.1 (by omega)
  have h8 : s * n * (s * d) ≤ 999 * 999 * 996005996001 := Int.mul_le_mul h7 hP.2 (by omega) (by omega)
  refine ⟨h1, h2, hd0, by omega, h4, by omega⟩
theorem share_add {n P s q : Int} (hs : 1 ≤ s) (hd : s ∣ P) : (s * s - q) * n * (P / s) + q * n * (P / s) = n * P * s := by
  obtain ⟨d, rfl⟩ := hd
  rw [Int.mul_ediv_cancel_left _ (by omega : s ≠ 0)]
  grind

/-- The numerator and the denominator, ahead of FracLow. -/
def numI (m : Nat) (Ls : List (List Int)) : Int := ((partsL Ls).map (shS (allI m Ls).sum (prI Ls))).sum - sqL (allI m Ls) * prI Ls
def denI (m : Nat) (Ls : List (List Int)) : Int := (allI m Ls).sum * (allI m Ls).sum * prI Ls
theorem num_impl {m : Nat} {Ls : List (List Int)} (H : MOk m Ls) : ((allI m Ls).sum * (allI m Ls).sum - sqL (allI m Ls)) * prI Ls - ((partsL Ls).map (shI (allI m Ls).sum (prI Ls))).sum = numI m Ls := by
  have hs := parts_sum (Ls := Ls) fun l hl => (H.row hl).1
  rw [← all_sum H] at hs
  unfold numI
  generalize (allI m Ls).sum = n at hs ⊢
  have h : ∀ ps : List (List Int), (∀ l ∈ ps, l ∈ partsL Ls) → (ps.map (shI n (prI Ls))).sum + (ps.map (shS n (prI Ls))).sum = n * prI Ls * (ps.map List.sum).sum := by
    intro ps
    induction ps with
    | nil => intro _; simp
    | cons l ps ih =>
      intro hp
      have h1 := ih fun x hx => hp x (by simp [hx])
      obtain ⟨_, h2, h3⟩ := H.parts (hp l (by simp))
      have h4 := share_add (n := n) (q := sqL l) h2 h3
      simp only [List.map_cons, List.sum_cons]
      rw [Int.mul_add, ← h4, ← h1]
      unfold shI shS
      omega
  have h1 := h (partsL Ls) fun _ h => h
  rw [hs] at h1
  have e : (n * n - sqL (allI m Ls)) * prI Ls = n * prI Ls * n - sqL (allI m Ls) * prI Ls := by grind
  omega
theorem sum4 {f : List Int → Int} {C : Int} : ∀ {ps : List (List Int)}, (∀ l ∈ ps, 0 ≤ f l ∧ f l ≤ C) → 0 ≤ (ps.map f).sum ∧ (ps.map f).sum ≤ C * ps.length
  | [], _ => by simp
  | l :: ps, h => by
    obtain ⟨h1, h2⟩ := sum4 (ps := ps) fun x hx => h x (by simp [hx])
    obtain ⟨h3, h4⟩ := h l (by simp)
    simp only [List.map_cons, List.sum_cons, List.length_cons]
    have : C * ((ps.length + 1 : Nat) : Int) = C * (ps.length : Int) + C := by rw [Int.natCast_add, Int.mul_add]; simp
    rw [this]
    omega

end Go.Proofs.Ytchkmcikpamdeaa
