/-
  The plain laws of WindowAdd and WindowDrop: what is added is a valid window again, what its buckets add up to; what is dropped is the first bucket.
-/
import Derived.Test.YtnljlehbjdambaaAddQ
import Derived.Test.YtnljlehbjdambaaSum
namespace Go.Proofs.Ytnljlehbjdambaa
open Go.RowKit
set_option linter.unusedSimpArgs false
set_option linter.unusedVariables false

/-- Sizes and ones of rows, the first of them of the power k. -/
def wT : Nat → List (List Int) → Int
  | _, [] => 0
  | k, xs :: t => pw k * (xs.length : Int) + wT (k + 1) t
def wO : List (List Int) → Int
  | [] => 0
  | xs :: t => xs.sum + wO t
theorem wT_set (ys : List Int) : ∀ (xss : List (List Int)) (k r : Nat), r < xss.length → wT k (xss.set r ys) = wT k xss + pw (k + r) * ((ys.length : Int) - ((xss.getD r []).length : Int))
  | [], k, r, h => by simp at h
  | xs :: t, k, 0, h => by
    simp only [List.set_cons_zero, wT, List.getD_cons_zero, Nat.add_zero]
    rw [Int.mul_sub]; omega
  | xs :: t, k, r + 1, h => by
    have ih := wT_set ys t (k + 1) r (by simpa using h)
    simp only [List.set_cons_succ, wT, List.getD_cons_succ]
    rw [ih, show k + 1 + r = k + (r + 1) by omega]; omega
theorem wO_set (ys : List Int) : ∀ (xss : List (List Int)) (r : Nat), r < xss.length → wO (xss.set r ys) = wO xss + (ys.sum - (xss.getD r []).sum)
  | [], r, h => by simp at h
  | xs :: t, 0, h => by simp only [List.set_cons_zero, wO, List.getD_cons_zero]; omega
  | xs :: t, r + 1, h => by
    have ih := wO_set ys t r (by simpa using h)
    simp only [List.set_cons_succ, wO, List.getD_cons_succ]
    rw [ih]; omega
theorem wT_snoc : ∀ (xss : List (List Int)) (k : Nat), wT k (xss ++ [[]]) = wT k xss
  | [], k => by simp [wT]
  | xs :: t, k => by simp only [List.cons_append, wT, wT_snoc t (k + 1)]
theorem wO_snoc : ∀ (xss : List (List Int)), wO (xss ++ [[]]) = wO xss
  | [] => by simp [wO]
  | xs :: t => by simp only [List.cons_append, wO, wO_snoc t]
theorem wT_more (xss : List (List Int)) (k r : Nat) : wT k (moreR xss r) = wT k xss := by unfold moreR; split; exact wT_snoc _ _; rfl
theorem wO_more (xss : List (List Int)) (r : Nat) : wO (moreR xss r) = wO xss := by unfold moreR; split; exact wO_snoc _; rfl
theorem wT_push {xss : List (List Int)} {r : Nat} {v : Int} (h : r < xss.length) : wT 0 (pushR xss r v) = wT 0 xss + pw r := by
  unfold pushR; rw [wT_set _ _ _ _ h, List.length_append, Nat.zero_add]
  have : ((((xss.getD r []).length + [v].length : Nat) : Int) - ((xss.getD r []).length : Int)) = 1 := by rw [List.length_singleton]; omega
  rw [this, Int.mul_one]
theorem wO_push {xss : List (List Int)} {r : Nat} {v : Int} (h : r < xss.length) : wO (pushR xss r v) = wO xss + v := by
  unfold pushR; rw [wO_set _ _ _ h, List.sum_append]; simp; omega
theorem sum_drop2 {xs : List Int} (h : 2 ≤ xs.length) : (xs.drop 2).sum = xs.sum - bothOf xs := by
  match xs, h with
  | a :: b :: t, _ => simp [bothOf]; omega
theorem shift_getD {xss : List (List Int)} {r : Nat} (h : r < xss.length) : (pushR (moreR xss (r + 1)) (r + 1) (bothOf (xss.getD r []))).getD r [] = xss.getD r [] := by
  unfold pushR
  have h1 : (moreR xss (r + 1))[r]? = xss[r]? := by
    unfold moreR; split
    · rw [List.getElem?_append_left h]
    · rfl
  simp only [List.getD]
  rw [List.getElem?_set_ne (by omega), h1]
theorem wT_shift {xss : List (List Int)} {r : Nat} (h : quasi r xss) (hl : longB xss r = true) : wT 0 (shiftR xss r) = wT 0 xss ∧ wO (shiftR xss r) = wO xss := by
  have h4 := quasi_long h hl
  have h2 := h.2.1
  have hm := moreR_lt (xss := xss) (r := r + 1) (by omega)
  have hr : r < (pushR (moreR xss (r + 1)) (r + 1) (bothOf (xss.getD r []))).length := by rw [pushR_len]; omega
  unfold shiftR
  rw [wT_set _ _ _ _ hr, wO_set _ _ _ hr, shift_getD h2, wT_push hm, wO_push hm, wT_more, wO_more, sum_drop2 (by omega), List.length_drop, h4, Nat.zero_add, pw_succ]
  constructor
  · have : ((4 - 2 : Nat) : Int) - ((4 : Nat) : Int) = -2 := by decide
    rw [this]; omega
  · omega
theorem wT_drop {xss : List (List Int)} {r : Nat} (h : quasi r xss) (hl : longB xss r = true) : wT 0 (xss.set r ((xss.getD r []).drop 1)) = wT 0 xss - pw r := by
  have h4 := quasi_long h hl
  rw [wT_set _ _ _ _ h.2.1, List.length_drop, h4, Nat.zero_add]
  have : ((4 - 1 : Nat) : Int) - ((4 : Nat) : Int) = -1 := by decide
  rw [this]; omega
theorem addGo_tot : ∀ (f r : Nat) (xss : List (List Int)), quasi r xss → 8 ≤ f + r → (wT 0 (addGo f r xss) = wT 0 xss ∧ wO (addGo f r xss) = wO xss) ∨ (xss.length = 8 ∧ wT 0 (addGo f r xss) = wT 0 xss - 128)
  | 0, r, xss, h, hf => by have := h.1; have := h.2.1; omega
  | f + 1, r, xss, h, hf => by
    have h2 := h.2.1
    unfold addGo
    cases hl : longB xss r
    · rw [if_neg (by simp)]; exact .inl ⟨rfl, rfl⟩
    · rw [if_pos rfl]
      by_cases h7 : r = 7
      · rw [if_pos h7]
        refine .inr ⟨by have := h.1; omega, ?_⟩
        rw [wT_drop h hl, h7]; rfl
      · rw [if_neg h7]
        obtain ⟨s1, s2⟩ := wT_shift h hl
        rcases addGo_tot f (r + 1) _ (quasi_step h hl h7) (by omega) with ⟨a, b⟩ | ⟨a, b⟩
        · exact .inl ⟨a.trans s1, b.trans s2⟩
        · by_cases h8 : xss.length = 8
          · exact .inr ⟨h8, b.trans (by rw [s1])⟩
          · left
            rw [shiftR_len h2] at a
            have hr : r + 1 = xss.length := by
              split at a
              · assumption
              · exact absurd a h8
            have hlen : (shiftR xss r).getD (r + 1) [] = [bothOf (xss.getD r [])] := by
              have hlt : r + 1 < (shiftR xss r).length := by rw [shiftR_len h2, if_pos hr]; omega
              rcases shiftR_get h2 (getD_of hlt) with ⟨_, e, _⟩ | ⟨_, e⟩ | ⟨e, _⟩
              · exact absurd rfl e
              · rw [e]
                have : (moreR xss (r + 1)).getD (r + 1) [] = [] := by
                  unfold moreR; rw [if_pos hr, hr]; simp
                rw [this]; rfl
              · omega
            have hstop : longB (shiftR xss r) (r + 1) = false := by unfold longB; rw [hlen]; simp
            have hgo : addGo f (r + 1) (shiftR xss r) = shiftR xss r := by
              cases f with
              | zero => rfl
              | succ f => unfold addGo; rw [hstop, if_neg (by simp)]
            rw [hgo]
            exact ⟨s1, s2⟩
theorem addR_tot {xss : List (List Int)} {bit : Int} (h : addB xss bit = true) : (wT 0 (addR xss bit) = wT 0 xss + 1 ∧ wO (addR xss bit) = wO xss + bit) ∨ (xss.length = 8 ∧ wT 0 (addR xss bit) = wT 0 xss + 1 - 128) := by
  have h1 := h
  unfold addB at h1
  rw [Bool.and_eq_true, inB_iff] at h1
  have hm := moreR_lt (xss := xss) (r := 0) (by omega)
  have e1 : wT 0 (pushR (moreR xss 0) 0 bit) = wT 0 xss + 1 := by rw [wT_push hm, wT_more]; rfl
  have e2 : wO (pushR (moreR xss 0) 0 bit) = wO xss + bit := by rw [wO_push hm, wO_more]
  unfold addR; rw [if_pos h]
  rcases addGo_tot 8 0 _ (quasi_start h1.1 h1.2.1 h1.2.2) (by omega) with ⟨a, b⟩ | ⟨a, b⟩
  · exact .inl ⟨a.trans e1, b.trans e2⟩
  · refine .inr ⟨?_, by rw [b, e1]⟩
    rw [pushR_len, moreR_len (Nat.zero_le _)] at a
    split at a <;> omega

theorem sm1_app (a b : List (Int × Int)) : sm1 (a ++ b) = sm1 a + sm1 b := by unfold sm1; rw [List.map_append, List.sum_append]
theorem sm2_app (a b : List (Int × Int)) : sm2 (a ++ b) = sm2 a + sm2 b := by unfold sm2; rw [List.map_append, List.sum_append]
theorem sm_row (r : Nat) (xs : List Int) : sm1 (rowBk r xs) = pw r * (xs.length : Int) ∧ sm2 (rowBk r xs) = xs.sum := by
  induction xs with
  | nil => simp [rowBk, sm1, sm2]
  | cons x t ih =>
    simp only [rowBk, sm1, sm2, List.map_cons, List.sum_cons, List.length_cons] at ih ⊢
    rw [ih.1, ih.2]
    refine ⟨?_, rfl⟩
    rw [show (((t.length + 1 : Nat)) : Int) = (t.length : Int) + 1 by omega, Int.mul_add, Int.mul_one]; omega
theorem drop_pred {xss : List (List Int)} {j : Nat} (hj : j < xss.length) : xss.drop (xss.length - (j + 1)) = xss.getD (xss.length - 1 - j) [] :: xss.drop (xss.length - j) := by
  have h1 : xss.length - 1 - j < xss.length := by omega
  rw [show xss.length - (j + 1) = xss.length - 1 - j by omega, List.drop_eq_getElem_cons h1, show xss.length - 1 - j + 1 = xss.length - j by omega]
  simp [List.getD, List.getElem?_eq_getElem h1]
theorem bkJ_sum (xss : List (List Int)) : ∀ j, j ≤ xss.length → sm1 (bkJ xss j) = wT (xss.length - j) (xss.drop (xss.length - j)) ∧ sm2 (bkJ xss j) = wO (xss.drop (xss.length - j))
  | 0, _ => by simp [bkJ, sm1, sm2, wT, wO]
  | j + 1, hj => by
    obtain ⟨h1, h2⟩ := bkJ_sum xss j (by omega)
    obtain ⟨h3, h4⟩ := sm_row (xss.length - 1 - j) (xss.getD (xss.length - 1 - j) [])
    rw [bkJ, sm1_app, sm2_app, h1, h2, h3, h4, drop_pred (by omega)]
    simp only [wT, wO]
    rw [show xss.length - (j + 1) + 1 = xss.length - j by omega, show xss.length - (j + 1) = xss.length - 1 - j by omega]
    omega
theorem bk_sum {xss : List (List Int)} (h : winB xss = true) : sm1 (bucketsL xss) = wT 0 xss ∧ sm2 (bucketsL xss) = wO xss := by
  unfold bucketsL; rw [if_pos h]
  have := bkJ_sum xss xss.length (Nat.le_refl _)
  simpa using this
/-- Sizes do not grow, ones are within sizes. -/
theorem bkJ_ord {xss : List (List Int)} (h : winB xss = true) : ∀ j, j ≤ xss.length → (bkJ xss j).Pairwise (fun a b => b.1 ≤ a.1) ∧ ∀ b ∈ bkJ xss j, pw (xss.length - j) ≤ b.1 ∧ 0 ≤ b.2 ∧ b.2 ≤ b.1
  | 0, _ => by simp [bkJ]
  | j + 1, hj => by
    obtain ⟨h1, h2⟩ := bkJ_ord h j (by omega)
    have hl : xss.length - 1 - j < xss.length := by omega
    have hrow := winB_row h (getD_of hl)
    have hm : pw (xss.length - j) = 2 * pw (xss.length - 1 - j) := by rw [← pw_succ]; congr 1; omega
    have hp := (pw_bd (r := xss.length - 1 - j) (by have := winB_len h; omega)).1
    refine ⟨?_, fun b hb => ?_⟩
    · rw [bkJ, List.pairwise_append]
      refine ⟨h1, ?_, fun a ha b hb => ?_⟩
      · unfold rowBk
        rw [List.pairwise_map]
        exact List.pairwise_of_forall (fun _ _ => Int.le_refl _)
      · obtain ⟨x, hx, rfl⟩ := List.mem_map.1 hb
        have := (h2 a ha).1
        show pw _ ≤ a.1
        omega
    · rw [bkJ, List.mem_append] at hb
      rw [show xss.length - (j + 1) = xss.length - 1 - j by omega]
      rcases hb with hb | hb
      · have := h2 b hb; omega
      · obtain ⟨x, hx, rfl⟩ := List.mem_map.1 hb
        have := rowB_elem hrow hx
        exact ⟨Int.le_refl _, this⟩
theorem bk_ord {xss : List (List Int)} (h : winB xss = true) : (bucketsL xss).Pairwise (fun a b => b.1 ≤ a.1) ∧ ∀ b ∈ bucketsL xss, 0 ≤ b.2 ∧ b.2 ≤ b.1 := by
  unfold bucketsL; rw [if_pos h]
  obtain ⟨h1, h2⟩ := bkJ_ord h xss.length (Nat.le_refl _)
  exact ⟨h1, fun b hb => (h2 b hb).2⟩
theorem bk_pos {xss : List (List Int)} (h : winB xss = true) (hp : 0 < xss.length) : 0 < (bucketsL xss).length := by
  unfold bucketsL; rw [if_pos h]
  obtain ⟨m, hm⟩ : ∃ m, xss.length = m + 1 := ⟨xss.length - 1, by omega⟩
  rw [hm, bkJ, List.length_append]
  have hl : xss.length - 1 - m < xss.length := by omega
  have := (rowB_len (winB_row h (getD_of hl))).1
  simp only [rowBk, List.length_map]; omega

/-- What WindowDrop leaves is a valid window; its buckets are the old ones without the first. -/
theorem dropR_win {xss : List (List Int)} (h : dropB xss = true) : winB (dropR xss) = true := by
  have h1 := h
  unfold dropB at h1
  rw [Bool.and_eq_true, decide_eq_true_eq] at h1
  obtain ⟨hw, hp⟩ := h1
  have h8 := winB_len hw
  unfold dropR; rw [if_pos h]
  have hl : xss.length - 1 < xss.length := by omega
  have hrow := winB_row hw (getD_of hl)
  split
  · exact winB_good (by rw [List.length_take]; omega) fun r xs hr => winB_row hw (take_get hr)
  · rename_i h0
    refine winB_good (by simpa using h8) fun r xs hr => ?_
    by_cases e : xss.length - 1 = r
    · subst e
      rw [List.getElem?_set_self hl] at hr
      obtain rfl := Option.some.inj hr
      have := rowB_len hrow
      unfold dropRow at h0 ⊢
      rw [List.length_drop] at h0
      refine rowB_yes (inB_yes (by rw [List.length_drop]; omega) (by rw [List.length_drop]; omega)) fun j x hx => ?_
      have := rowB_elem hrow (List.mem_of_mem_drop (List.mem_of_getElem? hx))
      exact inB_yes this.1 this.2
    · rw [List.getElem?_set_ne e] at hr
      exact winB_row hw hr
theorem bk_last {xss : List (List Int)} : ∀ j, j < xss.length → bkJ xss (j + 1) = rowBk (xss.length - 1) (xss.getD (xss.length - 1) []) ++ bkJ (xss.take (xss.length - 1)) j
  | 0, _ => by simp [bkJ]
  | j + 1, hj => by
    rw [bkJ, bk_last j (by omega), bkJ.eq_2 (xss.take (xss.length - 1)) j, ← List.append_assoc]
    have hl : (xss.take (xss.length - 1)).length - 1 - j = xss.length - 1 - (j + 1) := by rw [List.length_take]; omega
    have e : (xss.take (xss.length - 1)).getD (xss.length - 1 - (j + 1)) [] = xss.getD (xss.length - 1 - (j + 1)) [] := by
      simp only [List.getD]; rw [List.getElem?_take, if_pos (by omega)]
    rw [hl, e]
theorem dropR_bk {xss : List (List Int)} (h : dropB xss = true) : bucketsL (dropR xss) = (bucketsL xss).drop 1 := by
  have hw2 := dropR_win h
  have h1 := h
  unfold dropB at h1
  rw [Bool.and_eq_true, decide_eq_true_eq] at h1
  obtain ⟨hw, hp⟩ := h1
  have hl : xss.length - 1 < xss.length := by omega
  have hrow := (rowB_len (winB_row hw (getD_of hl))).1
  unfold bucketsL
  rw [if_pos hw2, if_pos hw]
  have e1 : bkJ xss xss.length = rowBk (xss.length - 1) (xss.getD (xss.length - 1) []) ++ bkJ (xss.take (xss.length - 1)) (xss.length - 1) := by
    have := bk_last (xss := xss) (xss.length - 1) hl
    rwa [show xss.length - 1 + 1 = xss.length by omega] at this
  have e2 : (rowBk (xss.length - 1) (xss.getD (xss.length - 1) []) ++ bkJ (xss.take (xss.length - 1)) (xss.length - 1)).drop 1 = rowBk (xss.length - 1) (dropRow xss) ++ bkJ (xss.take (xss.length - 1)) (xss.length - 1) := by
    rw [List.drop_append_of_le_length (by simpa [rowBk] using hrow)]
    unfold dropRow rowBk; rw [List.map_drop]
  rw [e1, e2]
  unfold dropR; rw [if_pos h]
  split
  · rename_i h0
    rw [List.eq_nil_of_length_eq_zero h0, List.length_take, show min (xss.length - 1) xss.length = xss.length - 1 by omega]
    rfl
  · have h3 : xss.length - 1 < (xss.set (xss.length - 1) (dropRow xss)).length := by simpa using hl
    have := bk_last (xss := xss.set (xss.length - 1) (dropRow xss)) (xss.length - 1) h3
    rw [List.length_set] at this
    rw [List.length_set]
    rw [show xss.length - 1 + 1 = xss.length by omega] at this
    rw [this, List.take_set_of_le (Nat.le_refl _)]
    congr 1
    simp [List.getD, List.getElem?_set_self hl]

end Go.Proofs.Ytnljlehbjdambaa
