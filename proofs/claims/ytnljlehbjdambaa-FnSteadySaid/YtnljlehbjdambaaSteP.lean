/-
  Constant bits: each bucket is full or empty throughout; no place is cut.
-/
import Derived.Test.YtnljlehbjdambaaAddP
import Derived.Test.YtnljlehbjdambaaCut
namespace Go.Proofs.Ytnljlehbjdambaa
open Go.RowKit
set_option linter.unusedSimpArgs false
set_option linter.unusedVariables false

def constW (bit : Int) (xss : List (List Int)) : Prop := ∀ (k : Nat) (xs : List Int), xss[k]? = some xs → ∀ x ∈ xs, x = bit * pw k
theorem const_push {bit v : Int} {xss : List (List Int)} {r : Nat} (h : constW bit xss) (hv : v = bit * pw r) : constW bit (pushR (moreR xss r) r v) := by
  intro k xs hk x hx
  rcases pushR_get hk with ⟨hne, hk⟩ | ⟨rfl, rfl⟩
  · unfold moreR at hk
    split at hk
    · rcases Nat.lt_or_ge k xss.length with h1 | h1
      · rw [List.getElem?_append_left h1] at hk; exact h k xs hk x hx
      · rw [List.getElem?_append_right h1] at hk
        rcases Nat.eq_zero_or_pos (k - xss.length) with h2 | h2
        · rw [h2] at hk
          have : xs = [] := by simpa using hk.symm
          rw [this] at hx; cases hx
        · rw [List.getElem?_eq_none (by simp; omega)] at hk; cases hk
    · exact h k xs hk x hx
  · rcases List.mem_append.1 hx with hx | hx
    · by_cases hl : k < xss.length
      · rw [show (moreR xss k).getD k [] = xss.getD k [] from by unfold moreR; rw [if_neg (by omega)]] at hx
        exact h k _ (getD_of hl) x hx
      · have : (moreR xss k).getD k [] = [] := by
          unfold moreR
          split
          · rename_i e; rw [e]; simp
          · simp [List.getD, List.getElem?_eq_none (show xss.length ≤ k by omega)]
        rw [this] at hx; cases hx
    · simp only [List.mem_singleton] at hx
      rw [hx]; exact hv
theorem const_set {bit : Int} {xss : List (List Int)} {r m : Nat} (h : constW bit xss) (hr : r < xss.length) (ys : List Int) (hy : ∀ y ∈ ys, y = bit * pw r) : constW bit (xss.set r ys) := by
  intro k xs hk x hx
  by_cases e : r = k
  · subst e
    rw [List.getElem?_set_self hr] at hk
    obtain rfl := Option.some.inj hk
    exact hy x hx
  · rw [List.getElem?_set_ne e] at hk
    exact h k xs hk x hx
theorem const_both {bit : Int} {xss : List (List Int)} {r : Nat} (h : constW bit xss) (hq : quasi r xss) (hl : longB xss r = true) : bothOf (xss.getD r []) = bit * pw (r + 1) := by
  have h4 := quasi_long hq hl
  have h5 := h r _ (getD_of hq.2.1)
  have e0 := h5 _ (getD_mem0 (l := xss.getD r []) (i := 0) (by omega)); have e1 := h5 _ (getD_mem0 (l := xss.getD r []) (i := 1) (by omega))
  unfold bothOf
  rw [e0, e1, pw_succ, ← Int.mul_assoc, Int.mul_comm bit 2, Int.mul_assoc]
  omega
theorem const_shift {bit : Int} {xss : List (List Int)} {r : Nat} (h : constW bit xss) (hq : quasi r xss) (hl : longB xss r = true) : constW bit (shiftR xss r) := by
  have h2 := hq.2.1
  unfold shiftR
  refine const_set (m := 0) (const_push h (const_both h hq hl)) (by rw [pushR_len, moreR_len (by omega)]; split <;> omega) _ fun y hy => ?_
  exact h r _ (getD_of h2) y (List.mem_of_mem_drop hy)
theorem const_go {bit : Int} : ∀ (f r : Nat) (xss : List (List Int)), constW bit xss → quasi r xss → constW bit (addGo f r xss)
  | 0, _, _, h, _ => h
  | f + 1, r, xss, h, hq => by
    unfold addGo
    cases hl : longB xss r
    · rw [if_neg (by simp)]; exact h
    · rw [if_pos rfl]
      by_cases h7 : r = 7
      · rw [if_pos h7]
        exact const_set (m := 0) h hq.2.1 _ fun y hy => h r _ (getD_of hq.2.1) y (List.mem_of_mem_drop hy)
      · rw [if_neg h7]
        exact const_go f (r + 1) _ (const_shift h hq hl) (quasi_step hq hl h7)
theorem const_add {bit : Int} {xss : List (List Int)} (h : constW bit xss) (hb : addB xss bit = true) : constW bit (addR xss bit) := by
  have h1 := hb
  unfold addB at h1
  rw [Bool.and_eq_true, inB_iff] at h1
  unfold addR; rw [if_pos hb]
  exact const_go 8 0 _ (const_push h (by rw [show pw 0 = 1 from rfl, Int.mul_one])) (quasi_start h1.1 h1.2.1 h1.2.2)

/-- The state of a window of i bits that are all the same. -/
structure Steady (bit : Int) (i : Nat) (xss : List (List Int)) : Prop where
  win : winB xss = true
  con : constW bit xss
  tot : wT 0 xss = (i : Int)
theorem wT_nn : ∀ (xss : List (List Int)) (k : Nat), 0 ≤ wT k xss
  | [], _ => Int.le_refl _
  | xs :: t, k => by
    have h1 := wT_nn t (k + 1)
    have h2 : 0 ≤ pw k * (xs.length : Int) := Int.mul_nonneg (by unfold pw; exact Int.natCast_nonneg _) (Int.natCast_nonneg _)
    simp only [wT]; omega
theorem wT_row : ∀ (xss : List (List Int)) (k r : Nat), r < xss.length → 1 ≤ (xss.getD r []).length → pw (k + r) ≤ wT k xss
  | [], k, r, h, _ => by simp at h
  | xs :: t, k, 0, _, h => by
    have h1 := wT_nn t (k + 1)
    have h2 : pw k * 1 ≤ pw k * (xs.length : Int) := Int.mul_le_mul_of_nonneg_left (by simp at h; omega) (by unfold pw; exact Int.natCast_nonneg _)
    simp only [wT, Nat.add_zero]; omega
  | xs :: t, k, r + 1, hr, h => by
    have h1 := wT_row t (k + 1) r (by simpa using hr) (by simpa using h)
    have h2 : 0 ≤ pw k * (xs.length : Int) := Int.mul_nonneg (by unfold pw; exact Int.natCast_nonneg _) (Int.natCast_nonneg _)
    rw [show k + (r + 1) = k + 1 + r by omega]
    simp only [wT]; omega
theorem steady_nil (bit : Int) : Steady bit 0 [] := ⟨by unfold winB; rfl, by intro k xs h; simp at h, rfl⟩
theorem steady_addB {bit : Int} {i : Nat} {xss : List (List Int)} (h : Steady bit i xss) (h0 : 0 ≤ bit) (h1 : bit ≤ 1) : addB xss bit = true := by
  unfold addB; rw [h.win, inB_yes h0 h1]; rfl
theorem steady_add {bit : Int} {i : Nat} {xss : List (List Int)} (h : Steady bit i xss) (h0 : 0 ≤ bit) (h1 : bit ≤ 1) (hi : i < 100) : Steady bit (i + 1) (addR xss bit) := by
  have hb := steady_addB h h0 h1
  refine ⟨addR_win hb, const_add h.con hb, ?_⟩
  rcases addR_tot hb with ⟨a, _⟩ | ⟨a, _⟩
  · rw [a, h.tot]; omega
  · have hl : 7 < xss.length := by omega
    have := wT_row xss 0 7 hl (rowB_len (winB_row h.win (getD_of hl))).1
    rw [h.tot] at this
    have e : pw (0 + 7) = 128 := rfl
    omega
theorem bk_const {bit : Int} {xss : List (List Int)} (h : constW bit xss) : ∀ j, j ≤ xss.length → ∀ b ∈ bkJ xss j, b.2 = bit * b.1
  | 0, _, b, hb => by simp [bkJ] at hb
  | j + 1, hj, b, hb => by
    rw [bkJ, List.mem_append] at hb
    rcases hb with hb | hb
    · exact bk_const h j (by omega) b hb
    · obtain ⟨x, hx, rfl⟩ := List.mem_map.1 hb
      have hl : xss.length - 1 - j < xss.length := by omega
      exact h _ _ (getD_of hl) x hx
theorem steady_bk {bit : Int} {i : Nat} {xss : List (List Int)} (h : Steady bit i xss) : ∀ b ∈ bucketsL xss, b.2 = bit * b.1 := by
  unfold bucketsL; rw [if_pos h.win]; exact bk_const h.con _ (Nat.le_refl _)
theorem sm_const {bit : Int} : ∀ (bs : List (Int × Int)), (∀ b ∈ bs, b.2 = bit * b.1) → sm2 bs = bit * sm1 bs
  | [], _ => by simp [sm1, sm2]
  | b :: t, h => by
    have ih := sm_const t fun x hx => h x (by simp [hx])
    have hb := h b (by simp)
    simp only [sm1, sm2, List.map_cons, List.sum_cons] at ih ⊢
    rw [ih, hb, Int.mul_add]
theorem steady_tot {bit : Int} {i : Nat} {xss : List (List Int)} (h : Steady bit i xss) : sm1 (bucketsL xss) = (i : Int) ∧ sm2 (bucketsL xss) = bit * (i : Int) := by
  have h1 := (bk_sum h.win).1.trans h.tot
  exact ⟨h1, by rw [sm_const _ (steady_bk h), h1]⟩
theorem steady_take {bit : Int} {i : Nat} {xss : List (List Int)} (h : Steady bit i xss) (k : Nat) : sm2 ((bucketsL xss).take k) = bit * sm1 ((bucketsL xss).take k) := sm_const _ fun b hb => steady_bk h b (List.mem_of_mem_take hb)
/-- No place of constant bits is cut. -/
theorem cut_const (bit n m k : Int) : cutB n (bit * n) m (bit * m) k = false := by
  cases hr : cutR n (bit * n) m (bit * m) k
  · exact cutB_no hr
  · rw [cutB_yes hr, decide_eq_false_iff_not]
    have h1 := hr
    unfold cutR at h1
    simp only [Bool.and_eq_true, inB_iff] at h1
    obtain ⟨⟨⟨⟨a1, a2⟩, _⟩, _⟩, _⟩ := h1
    have e : bit * n * m - bit * m * n = 0 := by rw [Int.mul_assoc, Int.mul_assoc, Int.mul_comm m n]; omega
    rw [e]
    have hl : 0 ≤ lnI k := by unfold lnI; repeat (first | omega | split)
    have h2 : 0 ≤ lnI k * (n + m) * n * m := Int.mul_nonneg (Int.mul_nonneg (Int.mul_nonneg hl (by omega)) (by omega)) (by omega)
    omega

end Go.Proofs.Ytnljlehbjdambaa
