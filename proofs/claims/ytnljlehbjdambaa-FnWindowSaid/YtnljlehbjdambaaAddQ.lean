/-
  What WindowAdd's rows are while one may be too long; what it answers is a valid window.
-/
import Derived.Test.YtnljlehbjdambaaAddO
namespace Go.Proofs.Ytnljlehbjdambaa
open Go.RowKit
set_option linter.unusedSimpArgs false
set_option linter.unusedVariables false

theorem getD_of {xss : List (List Int)} {r : Nat} (h : r < xss.length) : xss[r]? = some (xss.getD r []) := by
  simp [List.getD, List.getElem?_eq_getElem h]
theorem getD_some {xss : List (List Int)} {r : Nat} {xs : List Int} (h : xss[r]? = some xs) : xss.getD r [] = xs := by simp [List.getD, h]

/-- What the rows are while a row r may be too long by one. -/
def quasi (r : Nat) (xss : List (List Int)) : Prop := xss.length ≤ 8 ∧ r < xss.length ∧ ∀ k xs, xss[k]? = some xs → (1 ≤ xs.length ∧ (xs.length ≤ 3 ∨ (k = r ∧ xs.length ≤ 4))) ∧ ∀ x ∈ xs, 0 ≤ x ∧ x ≤ pw k
theorem quasi_end {r : Nat} {xss : List (List Int)} (h : quasi r xss) (hl : longB xss r = false) : winB xss = true := by
  obtain ⟨h1, h2, h3⟩ := h
  refine winB_good h1 fun k xs hk => ?_
  obtain ⟨⟨h4, h5⟩, h6⟩ := h3 k xs hk
  have h7 : xs.length ≤ 3 := by
    rcases h5 with h5 | ⟨rfl, h5⟩
    · exact h5
    · unfold longB at hl
      rw [decide_eq_true h2, Bool.true_and, getD_some hk, decide_eq_false_iff_not] at hl
      omega
  exact rowB_yes (inB_yes (by omega) (by omega)) (fun j x hx => inB_yes (h6 x (List.mem_of_getElem? hx)).1 (h6 x (List.mem_of_getElem? hx)).2)
theorem quasi_long {r : Nat} {xss : List (List Int)} (h : quasi r xss) (hl : longB xss r = true) : (xss.getD r []).length = 4 := by
  have h4 := (h.2.2 r _ (getD_of h.2.1)).1
  unfold longB at hl
  rw [decide_eq_true h.2.1, Bool.true_and, decide_eq_true_eq] at hl
  omega
theorem quasi_drop {r : Nat} {xss : List (List Int)} (h : quasi r xss) (hl : longB xss r = true) : winB (xss.set r ((xss.getD r []).drop 1)) = true := by
  have h4 := quasi_long h hl
  obtain ⟨h1, h2, h3⟩ := h
  refine winB_good (by simpa using h1) fun k xs hk => ?_
  have h5 : (1 ≤ xs.length ∧ xs.length ≤ 3) ∧ ∀ x ∈ xs, 0 ≤ x ∧ x ≤ pw k := by
    by_cases hkr : r = k
    · subst hkr
      rw [List.getElem?_set_self h2] at hk
      obtain rfl := Option.some.inj hk
      refine ⟨by rw [List.length_drop]; omega, fun x hx => (h3 r _ (getD_of h2)).2 x (List.mem_of_mem_drop hx)⟩
    · rw [List.getElem?_set_ne hkr] at hk
      obtain ⟨⟨h5, h6⟩, h7⟩ := h3 k xs hk
      exact ⟨by omega, h7⟩
  exact rowB_yes (inB_yes (by omega) (by omega)) (fun j x hx => inB_yes (h5.2 x (List.mem_of_getElem? hx)).1 (h5.2 x (List.mem_of_getElem? hx)).2)
theorem moreR_len {xss : List (List Int)} {r : Nat} (h : r ≤ xss.length) : (moreR xss r).length = if r = xss.length then xss.length + 1 else xss.length := by
  unfold moreR; split <;> simp
theorem moreR_lt {xss : List (List Int)} {r : Nat} (h : r ≤ xss.length) : r < (moreR xss r).length := by rw [moreR_len h]; split <;> omega
theorem moreR_get {xss : List (List Int)} {r k : Nat} {xs : List Int} (h : r ≤ xss.length) (hk : (moreR xss r)[k]? = some xs) : xss[k]? = some xs ∨ (k = r ∧ r = xss.length ∧ xs = []) := by
  unfold moreR at hk
  split at hk
  · rename_i e
    rcases Nat.lt_or_ge k xss.length with h1 | h1
    · rw [List.getElem?_append_left h1] at hk; exact .inl hk
    · rw [List.getElem?_append_right h1] at hk
      have : k - xss.length = 0 := by
        rcases Nat.eq_zero_or_pos (k - xss.length) with h2 | h2
        · exact h2
        · rw [List.getElem?_eq_none (by simp; omega)] at hk; cases hk
      rw [this] at hk
      exact .inr ⟨by omega, e, by simpa using hk.symm⟩
  · exact .inl hk
theorem pushR_len (xss : List (List Int)) (r : Nat) (v : Int) : (pushR xss r v).length = xss.length := by simp [pushR]
theorem pushR_get {xss : List (List Int)} {r k : Nat} {v : Int} {xs : List Int} (hk : (pushR xss r v)[k]? = some xs) : (k ≠ r ∧ xss[k]? = some xs) ∨ (k = r ∧ xs = xss.getD r [] ++ [v]) := by
  unfold pushR at hk
  by_cases e : r = k
  · subst e
    have hl : r < xss.length := by have := (List.getElem?_eq_some_iff.1 hk).1; simpa using this
    rw [List.getElem?_set_self hl] at hk
    exact .inr ⟨rfl, (Option.some.inj hk).symm⟩
  · rw [List.getElem?_set_ne e] at hk
    exact .inl ⟨fun h => e h.symm, hk⟩
theorem more_row {xss : List (List Int)} {r : Nat} (h : r ≤ xss.length) (hv : ∀ k xs, xss[k]? = some xs → k = r → xs.length ≤ 3 ∧ ∀ x ∈ xs, 0 ≤ x ∧ x ≤ pw k) : ((moreR xss r).getD r []).length ≤ 3 ∧ ∀ x ∈ (moreR xss r).getD r [], 0 ≤ x ∧ x ≤ pw r := by
  rcases moreR_get h (getD_of (moreR_lt h)) with h1 | ⟨_, _, h1⟩
  · exact hv r _ h1 rfl
  · rw [h1]; simp
theorem quasi_start {xss : List (List Int)} {bit : Int} (h : winB xss = true) (h0 : 0 ≤ bit) (h1 : bit ≤ 1) : quasi 0 (pushR (moreR xss 0) 0 bit) := by
  have h8 := winB_len h
  have hrow : ∀ k xs, xss[k]? = some xs → (1 ≤ xs.length ∧ xs.length ≤ 3) ∧ ∀ x ∈ xs, 0 ≤ x ∧ x ≤ pw k := fun k xs hk => ⟨rowB_len (winB_row h hk), fun x hx => rowB_elem (winB_row h hk) hx⟩
  obtain ⟨m1, m2⟩ := more_row (r := 0) (Nat.zero_le _) (fun k xs hk _ => ⟨(hrow k xs hk).1.2, (hrow k xs hk).2⟩)
  refine ⟨by rw [pushR_len, moreR_len (Nat.zero_le _)]; split <;> omega, by rw [pushR_len]; exact moreR_lt (Nat.zero_le _), fun k xs hk => ?_⟩
  rcases pushR_get hk with ⟨hne, hk⟩ | ⟨rfl, rfl⟩
  · rcases moreR_get (Nat.zero_le _) hk with hk | ⟨e, _⟩
    · obtain ⟨⟨a, b⟩, c⟩ := hrow k xs hk
      exact ⟨⟨a, .inl b⟩, c⟩
    · exact absurd e hne
  · refine ⟨⟨by rw [List.length_append]; exact Nat.le_add_left _ _, .inr ⟨rfl, by rw [List.length_append]; exact Nat.succ_le_succ m1⟩⟩, fun x hx => ?_⟩
    rcases List.mem_append.1 hx with hx | hx
    · exact m2 x hx
    · simp only [List.mem_singleton] at hx; subst hx
      exact ⟨h0, by simpa [pw] using h1⟩
theorem getD_mem0 {l : List Int} {i : Nat} (h : i < l.length) : l.getD i 0 ∈ l := by
  rw [show l.getD i 0 = l[i] by simp [List.getD, List.getElem?_eq_getElem h]]
  exact List.getElem_mem _
theorem both_bd {r : Nat} {xss : List (List Int)} (h : quasi r xss) (hl : longB xss r = true) : 0 ≤ bothOf (xss.getD r []) ∧ bothOf (xss.getD r []) ≤ pw (r + 1) := by
  have h4 := quasi_long h hl
  have h5 := (h.2.2 r _ (getD_of h.2.1)).2
  have := h5 _ (getD_mem0 (l := xss.getD r []) (i := 0) (by omega)); have := h5 _ (getD_mem0 (l := xss.getD r []) (i := 1) (by omega))
  rw [pw_succ]; unfold bothOf; omega
theorem shiftR_get {xss : List (List Int)} {r k : Nat} {xs : List Int} (hr : r < xss.length) (hk : (shiftR xss r)[k]? = some xs) :
    (k ≠ r ∧ k ≠ r + 1 ∧ xss[k]? = some xs) ∨ (k = r + 1 ∧ xs = (moreR xss (r + 1)).getD (r + 1) [] ++ [bothOf (xss.getD r [])]) ∨ (k = r ∧ xs = (xss.getD r []).drop 2) := by
  unfold shiftR at hk
  by_cases e : r = k
  · subst e
    rw [List.getElem?_set_self (by rw [pushR_len, moreR_len (by omega)]; split <;> omega)] at hk
    exact .inr (.inr ⟨rfl, (Option.some.inj hk).symm⟩)
  · rw [List.getElem?_set_ne e] at hk
    rcases pushR_get hk with ⟨hne, hk⟩ | ⟨rfl, rfl⟩
    · rcases moreR_get (by omega) hk with hk | ⟨e2, _⟩
      · exact .inl ⟨fun h => e h.symm, hne, hk⟩
      · exact absurd e2 hne
    · exact .inr (.inl ⟨rfl, rfl⟩)
theorem shiftR_len {xss : List (List Int)} {r : Nat} (hr : r < xss.length) : (shiftR xss r).length = if r + 1 = xss.length then xss.length + 1 else xss.length := by
  unfold shiftR; rw [List.length_set, pushR_len, moreR_len (by omega)]
theorem quasi_step {r : Nat} {xss : List (List Int)} (h : quasi r xss) (hl : longB xss r = true) (h7 : r ≠ 7) : quasi (r + 1) (shiftR xss r) := by
  have h4 := quasi_long h hl
  have hb := both_bd h hl
  obtain ⟨h1, h2, h3⟩ := h
  obtain ⟨m1, m2⟩ := more_row (xss := xss) (r := r + 1) (by omega) (fun k xs hk hkr => by
    obtain ⟨⟨a, b⟩, c⟩ := h3 k xs hk
    exact ⟨by omega, c⟩)
  have h2' := h2
  refine ⟨by rw [shiftR_len h2]; split <;> omega, by rw [shiftR_len h2]; split <;> omega, fun k xs hk => ?_⟩
  rcases shiftR_get h2 hk with ⟨a, b, c⟩ | ⟨rfl, rfl⟩ | ⟨rfl, rfl⟩
  · obtain ⟨⟨d, e⟩, f⟩ := h3 k xs c
    exact ⟨⟨d, by omega⟩, f⟩
  · refine ⟨⟨by rw [List.length_append]; exact Nat.le_add_left _ _, .inr ⟨rfl, by rw [List.length_append]; exact Nat.succ_le_succ m1⟩⟩, fun x hx => ?_⟩
    rcases List.mem_append.1 hx with hx | hx
    · exact m2 x hx
    · simp only [List.mem_singleton] at hx; subst hx; exact hb
  · exact ⟨⟨by rw [List.length_drop]; omega, .inl (by rw [List.length_drop]; omega)⟩, fun x hx => (h3 k _ (getD_of h2)).2 x (List.mem_of_mem_drop hx)⟩
theorem addGo_win : ∀ (f r : Nat) (xss : List (List Int)), quasi r xss → 8 ≤ f + r → winB (addGo f r xss) = true
  | 0, r, xss, h, hf => by have := h.1; have := h.2.1; omega
  | f + 1, r, xss, h, hf => by
    unfold addGo
    cases hl : longB xss r
    · rw [if_neg (by simp)]; exact quasi_end h hl
    · rw [if_pos rfl]
      by_cases h7 : r = 7
      · rw [if_pos h7]; exact quasi_drop h hl
      · rw [if_neg h7]; exact addGo_win f (r + 1) _ (quasi_step h hl h7) (by omega)
theorem addR_win {xss : List (List Int)} {bit : Int} (h : addB xss bit = true) : winB (addR xss bit) = true := by
  have h1 := h
  unfold addB at h1
  rw [Bool.and_eq_true, inB_iff] at h1
  unfold addR; rw [if_pos h]
  exact addGo_win 8 0 _ (quasi_start h1.1 h1.2.1 h1.2.2) (by omega)

end Go.Proofs.Ytnljlehbjdambaa
