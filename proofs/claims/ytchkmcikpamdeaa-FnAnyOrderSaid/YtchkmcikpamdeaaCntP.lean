/-
  StatsAdd, plain: what is added stays valid; totals; the order of two examples does not matter.
-/
import Derived.Test.YtchkmcikpamdeaaAddT
namespace Go.Proofs.Ytchkmcikpamdeaa
open Go.RowKit
set_option linter.unusedSimpArgs false
set_option linter.unusedVariables false

theorem addAt_len (l : List Int) (j : Nat) (u : Int) : (addAt l j u).length = l.length := by unfold addAt; rw [List.length_set]
theorem addAt_get (l : List Int) (j : Nat) (u : Int) (k : Nat) (hj : j < l.length) : (addAt l j u).getD k 0 = if k = j then l.getD k 0 + u else l.getD k 0 := by
  unfold addAt
  simp only [List.getD, List.getElem?_set]
  by_cases h : j = k
  · subst h; simp [hj]
  · rw [if_neg h, if_neg (fun e => h e.symm)]
theorem addAt_sum : ∀ (l : List Int) (j : Nat) (u : Int), j < l.length → (addAt l j u).sum = l.sum + u
  | [], j, u, h => by simp at h
  | x :: t, 0, u, _ => by simp [addAt]; omega
  | x :: t, j + 1, u, h => by
    have ih := addAt_sum t j u (by simpa using h)
    unfold addAt at ih ⊢
    simp only [List.set_cons_succ, List.sum_cons, List.getD_cons_succ] at ih ⊢
    rw [ih]; omega
theorem addAt_mem {l : List Int} {j : Nat} {u x : Int} (h : x ∈ addAt l j u) : x ∈ l ∨ (j < l.length ∧ x = l.getD j 0 + u) := by
  unfold addAt at h
  by_cases hj : j < l.length
  · rcases List.mem_or_eq_of_mem_set h with h | h
    · exact .inl h
    · exact .inr ⟨hj, h⟩
  · rw [List.set_eq_of_length_le (by omega)] at h; exact .inl h
theorem addAt_comm (l : List Int) (i j : Nat) (u v : Int) : addAt (addAt l i u) j v = addAt (addAt l j v) i u := by
  apply List.ext_getElem?
  intro k
  unfold addAt
  simp only [List.getD, List.getElem?_set, List.length_set]
  by_cases hi : i < l.length <;> by_cases hj : j < l.length <;> by_cases e1 : i = k <;> by_cases e2 : j = k <;> by_cases e3 : i = j <;>
    (try subst e1) <;> (try subst e2) <;> simp_all [List.getElem?_eq_getElem] <;> (try omega) <;> (split <;> first | rfl | (congr 1; omega))
theorem getD_mem {l : List Int} {j : Nat} (h : j < l.length) : l.getD j 0 ∈ l := by simp [List.getD, h]
theorem nonneg_le_sum : ∀ {l : List Int}, (∀ x ∈ l, 0 ≤ x) → ∀ x ∈ l, x ≤ l.sum
  | [], _, x, h => by simp at h
  | y :: t, hl, x, h => by
    have h0 := hl y (List.mem_cons_self ..)
    have ht : 0 ≤ t.sum := by
      clear h
      induction t with
      | nil => simp
      | cons z t ih => simp only [List.sum_cons]; have := hl z (by simp); have := ih (fun a ha => hl a (by simp at ha ⊢; rcases ha with h | h; exact .inl h; exact .inr (.inr h))); omega
    simp only [List.sum_cons]
    rcases List.mem_cons.1 h with rfl | h
    · omega
    · have := nonneg_le_sum (fun a ha => hl a (List.mem_cons_of_mem _ ha)) x h; omega
theorem badW_all {l : List Int} (h : ∀ x ∈ l, 0 ≤ x ∧ x ≤ 999) : badW l = false := badW_no fun j x hx => inB_yes (h x (List.mem_of_getElem? hx)).1 (h x (List.mem_of_getElem? hx)).2
/-- Totals that are right stay so. -/
theorem totB_add {m : Nat} {ts : List Int} {j : Nat} {u : Int} (h : totB m ts = true) (hj : j < m) (hu : 0 ≤ u) (hs : ts.sum + u ≤ 999) : totB m (addAt ts j u) = true := by
  unfold totB at h ⊢
  simp only [Bool.and_eq_true, decide_eq_true_eq, Bool.not_eq_true'] at h ⊢
  obtain ⟨⟨h1, h2⟩, h3⟩ := h
  have hsum := addAt_sum ts j u (by omega)
  have hnn : ∀ x ∈ addAt ts j u, 0 ≤ x := fun x hx => by
    rcases addAt_mem hx with h | ⟨h, rfl⟩
    · exact (badW_get h2 h).1
    · have := (badW_get h2 (getD_mem h)).1; omega
  refine ⟨⟨by rw [addAt_len]; exact h1, badW_all fun x hx => ⟨hnn x hx, ?_⟩⟩, by omega⟩
  have := nonneg_le_sum hnn x hx
  omega
theorem idx_inj {m i b k c : Nat} (hm : m = 2 ∨ m = 3) (hk : k < m) (hc : c < m) : i * m + k = b * m + c ↔ i = b ∧ k = c := by
  rcases hm with rfl | rfl <;> constructor <;> (intro h; omega)
theorem colB_add {m c k b : Nat} {u : Int} {row : List Int} (hm : m = 2 ∨ m = 3) (hk : k < m) (hc : c < m) (hj : b * m + c < row.length) :
    ∀ nb, colB m k (addAt row (b * m + c) u) nb = colB m k row nb + (if k = c ∧ b < nb then u else 0)
  | 0 => by simp [colB]
  | nb + 1 => by
    have ih := colB_add (u := u) hm hk hc hj nb
    show colB m k (addAt row (b * m + c) u) nb + (addAt row (b * m + c) u).getD (nb * m + k) 0 = colB m k row nb + row.getD (nb * m + k) 0 + _
    rw [ih, addAt_get _ _ _ _ hj]
    have he := idx_inj (i := nb) (b := b) hm hk hc
    by_cases h1 : nb * m + k = b * m + c
    · obtain ⟨e1, e2⟩ := he.1 h1
      rw [if_pos h1, if_neg (by omega), if_pos ⟨e2, by omega⟩]; omega
    · rw [if_neg h1]
      by_cases h2 : k = c ∧ b < nb
      · rw [if_pos h2, if_pos ⟨h2.1, by omega⟩]; omega
      · rw [if_neg h2, if_neg (fun h3 => h2 ⟨h3.1, by
          have : nb ≠ b := fun e => h1 (he.2 ⟨e, h3.1⟩)
          omega⟩)]; omega
theorem cell_le_col {m k : Nat} {row : List Int} (h : ∀ x ∈ row, 0 ≤ x ∧ x ≤ 999) : ∀ nb b, b < nb → row.getD (b * m + k) 0 ≤ colB m k row nb
  | 0, b, hb => by omega
  | nb + 1, b, hb => by
    have h1 := (colB_bd (m := m) (k := k) h nb).1
    have h2 : 0 ≤ row.getD (nb * m + k) 0 := by
      by_cases hl : nb * m + k < row.length
      · exact (h _ (getD_mem hl)).1
      · simp [List.getD, List.getElem?_eq_none (Nat.le_of_not_lt hl)]
    show _ ≤ colB m k row nb + row.getD (nb * m + k) 0
    by_cases e : b = nb
    · subst e; omega
    · have := cell_le_col (m := m) (k := k) h nb b (by omega); omega
theorem rowOkB_iff {m nb : Nat} {ts row : List Int} : rowOkB m ts row (nb : Nat) = true ↔ row.length = nb * m ∧ badW row = false ∧ ∀ k, k < m → colB m k row nb ≤ ts.getD k 0 := by
  constructor
  · intro h
    unfold rowOkB at h
    simp only [Bool.and_eq_true, decide_eq_true_eq, Bool.not_eq_true'] at h
    refine ⟨by have := h.1.1; exact_mod_cast this, h.1.2, fun k hk => ?_⟩
    have := allB_iff.1 h.2 k hk
    simpa using this
  · exact fun ⟨h1, h2, h3⟩ => rowOkB_good h1 h2 h3
/-- A row of cells that is right stays so. -/
theorem rowOk_add {m nb c : Nat} {ts row : List Int} {b u : Int} (hm : m = 2 ∨ m = 3) (hc : c < m) (hu : 0 ≤ u) (hb : -1 ≤ b ∧ b < nb) (ht : totB m ts = true) (hs : ts.sum + u ≤ 999)
    (h : rowOkB m ts row (nb : Nat) = true) : rowOkB m (addAt ts c u) (addRow m (c : Nat) u row b) (nb : Nat) = true := by
  obtain ⟨h1, h2, h3⟩ := rowOkB_iff.1 h
  have ht2 := totB_add ht hc hu hs
  have htl : ts.length = m := by unfold totB at ht; simp only [Bool.and_eq_true, decide_eq_true_eq] at ht; exact ht.1.1
  have hmono : ∀ k, ts.getD k 0 ≤ (addAt ts c u).getD k 0 := fun k => by
    rw [addAt_get _ _ _ _ (by omega)]; split <;> omega
  by_cases hb0 : 0 ≤ b
  · obtain ⟨B, rfl⟩ := Int.eq_ofNat_of_zero_le hb0
    have hBn : B < nb := by omega
    have hidx : ((B : Int) * m + (c : Nat)).toNat = B * m + c := by
      have : (B : Int) * m + (c : Nat) = ((B * m + c : Nat) : Int) := by push_cast; rfl
      rw [this, Int.toNat_natCast]
    have hrow : addRow m (c : Nat) u row (B : Nat) = addAt row (B * m + c) u := by unfold addRow; rw [if_pos (by omega), hidx]
    have hj : B * m + c < row.length := by rw [h1]; exact idx_lt hBn hc
    rw [hrow]
    have hcol : ∀ k, k < m → colB m k (addAt row (B * m + c) u) nb ≤ (addAt ts c u).getD k 0 := fun k hk => by
      rw [colB_add hm hk hc hj, addAt_get _ _ _ _ (by omega)]
      have := h3 k hk
      by_cases e : k = c
      · rw [if_pos ⟨e, hBn⟩, if_pos e]; omega
      · rw [if_neg (fun h => e h.1), if_neg e]; omega
    have hnn : ∀ x ∈ addAt row (B * m + c) u, 0 ≤ x := fun x hx => by
      rcases addAt_mem hx with h | ⟨h, rfl⟩
      · exact (badW_get h2 h).1
      · have := (badW_get h2 (getD_mem h)).1; omega
    refine rowOkB_iff.2 ⟨by rw [addAt_len]; exact h1, badW_all fun x hx => ⟨hnn x hx, ?_⟩, hcol⟩
    rcases addAt_mem hx with h | ⟨h, rfl⟩
    · exact (badW_get h2 h).2
    · have e1 := cell_le_col (m := m) (k := c) (fun x hx => badW_get h2 hx) nb B hBn
      have e2 := h3 c hc
      unfold totB at ht2
      simp only [Bool.and_eq_true, decide_eq_true_eq, Bool.not_eq_true'] at ht2
      have e3 := (badW_get ht2.1.2 (getD_mem (l := addAt ts c u) (j := c) (by rw [addAt_len]; omega))).2
      rw [addAt_get _ _ _ _ (by omega), if_pos rfl] at e3
      omega
  · have hrow : addRow m (c : Nat) u row b = row := by unfold addRow; rw [if_neg hb0]
    rw [hrow]
    exact rowOkB_iff.2 ⟨h1, h2, fun k hk => Int.le_trans (h3 k hk) (hmono k)⟩
theorem addK_at {m : Nat} {cl u : Int} {bs : List Int} {xss : List (List Int)} : ∀ k, k ≤ xss.length → ∀ i, i < k → (addK m cl u bs xss k)[i]? = some (addRow m cl u (xss.getD i []) (bs.getD i 0))
  | 0, _, i, h => by omega
  | k + 1, hk, i, h => by
    unfold addK
    by_cases e : i = k
    · subst e
      rw [List.getElem?_set_self (by rw [addK_len]; omega)]
    · rw [List.getElem?_set_ne (fun h => e h.symm)]
      exact addK_at k (by omega) i (by omega)
theorem exRow_get2 : ∀ {ats : List AD} {bs : List Int}, exRowB ats bs = true → ∀ {i : Nat} {a : AD} {b : Int}, ats[i]? = some a → bs[i]? = some b → -1 ≤ b ∧ b ≤ binsI a - 1
  | [], _, _, i, a, b, h, _ => by simp at h
  | _ :: _, [], _, i, a, b, _, h => by simp at h
  | a' :: al, b' :: bl, h, 0, a, b, h1, h2 => by
    simp only [List.getElem?_cons_zero, Option.some.injEq] at h1 h2
    subst h1 h2
    simp only [exRowB, Bool.and_eq_true] at h
    exact inB_iff.1 h.1
  | a' :: al, b' :: bl, h, i + 1, a, b, h1, h2 => by
    simp only [exRowB, Bool.and_eq_true] at h
    exact exRow_get2 h.2 (by simpa using h1) (by simpa using h2)
theorem addStB_iff {ats : List AD} {cs : List ByteArray} {ts : List Int} {xss : List (List Int)} {bs : List Int} {cl u : Int} : addStB ats cs ts xss bs cl u = true ↔ statsB ats cs ts xss = true ∧ exB ats cs bs cl = true ∧ cl ≠ -1 ∧ (1 ≤ u ∧ u ≤ 7) ∧ ts.sum + u ≤ 999 := by
  unfold addStB
  simp only [Bool.and_eq_true, decide_eq_true_eq, inB_iff]
  exact ⟨fun ⟨⟨⟨⟨h1, h2⟩, h3⟩, h4⟩, h5⟩ => ⟨h1, h2, h3, h4, h5⟩, fun ⟨h1, h2, h3, h4, h5⟩ => ⟨⟨⟨⟨h1, h2⟩, h3⟩, h4⟩, h5⟩⟩
/-- What is added to stays right. -/
theorem stats_add {ats : List AD} {cs : List ByteArray} {ts : List Int} {xss : List (List Int)} {bs : List Int} {cl u : Int} (h : addStB ats cs ts xss bs cl u = true) :
    ∃ c : Nat, cl = (c : Nat) ∧ c < cs.length ∧ addT ats cs ts xss bs cl u = addAt ts c u ∧ addX ats cs ts xss bs cl u = addK cs.length (c : Nat) u bs xss xss.length ∧ statsB ats cs (addAt ts c u) (addK cs.length (c : Nat) u bs xss xss.length) = true := by
  obtain ⟨h1, h2, h3, h4, h5⟩ := addStB_iff.1 h
  obtain ⟨e1, e2, e3, e4⟩ := exB_cl h2
  obtain ⟨c, rfl⟩ := Int.eq_ofNat_of_zero_le (show 0 ≤ cl by omega)
  refine ⟨c, rfl, by omega, ?_, ?_, ?_⟩
  · unfold addT; rw [if_pos h, Int.toNat_natCast]
  · unfold addX; rw [if_pos h]
  · have hs := h1
    unfold statsB at hs ⊢
    simp only [Bool.and_eq_true] at hs ⊢
    obtain ⟨⟨s1, s2⟩, s3⟩ := hs
    have hm := schB_m s1
    refine ⟨⟨s1, totB_add s2 (by omega) (by omega) h5⟩, ?_⟩
    unfold rowsB at s3 ⊢
    rw [addK_len]
    simp only [Bool.or_eq_true, Bool.and_eq_true, decide_eq_true_eq] at s3 ⊢
    rcases s3 with s3 | ⟨s3, s4⟩
    · exact .inl s3
    · refine .inr ⟨s3, allB_good fun i hi => ?_⟩
      have ha : ats[i]? = some (ats[i]'(by omega)) := List.getElem?_eq_getElem _
      have hb : bs[i]? = some (bs[i]'(by omega)) := List.getElem?_eq_getElem _
      obtain ⟨nb, hn, hn2, hn4⟩ := attrB_bins (schB_get s1 ha)
      have hr := allB_iff.1 s4 i hi
      have hx := exRow_get2 e4 ha hb
      rw [show ats.getD i noAD = ats[i]'(by omega) by simp [List.getD, ha], hn] at hr ⊢
      rw [show (addK cs.length (c : Nat) u bs xss xss.length).getD i [] = addRow cs.length (c : Nat) u (xss.getD i []) (bs.getD i 0) by simp only [List.getD]; rw [addK_at _ (Nat.le_refl _) i hi]; simp [List.getD]]
      rw [show bs.getD i 0 = bs[i]'(by omega) by simp [List.getD, hb]]
      exact rowOk_add hm (by omega) (by omega) (by rw [hn] at hx; omega) s2 h5 hr
theorem addRow_comm (m : Nat) (c c' : Nat) (u u' : Int) (row : List Int) (b b' : Int) : addRow m (c' : Nat) u' (addRow m (c : Nat) u row b) b' = addRow m (c : Nat) u (addRow m (c' : Nat) u' row b') b := by
  unfold addRow
  by_cases h1 : 0 ≤ b <;> by_cases h2 : 0 ≤ b' <;> simp only [h1, h2, if_true, if_false]
  exact addAt_comm _ _ _ _ _
theorem addK_all {m : Nat} {cl u : Int} {bs : List Int} {xss : List (List Int)} : addK m cl u bs xss xss.length = (List.range xss.length).map fun i => addRow m cl u (xss.getD i []) (bs.getD i 0) := by
  apply List.ext_getElem?
  intro i
  by_cases hi : i < xss.length
  · rw [addK_at _ (Nat.le_refl _) i hi, List.getElem?_map, List.getElem?_range hi]; rfl
  · rw [List.getElem?_eq_none (by rw [addK_len]; omega), List.getElem?_eq_none (by simp; omega)]
theorem addK_comm (m c c' : Nat) (u u' : Int) (bs bs' : List Int) (xss : List (List Int)) :
    addK m (c' : Nat) u' bs' (addK m (c : Nat) u bs xss xss.length) (addK m (c : Nat) u bs xss xss.length).length = addK m (c : Nat) u bs (addK m (c' : Nat) u' bs' xss xss.length) (addK m (c' : Nat) u' bs' xss xss.length).length := by
  rw [addK_all (xss := addK m (c : Nat) u bs xss xss.length), addK_all (xss := addK m (c' : Nat) u' bs' xss xss.length), addK_len, addK_len]
  apply List.map_congr_left
  intro i hi
  have hi' := List.mem_range.1 hi
  have e1 : (addK m (c : Nat) u bs xss xss.length).getD i [] = addRow m (c : Nat) u (xss.getD i []) (bs.getD i 0) := by simp only [List.getD]; rw [addK_at _ (Nat.le_refl _) i hi']; simp [List.getD]
  have e2 : (addK m (c' : Nat) u' bs' xss xss.length).getD i [] = addRow m (c' : Nat) u' (xss.getD i []) (bs'.getD i 0) := by simp only [List.getD]; rw [addK_at _ (Nat.le_refl _) i hi']; simp [List.getD]
  rw [e1, e2]
  exact addRow_comm _ _ _ _ _ _ _ _
/-- Two examples, added one behind the other: the other order does as well, and comes to the same. -/
theorem two_adds {ats : List AD} {cs : List ByteArray} {ts : List Int} {xss : List (List Int)} {b1 b2 : List Int} {c1 u1 c2 u2 : Int}
    (h1 : addStB ats cs ts xss b1 c1 u1 = true) (h2 : addStB ats cs (addT ats cs ts xss b1 c1 u1) (addX ats cs ts xss b1 c1 u1) b2 c2 u2 = true) :
    addStB ats cs ts xss b2 c2 u2 = true ∧ addStB ats cs (addT ats cs ts xss b2 c2 u2) (addX ats cs ts xss b2 c2 u2) b1 c1 u1 = true ∧
    addT ats cs (addT ats cs ts xss b1 c1 u1) (addX ats cs ts xss b1 c1 u1) b2 c2 u2 = addT ats cs (addT ats cs ts xss b2 c2 u2) (addX ats cs ts xss b2 c2 u2) b1 c1 u1 ∧
    addX ats cs (addT ats cs ts xss b1 c1 u1) (addX ats cs ts xss b1 c1 u1) b2 c2 u2 = addX ats cs (addT ats cs ts xss b2 c2 u2) (addX ats cs ts xss b2 c2 u2) b1 c1 u1 := by
  obtain ⟨d1, rfl, l1, t1, x1, s1⟩ := stats_add h1
  obtain ⟨p1, p2, p3, p4, p5⟩ := addStB_iff.1 h1
  rw [t1, x1] at h2
  obtain ⟨d2, rfl, l2, t2, x2, s2⟩ := stats_add h2
  obtain ⟨q1, q2, q3, q4, q5⟩ := addStB_iff.1 h2
  have hl : ts.length = cs.length := statsB_lenT p1
  rw [addAt_sum _ _ _ (by omega)] at q5
  have h3 : addStB ats cs ts xss b2 (d2 : Nat) u2 = true := addStB_iff.2 ⟨p1, q2, q3, q4, by omega⟩
  obtain ⟨d3, e3, l3, t3, x3, s3⟩ := stats_add h3
  obtain rfl : d2 = d3 := by omega
  have h4 : addStB ats cs (addAt ts d2 u2) (addK cs.length (d2 : Nat) u2 b2 xss xss.length) b1 (d1 : Nat) u1 = true := addStB_iff.2 ⟨s3, p2, p3, p4, by rw [addAt_sum _ _ _ (by omega)]; omega⟩
  obtain ⟨d4, e4, l4, t4, x4, s4⟩ := stats_add h4
  obtain rfl : d1 = d4 := by omega
  rw [t1, x1, t3, x3]
  exact ⟨h3, h4, by rw [t2, t4]; exact addAt_comm _ _ _ _ _, by rw [x2, x4]; exact addK_comm _ _ _ _ _ _ _ _⟩
theorem two_adds_no {ats : List AD} {cs : List ByteArray} {ts : List Int} {xss : List (List Int)} {b1 b2 : List Int} {c1 u1 c2 u2 : Int}
    (h : (addStB ats cs ts xss b1 c1 u1 && addStB ats cs (addT ats cs ts xss b1 c1 u1) (addX ats cs ts xss b1 c1 u1) b2 c2 u2) = false) :
    (addStB ats cs ts xss b2 c2 u2 && addStB ats cs (addT ats cs ts xss b2 c2 u2) (addX ats cs ts xss b2 c2 u2) b1 c1 u1) = false := by
  cases h2 : (addStB ats cs ts xss b2 c2 u2 && addStB ats cs (addT ats cs ts xss b2 c2 u2) (addX ats cs ts xss b2 c2 u2) b1 c1 u1)
  · rfl
  · simp only [Bool.and_eq_true] at h2
    obtain ⟨e1, e2, _, _⟩ := two_adds h2.1 h2.2
    rw [e1, e2] at h; cases h

end Go.Proofs.Ytchkmcikpamdeaa
