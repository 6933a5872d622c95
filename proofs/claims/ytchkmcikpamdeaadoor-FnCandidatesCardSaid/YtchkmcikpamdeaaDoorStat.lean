/-
  weights, total, zeros; what StatsOk answers.
-/
import Derived.Test.YtchkmcikpamdeaaDoorFork
namespace Go.Proofs.YtchkmcikpamdeaaDoor
open Go.RowKit
set_option linter.unusedSimpArgs false
set_option linter.unusedVariables false

def badW (xs : List Int) : Bool := xs.any fun x => !inB x 0 999
theorem badW_yes {xs : List Int} {q : Nat} {x : Int} (hx : xs[q]? = some x) (h : inB x 0 999 = false) : badW xs = true := by
  unfold badW; rw [List.any_eq_true]; exact ⟨x, List.mem_of_getElem? hx, by simp [h]⟩
theorem badW_no {xs : List Int} (h : ∀ (j : Nat) (x : Int), xs[j]? = some x → inB x 0 999 = true) : badW xs = false := by
  unfold badW; rw [List.any_eq_false]; intro x hx; obtain ⟨j, hj⟩ := List.getElem?_of_mem hx; simp [h j x hj]
theorem badW_get {xs : List Int} (h : badW xs = false) {x : Int} (hx : x ∈ xs) : 0 ≤ x ∧ x ≤ 999 := by
  unfold badW at h; rw [List.any_eq_false] at h
  have := h x hx
  exact inB_iff.1 (by simpa using this)
theorem sum_bd (zs : List Int) (h : ∀ z ∈ zs, 0 ≤ z ∧ z ≤ 999) : 0 ≤ zs.sum ∧ zs.sum ≤ 999 * zs.length := by
  induction zs with
  | nil => simp
  | cons z zs ih =>
    have h1 := h z (by simp)
    have h2 := ih fun u hu => h u (by simp [hu])
    simp only [List.sum_cons, List.length_cons]
    omega
theorem take_sum {xs : List Int} {k : Nat} {x : Int} (h : xs[k]? = some x) : (xs.take (k + 1)).sum = (xs.take k).sum + x := by
  obtain ⟨h1, h2⟩ := List.getElem?_eq_some_iff.1 h
  rw [List.take_succ_eq_append_getElem h1, List.sum_append]; simp [h2]
/-- The sum of a column's first b numbers, in a row of m columns. -/
def colB (m k : Nat) (row : List Int) : Nat → Int
  | 0 => 0
  | b + 1 => colB m k row b + row.getD (b * m + k) 0
theorem colB_bd {m k : Nat} {row : List Int} (h : ∀ x ∈ row, 0 ≤ x ∧ x ≤ 999) : ∀ b, 0 ≤ colB m k row b ∧ colB m k row b ≤ 999 * b
  | 0 => by simp [colB]
  | b + 1 => by
    have h1 := colB_bd (m := m) (k := k) h b
    have h2 : 0 ≤ row.getD (b * m + k) 0 ∧ row.getD (b * m + k) 0 ≤ 999 := by
      by_cases hl : b * m + k < row.length
      · have := h row[b * m + k] (List.getElem_mem hl); simpa [List.getD, hl] using this
      · simp [List.getD, List.getElem?_eq_none (Nat.le_of_not_lt hl)]
    simp only [colB]
    omega
theorem colB_mono {m k : Nat} {row : List Int} (h : ∀ x ∈ row, 0 ≤ x ∧ x ≤ 999) (b : Nat) : ∀ t, colB m k row b ≤ colB m k row (b + t)
  | 0 => Int.le_refl _
  | t + 1 => by
    have h1 := colB_mono (m := m) (k := k) h b t
    have h2 : 0 ≤ row.getD ((b + t) * m + k) 0 := by
      by_cases hl : (b + t) * m + k < row.length
      · have := h row[(b + t) * m + k] (List.getElem_mem hl); simpa [List.getD, hl] using this.1
      · simp [List.getD, List.getElem?_eq_none (Nat.le_of_not_lt hl)]
    show _ ≤ colB m k row (b + t) + row.getD ((b + t) * m + k) 0
    omega
/-- How many of the first q numbers stand in column k. -/
def cntC (m q k : Nat) : Nat := q / m + (if k < q % m then 1 else 0)
def runC (m q k : Nat) (row : List Int) : Int := colB m k row (cntC m q k)
theorem cntC_succ {m q k : Nat} (hm : m = 2 ∨ m = 3) (hk : k < m) : cntC m (q + 1) k = if k = q % m then cntC m q k + 1 else cntC m q k := by
  unfold cntC
  rcases hm with rfl | rfl <;> (repeat' split) <;> omega
theorem cntC_at {m q : Nat} (hm : m = 2 ∨ m = 3) : cntC m q (q % m) * m + q % m = q := by
  unfold cntC
  rcases hm with rfl | rfl <;> (repeat' split) <;> omega
theorem cntC_all {m b k : Nat} (hm : m = 2 ∨ m = 3) (hk : k < m) : cntC m (b * m) k = b := by
  unfold cntC
  rcases hm with rfl | rfl <;> (repeat' split) <;> omega
theorem cntC_le {m b q k : Nat} (hm : m = 2 ∨ m = 3) (hk : k < m) (hq : q ≤ b * m) : cntC m q k ≤ b := by
  unfold cntC
  rcases hm with rfl | rfl <;> (repeat' split) <;> omega
theorem runC_succ {m q k : Nat} {row : List Int} {x : Int} (hm : m = 2 ∨ m = 3) (hk : k < m) (hx : row[q]? = some x) : runC m (q + 1) k row = if k = q % m then runC m q k row + x else runC m q k row := by
  unfold runC
  rw [cntC_succ hm hk]
  split
  · rename_i h
    subst h
    show colB m (q % m) row (cntC m q (q % m)) + row.getD (cntC m q (q % m) * m + q % m) 0 = _
    rw [cntC_at hm]
    simp [List.getD, hx]
  · rfl
theorem runC_zero {m k : Nat} {row : List Int} (hm : m = 2 ∨ m = 3) : runC m 0 k row = 0 := by
  unfold runC cntC; rcases hm with rfl | rfl <;> simp [colB]
/-- What a row of cells must be, for m classes and nb bins. -/
def rowOkB (m : Nat) (ts row : List Int) (nb : Int) : Bool := decide ((row.length : Int) = nb * m) && !badW row && allB m fun k => decide (colB m k row nb.toNat ≤ ts.getD k 0)
def totB (m : Nat) (ts : List Int) : Bool := decide (ts.length = m) && !badW ts && decide (ts.sum ≤ 999)
def rowsB (ats : List AD) (m : Nat) (ts : List Int) (xss : List (List Int)) : Bool := decide (xss.length = 0) || (decide (xss.length = ats.length) && allB xss.length fun i => rowOkB m ts (xss.getD i []) (binsI (ats.getD i noAD)))
/-- What StatsOk answers. -/
def statsB (ats : List AD) (cs : List ByteArray) (ts : List Int) (xss : List (List Int)) : Bool := schB ats cs && totB cs.length ts && rowsB ats cs.length ts xss
theorem rowOkB_len {m : Nat} {ts row : List Int} {nb : Int} (h : ¬ (row.length : Int) = nb * m) : rowOkB m ts row nb = false := by unfold rowOkB; rw [decide_eq_false h]; rfl
theorem rowOkB_len2 {m nb yn : Nat} {ts row : List Int} (h : row.length = yn) (hne : ¬ yn = nb * m) : rowOkB m ts row (nb : Nat) = false := rowOkB_len (by rw [h]; intro e; apply hne; exact_mod_cast e)
theorem rowOkB_bad {m : Nat} {ts row : List Int} {nb : Int} (h : badW row = true) : rowOkB m ts row nb = false := by unfold rowOkB; rw [h, Bool.not_true, Bool.and_false, Bool.false_and]
theorem rowOkB_col {m k : Nat} {ts row : List Int} {nb : Nat} (hk : k < m) (h : ¬ colB m k row nb ≤ ts.getD k 0) : rowOkB m ts row (nb : Nat) = false := by
  unfold rowOkB; rw [allB_bad hk (by rw [Int.toNat_natCast]; exact decide_eq_false h), Bool.and_false]
theorem rowOkB_good {m : Nat} {ts row : List Int} {nb : Nat} (h1 : row.length = nb * m) (h2 : badW row = false) (h3 : ∀ k, k < m → colB m k row nb ≤ ts.getD k 0) : rowOkB m ts row (nb : Nat) = true := by
  unfold rowOkB
  rw [decide_eq_true (by rw [h1]; push_cast; rfl), h2, allB_good fun k hk => by rw [Int.toNat_natCast]; exact decide_eq_true (h3 k hk)]
  rfl
theorem rowsB_bad {ats : List AD} {m : Nat} {ts : List Int} {xss : List (List Int)} {i : Nat} {row : List Int} {a : AD} (hr : xss[i]? = some row) (ha : ats[i]? = some a) (h : rowOkB m ts row (binsI a) = false) : rowsB ats m ts xss = false := by
  obtain ⟨h1, _⟩ := List.getElem?_eq_some_iff.1 hr
  unfold rowsB
  rw [decide_eq_false (by omega), allB_bad h1 (by simp only [List.getD, hr, ha, Option.getD_some]; exact h), Bool.and_false]; rfl
theorem rowsB_len {ats : List AD} {m : Nat} {ts : List Int} {xss : List (List Int)} (h0 : ¬ xss.length = 0) (h : ¬ xss.length = ats.length) : rowsB ats m ts xss = false := by unfold rowsB; rw [decide_eq_false h0, decide_eq_false h]; rfl
theorem rowsB_zero {ats : List AD} {m : Nat} {ts : List Int} {xss : List (List Int)} (h0 : xss.length = 0) : rowsB ats m ts xss = true := by unfold rowsB; rw [decide_eq_true h0]; rfl
theorem rowsB_good {ats : List AD} {m : Nat} {ts : List Int} {xss : List (List Int)} (h : xss.length = ats.length) (hg : ∀ (i : Nat) (row : List Int) (a : AD), xss[i]? = some row → ats[i]? = some a → rowOkB m ts row (binsI a) = true) : rowsB ats m ts xss = true := by
  unfold rowsB
  rw [decide_eq_true h, allB_good fun i hi => ?_]
  · simp
  · have h2 : i < ats.length := by omega
    simp only [List.getD, List.getElem?_eq_getElem hi, List.getElem?_eq_getElem h2, Option.getD_some]
    exact hg i _ _ (List.getElem?_eq_getElem hi) (List.getElem?_eq_getElem h2)
theorem statsB_no1 {ats : List AD} {cs : List ByteArray} {ts : List Int} {xss : List (List Int)} (h : schB ats cs = false) : statsB ats cs ts xss = false := by simp [statsB, h]
theorem statsB_no2 {ats : List AD} {cs : List ByteArray} {ts : List Int} {xss : List (List Int)} (h : totB cs.length ts = false) : statsB ats cs ts xss = false := by simp [statsB, h]
theorem statsB_at {ats : List AD} {cs : List ByteArray} {ts : List Int} {xss : List (List Int)} (h1 : schB ats cs = true) (h2 : totB cs.length ts = true) : statsB ats cs ts xss = rowsB ats cs.length ts xss := by simp [statsB, h1, h2]
theorem schB_m {ats : List AD} {cs : List ByteArray} (h : schB ats cs = true) : cs.length = 2 ∨ cs.length = 3 := by
  unfold schB at h
  simp only [Bool.and_eq_true] at h
  have := inB_iff.1 h.1.1.1.2
  omega
theorem attrB_bins {a : AD} (h : attrB a = true) : ∃ nb : Nat, binsI a = (nb : Nat) ∧ 2 ≤ nb ∧ nb ≤ 4 := by
  unfold attrB at h
  simp only [Bool.and_eq_true] at h
  obtain ⟨_, h2⟩ := h
  unfold binsI
  split at h2
  · rename_i hz
    simp only [Bool.and_eq_true] at h2
    have := inB_iff.1 h2.1
    exact ⟨a.vals.length, by rw [if_neg (by omega)], by omega, by omega⟩
  · rename_i hz
    simp only [Bool.and_eq_true, cutsB_eq] at h2
    have := inB_iff.1 h2.2.1.1
    exact ⟨a.cuts.length + 1, by rw [if_pos (by omega)]; push_cast; rfl, by omega, by omega⟩

/-- What the walks ask of statistics by value. -/
structure Sta (w : World) (T X : Option Addr) (q p : Nat) (gs : List Hd) (ts : List Int) (xss : List (List Int)) : Prop where
  tot : Rd w T q (ts.map (Value.int .i64))
  cel : RdSS w X p gs (iss xss)
  hq : q ≤ 1048576
  hp : p ≤ 1048576
  hb : totI xss ≤ 1048576
theorem Sta.below {w w' : World} {B : Nat} {T X : Option Addr} {q p : Nat} {gs : List Hd} {ts : List Int} {xss : List (List Int)} (s : Sta w T X q p gs ts xss) (hb : Below B w w') (hB : w.heap.size ≤ B) : Sta w' T X q p gs ts xss := ⟨s.tot.below hb hB, s.cel.below hb hB, s.hq, s.hp, s.hb⟩
theorem Sta.lenT {w : World} {T X : Option Addr} {q p : Nat} {gs : List Hd} {ts : List Int} {xss : List (List Int)} (s : Sta w T X q p gs ts xss) : ts.length = q := by simpa using s.tot.len
theorem Sta.lenX {w : World} {T X : Option Addr} {q p : Nat} {gs : List Hd} {ts : List Int} {xss : List (List Int)} (s : Sta w T X q p gs ts xss) : xss.length = p := by have := s.cel.len; rwa [iss_len] at this
theorem row_le2 {xss : List (List Int)} (hb : totI xss ≤ 1048576) {k : Nat} {xs : List Int} (hk : xss[k]? = some xs) : xs.length ≤ 1048576 := by
  have h1 := upto_succ (iss_get hk)
  have h2 := upto_le (iss xss) (k + 1)
  rw [tot_iss] at h2
  simp only [List.length_map] at h1
  omega

end Go.Proofs.YtchkmcikpamdeaaDoor
