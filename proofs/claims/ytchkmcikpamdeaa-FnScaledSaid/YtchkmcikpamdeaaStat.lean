/-
  weights, total, zeros; what StatsOk answers.
-/
import Derived.Test.YtchkmcikpamdeaaFork
namespace Go.Proofs.Ytchkmcikpamdeaa
open Go.RowKit
set_option linter.unusedSimpArgs false
set_option linter.unusedVariables false

def badW (xs : List Int) : Bool := xs.any fun x => !inB x 0 999
theorem badW_yes {xs : List Int} {q : Nat} {x : Int} (hx : xs[q]? = some x) (h : inB x 0 999 = false) : badW xs = true := by
  unfold badW; rw [List.any_eq_true]; exact ⟨x, List.mem_of_getElem? hx, by simp [h]⟩
theorem badW_no {xs : List Int} (h : ∀ (j : Nat) (x : Int), xs[j]? = some x → inB x 0 999 = true) : badW xs = false := by
  unfold badW; rw [List.any_eq_false]; intro x hx; obtain ⟨j, hj⟩ := List.getElem?_of_mem hx; simp [h j x hj]
theorem badW_get {xs : List Int} (h : badW xs = false) {x : Int} (hx : x ∈ xs) : 0 ≤ x ∧ x ≤ 999 := by
  unfold badW at h; rw [List.any_eq_false] at h
  have := h x hx
  exact inB_iff.1 (by simpa using this)
theorem sum_bd (zs : List Int) (h : ∀ z ∈ zs, 0 ≤ z ∧ z ≤ 999) : 0 ≤ zs.sum ∧ zs.sum ≤ 999 * zs.length := by
  induction zs with
  | nil => simp
  | cons z zs ih =>
    have h1 := h z (by simp)
    have h2 := ih fun u hu => h u (by simp [hu])
    simp only [List.sum_cons, List.length_cons]
    omega
theorem take_sum {xs : List Int} {k : Nat} {x : Int} (h : xs[k]? = some x) : (xs.take (k + 1)).sum = (xs.take k).sum + x := by
  obtain ⟨h1, h2⟩ := List.getElem?_eq_some_iff.1 h
  rw [List.take_succ_eq_append_getElem h1, List.sum_append]; simp [h2]
/-- The sum of a column's first b numbers, in a row of m columns. -/
def colB (m k : Nat) (row : List Int) : Nat → Int
  | 0 => 0
  | b + 1 => colB m k row b + row.getD (b * m + k) 0
theorem colB_bd {m k : Nat} {row : List Int} (h : ∀ x ∈ row, 0 ≤ x ∧ x ≤ 999) : ∀ b, 0 ≤ colB m k row b ∧ colB m k row b ≤ 999 * b
  | 0 => by simp [colB]
  | b + 1 => by
    have h1 := colB_bd (m := m) (k := k) h b
    have h2 : 0 ≤ row.getD (b * m + k) 0 ∧ row.getD (b * m + k) 0 ≤ 999 := by
      by_cases hl : b * m + k < row.length
      · have := h row[b * m + k] (List.getElem_mem hl); simpa [List.getD, hl] using this
      · simp [List.getD, List.getElem?_eq_none (Nat.le_of_not_lt hl)]
    simp only [colB]
    omega
theorem colB_mono {m k : Nat} {row : List Int} (h : ∀ x ∈ row, 0 ≤ x ∧ x ≤ 999) (b : Nat) : ∀ t, colB m k row b ≤ colB m k row (b + t)
  | 0 => Int.le_refl _
  | t + 1 => by
    have h1 := colB_mono (m := m) (k := k) h b t
    have h2 : 0 ≤ row.getD ((b + t) * m + k) 0 := by
      by_cases hl : (b + t) * m + k < row.length
      · have := h row[(b + t) * m + k] (List.getElem_mem hl); simpa [List.getD, hl] using this.1
      · simp [List.getD, List.getElem?_eq_none (Nat.le_of_not_lt hl)]
    show _ ≤ colB m k row (b + t) + row.getD ((b + t) * m + k) 0
    omega
/-- How many of the first q numbers stand in column k. -/
def cntC (m q k : Nat) : Nat := q / m + (if k < q % m then 1 else 0)
def runC (m q k : Nat) (row : List Int) : Int := colB m k row (cntC m q k)
theorem cntC_succ {m q k : Nat} (hm : m = 2 ∨ m = 3) (hk : k < m) : cntC m (q + 1) k = if k = q % m then cntC m q k + 1 else cntC m q k := by
  unfold cntC
  rcases hm with rfl | rfl <;> (repeat' split) <;> omega
theorem cntC_at {m q : Nat} (hm : m = 2 ∨ m = 3) : cntC m q (q % m) * m + q % m = q := by
  unfold cntC
  rcases hm with rfl | rfl <;> (repeat' split) <;> omega
theorem cntC_all {m b k : Nat} (hm : m = 2 ∨ m = 3) (hk : k < m) : cntC m (b * m) k = b := by
  unfold cntC
  rcases hm with rfl | rfl <;> (repeat' split) <;> omega
theorem cntC_le {m b q k : Nat} (hm : m = 2 ∨ m = 3) (hk : k < m) (hq : q ≤ b * m) : cntC m q k ≤ b := by
  unfold cntC
  rcases hm with rfl | rfl <;> (repeat' split) <;> omega
theorem runC_succ {m q k : Nat} {row : List Int} {x : Int} (hm : m = 2 ∨ m = 3) (hk : k < m) (hx : row[q]? = some x) : runC m (q + 1) k row = if k = q % m then runC m q k row + x else runC m q k row := by
  unfold runC
  rw [cntC_succ hm hk]
  split
  · rename_i h
    subst h
    show colB m (q % m) row (cntC m q (q % m)) + row.getD (cntC m q (q % m) * m + q % m) 0 = _
    rw [cntC_at hm]
    simp [List.getD, hx]
  · rfl
theorem runC_zero {m k : Nat} {row : List Int} (hm : m = 2 ∨ m = 3) : runC m 0 k row = 0 := by
  unfold runC cntC; rcases hm with rfl | rfl <;> simp [colB]
/-- What a row of cells must be, for m classes and nb bins. -/
def rowOkB (m : Nat) (ts row : List Int) (nb : Int) : Bool := decide ((row.length : Int) = nb * m) && !badW row && allB m fun k => decide (colB m k row nb.toNat ≤ ts.getD k 0)
def totB (m : Nat) (ts : List Int) : Bool := decide (ts.length = m) && !badW ts && decide (ts.sum ≤ 999)
def rowsB (ats : List AD) (m : Nat) (ts : List Int) (xss : List (List Int)) : Bool := decide (xss.length = 0) || (decide (xss.length = ats.length) && allB xss.length fun i => rowOkB m ts (xss.getD i []) (binsI (ats.getD i noAD)))
/-- What StatsOk answers. -/
def statsB (ats : List AD) (cs : List ByteArray) (ts : List Int) (xss : List (List Int)) : Bool := schB ats cs && totB cs.length ts && rowsB ats cs.length ts xss
theorem rowOkB_len {m : Nat} {ts row : List Int} {nb : Int} (h : ¬ (row.length : Int) = nb * m) : rowOkB m ts row nb = false := by unfold rowOkB; rw [decide_eq_false h]; rfl
theorem rowOkB_len2 {m nb yn : Nat} {ts row : List Int} (h : row.length = yn) (hne : ¬ yn = nb * m) : rowOkB m ts row (nb : Nat) = false := rowOkB_len (by rw [h]; intro e; apply hne; exact_mod_cast e)
theorem rowOkB_bad {m : Nat} {ts row : List Int} {nb : Int} (h : badW row = true) : rowOkB m ts row nb = false := by unfold rowOkB; rw [h, Bool.not_true, Bool.and_false, Bool.false_and]
theorem rowOkB_col {m k : Nat} {ts row : List Int} {nb : Nat} (hk : k < m) (h : ¬ colB m k row nb ≤ ts.getD k 0) : rowOkB m ts row (nb : Nat) = false := by
  unfold rowOkB; rw [allB_bad hk (by rw [Int.toNat_natCast]; exact decide_eq_false h), Bool.and_false]
theorem rowOkB_good {m : Nat} {ts row : List Int} {nb : Nat} (h1 : row.length = nb * m) (h2 : badW row = false) (h3 : ∀ k, k < m → colB m k row nb ≤ ts.getD k 0) : rowOkB m ts row (nb : Nat) = true := by
  unfold rowOkB
  rw [decide_eq_true (by rw [h1]; push_cast; rfl), h2, allB_good fun k hk => by rw [Int.toNat_natCast]; exact decide_eq_true (h3 k hk)]
  rfl
theorem rowsB_bad {ats : List AD} {m : Nat} {ts : List Int} {xss : List (List Int)} {i : Nat} {row : List Int} {a : AD} (hr : xss[i]? = some row) (ha : ats[i]? = some a) (h : rowOkB m ts row (binsI a) = false) : rowsB ats m ts xss = false := by
  obtain ⟨h1, _⟩ := List.getElem?_eq_some_iff.1 hr
  unfold rowsB
  rw [decide_eq_false (by omega), allB_bad h1 (by simp only [List.getD, hr, ha, Option.getD_some]; exact h), Bool.and_false]; rfl
theorem rowsB_len {ats : List AD} {m : Nat} {ts : List Int} {xss : List (List Int)} (h0 : ¬ xss.length = 0) (h : ¬ xss.length = ats.length) : rowsB ats m ts xss = false := by unfold rowsB; rw [decide_eq_false h0, decide_eq_false h]; rfl
theorem rowsB_zero {ats : List AD} {m : Nat} {ts : List Int} {xss : List (List Int)} (h0 : xss.length = 0) : rowsB ats m ts xss = true := by unfold rowsB; rw [decide_eq_true h0]; rfl
theorem rowsB_good {ats : List AD} {m : Nat} {ts : List Int} {xss : List (List Int)} (h : xss.length = ats.length) (hg : ∀ (i : Nat) (row : List Int) (a : AD), xss[i]? = some row → ats[i]? = some a → rowOkB m ts row (binsI a) = true) : rowsB ats m ts xss = true := by
  unfold rowsB
  rw [decide_eq_true h, allB_good fun i hi => ?_]
  · simp
  · have h2 : i < ats.length := by omega
    simp only [List.getD, List.getElem?_eq_getElem hi, List.getElem?_eq_getElem h2, Option.getD_some]
    exact hg i _ _ (List.getElem?_eq_getElem hi) (List.getElem?_eq_getElem h2)
theorem statsB_no1 {ats : List AD} {cs : List ByteArray} {ts : List Int} {xss : List (List Int)} (h : schB ats cs = false) : statsB ats cs ts xss = false := by simp [statsB, h]
theorem statsB_no2 {ats : List AD} {cs : List ByteArray} {ts : List Int} {xss : List (List Int)} (h : totB cs.length ts = false) : statsB ats cs ts xss = false := by simp [statsB, h]
theorem statsB_at {ats : List AD} {cs : List ByteArray} {ts : List Int} {xss : List (List Int)} (h1 : schB ats cs = true) (h2 : totB cs.length ts = true) : statsB ats cs ts xss = rowsB ats cs.length ts xss := by simp [statsB, h1, h2]
theorem schB_m {ats : List AD} {cs : List ByteArray} (h : schB ats cs = true) : cs.length = 2 ∨ cs.length = 3 := by
  unfold schB at h
  simp only [Bool.and_eq_true] at h
  have := inB_iff.1 h.1.1.1.2
  omega
theorem attrB_bins {a : AD} (h : attrB a = true) : ∃ nb : Nat, binsI a = (nb : Nat) ∧ 2 ≤ nb ∧ nb ≤ 4 := by
  unfold attrB at h
  simp only [Bool.and_eq_true] at h
  obtain ⟨_, h2⟩ := h
  unfold binsI
  split at h2
  · rename_i hz
    simp only [Bool.and_eq_true] at h2
    have := inB_iff.1 h2.1
    exact ⟨a.vals.length, by rw [if_neg (by omega)], by omega, by omega⟩
  · rename_i hz
    simp only [Bool.and_eq_true, cutsB_eq] at h2
    have := inB_iff.1 h2.2.1.1
    exact ⟨a.cuts.length + 1, by rw [if_pos (by omega)]; push_cast; rfl, by omega, by omega⟩

/-- What the walks ask of statistics by value. -/
structure Sta (w : World) (T X : Option Addr) (q p : Nat) (gs : List Hd) (ts : List Int) (xss : List (List Int)) : Prop where
  tot : Rd w T q (ts.map (Value.int .i64))
  cel : RdSS w X p gs (iss xss)
  hq : q ≤ 1048576
  hp : p ≤ 1048576
  hb : totI xss ≤ 1048576
theorem Sta.below {w w' : World} {B : Nat} {T X : Option Addr} {q p : Nat} {gs : List Hd} {ts : List Int} {xss : List (List Int)} (s : Sta w T X q p gs ts xss) (hb : Below B w w') (hB : w.heap.size ≤ B) : Sta w' T X q p gs ts xss := ⟨s.tot.below hb hB, s.cel.below hb hB, s.hq, s.hp, s.hb⟩
theorem Sta.lenT {w : World} {T X : Option Addr} {q p : Nat} {gs : List Hd} {ts : List Int} {xss : List (List Int)} (s : Sta w T X q p gs ts xss) : ts.length = q := by simpa using s.tot.len
theorem Sta.lenX {w : World} {T X : Option Addr} {q p : Nat} {gs : List Hd} {ts : List Int} {xss : List (List Int)} (s : Sta w T X q p gs ts xss) : xss.length = p := by have := s.cel.len; rwa [iss_len] at this
theorem row_le2 {xss : List (List Int)} (hb : totI xss ≤ 1048576) {k : Nat} {xs : List Int} (hk : xss[k]? = some xs) : xs.length ≤ 1048576 := by
  have h1 := upto_succ (iss_get hk)
  have h2 := upto_le (iss xss) (k + 1)
  rw [tot_iss] at h2
  simp only [List.length_map] at h1
  omega

theorem iWtFn_any (x : Int) (w : World) : Calls Try.prog 113 #[.int .i64 x] w fun e w' => e = .returned (.bool (!inB x 0 999)) ∧ w = w' := by
  go_enter Try.func113, Try.ntmps113
  go_wp2_with fail
  refine (within_any _ _ _ _).mono ?_
  rintro e w2 ⟨rfl, rfl⟩
  go_wp2_with fail
  go_ret
  exact ⟨rfl, rfl⟩

set_option maxHeartbeats 1000000 in
theorem iWtIndex_any (A : Option Addr) (n c : Nat) (xs : List Int) (w : World) (h : Rd w A n (xs.map (Value.int .i64))) (hn : n ≤ 1048576) :
    Calls Try.prog 124 #[.slice A n c, .func (.func 113) #[] #[]] w fun e w' => (∃ i : Int, e = .returned (.int .i64 i) ∧ decide (0 ≤ i) = badW xs) ∧ w = w' := by
  have H := Lib.hid h
  have HL := Lib.hid (show xs.length = n by simpa using h.len)
  clear h
  go_enter Try.func124, Try.ntmps124
  go_wp2_with fail
  go_loop [8] (fun i => ∃ q : Nat, q ≤ n ∧ i = .int .i64 q ∧ Hid (∀ (j : Nat) (x : Int), j < q → xs[j]? = some x → inB x 0 999 = true)) (fun i => n - (intOf i).toNat)
  case atStart => exact ⟨0, Nat.zero_le _, rfl, fun j x hj => absurd hj (by omega)⟩
  case round =>
    obtain ⟨q, hq, rfl, hgood⟩ := hrel
    by_cases hlt : q < n
    · obtain ⟨b, off, rfl, hbl, hc⟩ := H.out.ex (by omega)
      obtain ⟨x, hx⟩ : ∃ x, xs[q]? = some x := ⟨_, List.getElem?_eq_getElem (by rw [HL.out]; exact hlt)⟩
      have hcell := hc q (.int .i64 x) (by simp [hx])
      have HXQ := Lib.hid hx
      clear hc hx
      cases hin : inB x 0 999
      · have HV := Lib.hid (badW_yes HXQ.out hin)
        go_wp2_with fail
        refine (iWtFn_any x w).mono ?_
        rw [hin]
        rintro e w2 ⟨rfl, rfl⟩
        go_wp2_with fail
        go_ret
        exact ⟨⟨q, rfl, by rw [HV.out]; simp⟩, rfl⟩
      · have HIN := Lib.hid hin
        go_wp2_with fail
        refine (iWtFn_any x w).mono ?_
        rw [hin]
        rintro e w2 ⟨rfl, rfl⟩
        go_wp2_with fail
        go_round
        case rel =>
          refine ⟨q + 1, by omega, by go_num, fun j y hj hy => ?_⟩
          rcases Nat.lt_or_ge j q with h1 | h1
          · exact hgood.out j y h1 hy
          · obtain rfl : j = q := by omega
            rw [HXQ.out] at hy
            obtain rfl := Option.some.inj hy
            exact HIN.out
        case measure => simp [intOf]; omega
    · obtain rfl : q = n := by omega
      have HV := Lib.hid (badW_no (xs := xs) (fun j x hj => hgood.out j x (by have := (List.getElem?_eq_some_iff.1 hj).1; rw [HL.out] at this; exact this) hj))
      go_wp2_with fail
      go_ret
      exact ⟨⟨-1, rfl, by rw [HV.out]; rfl⟩, rfl⟩

theorem iWtContains_any (A : Option Addr) (n c : Nat) (xs : List Int) (w : World) (h : Rd w A n (xs.map (Value.int .i64))) (hn : n ≤ 1048576) :
    Calls Try.prog 112 #[.slice A n c, .func (.func 113) #[] #[]] w fun e w' => e = .returned (.bool (badW xs)) ∧ w = w' := by
  have H := Lib.hid h
  clear h
  go_enter Try.func112, Try.ntmps112
  go_wp2_with fail
  refine (iWtIndex_any A n c xs w H.out hn).mono ?_
  rintro e w2 ⟨⟨i, rfl, hi⟩, rfl⟩
  have HI := Lib.hid hi
  clear hi
  go_wp2_with fail
  go_ret
  exact ⟨by rw [← HI.out]; rfl, rfl⟩

theorem iWeights_any (A : Option Addr) (n c : Nat) (k : Int) (xs : List Int) (w : World) (h : Rd w A n (xs.map (Value.int .i64))) (hn : n ≤ 1048576) :
    Calls Try.prog 86 #[.slice A n c, .int .i64 k] w fun e w' => e = .returned (.bool (decide ((n : Int) = k) && !badW xs)) ∧ w = w' := by
  have H := Lib.hid h
  clear h
  by_cases hk : (n : Int) = k
  · cases hb : badW xs
    all_goals
      subst hk
      go_enter Try.func86, Try.ntmps86
      go_wp2_with (first | (go_at_call 112; refine (iWtContains_any A n c xs _ H.out hn).mono ?_; rw [hb]; rintro e w3 ⟨rfl, rfl⟩))
      go_ret
      exact ⟨by simp, rfl⟩
  · have hd : decide ((n : Int) = k) = false := decide_eq_false hk
    have hd2 : ((n : Int) == k) = false := beq_false_of_ne hk
    go_enter Try.func86, Try.ntmps86
    go_wp2_with fail
    go_ret
    exact ⟨by rw [hd]; rfl, rfl⟩

set_option maxHeartbeats 1000000 in
theorem iTotal_any (A : Option Addr) (n c : Nat) (xs : List Int) (w : World) (h : Rd w A n (xs.map (Value.int .i64))) (hn : n ≤ 1048576) (hx : ∀ x ∈ xs, 0 ≤ x ∧ x ≤ 999) :
    Calls Try.prog 57 #[.slice A n c] w fun e w' => e = .returned (.int .i64 xs.sum) ∧ w = w' := by
  have H := Lib.hid h
  have HL := Lib.hid (show xs.length = n by simpa using h.len)
  have HX := Lib.hid hx
  clear h hx
  go_enter Try.func57, Try.ntmps57
  go_wp2
  go_loop [3, 8] (fun s i => ∃ k : Nat, k ≤ n ∧ i = .int .i64 k ∧ s = .int .i64 ((xs.take k).sum)) (fun _ i => n - (intOf i).toNat)
  case atStart => exact ⟨0, Nat.zero_le _, rfl, by simp⟩
  case round =>
    obtain ⟨k, hk, rfl, rfl⟩ := hrel
    by_cases hlt : k < n
    · obtain ⟨b, off, rfl, hbl, hc⟩ := H.out.ex (by omega)
      obtain ⟨x, hx⟩ : ∃ x, xs[k]? = some x := ⟨_, List.getElem?_eq_getElem (by rw [HL.out]; exact hlt)⟩
      have hcell := hc k (.int .i64 x) (by simp [hx])
      have hb := sum_bd (xs.take k) (fun z hz => HX.out z (List.mem_of_mem_take hz))
      have hbl2 : (xs.take k).length ≤ k := by simp; omega
      have hxb := HX.out x (List.mem_of_getElem? hx)
      have HS := Lib.hid (take_sum hx)
      obtain ⟨s, hs⟩ : ∃ s, (xs.take k).sum = s := ⟨_, rfl⟩
      rw [hs] at hb HS ⊢
      have hb2 : 0 ≤ s ∧ s ≤ 1047527424 := by omega
      clear hc hx hs hb hbl2
      go_wp2
      go_round
      case rel => exact ⟨k + 1, by omega, by go_num, by rw [HS.out]⟩
      case measure => simp [intOf]; omega
    · obtain rfl : k = n := by omega
      have HS : Hid ((xs.take k).sum = xs.sum) := by unfold Hid; rw [List.take_of_length_le (Nat.le_of_eq HL.out)]
      rw [HS.out]
      go_wp2
      go_ret
      exact ⟨rfl, rfl⟩

theorem iZeros_any (m : Nat) (w : World) (hm : m ≤ 1048576) :
    Calls Try.prog 73 #[.int .i64 (m : Nat)] w fun e w' => ∃ g, e = .returned (.slice (some ⟨g, 0, none⟩) m m) ∧ w'.ownsRow w.heap.size 3 1 (.slice (some ⟨g, 0, none⟩) m m) m (List.replicate m (Value.int .i64 0)) ∧ Below w.heap.size w w' := by
  obtain ⟨i0, hi0, hz0, hz1, hz2⟩ := info_parts info_IntS
  have HI := Lib.hid hi0; have HZ := Lib.hid hz0; have HZ1 := Lib.hid hz1; have HZ2 := Lib.hid hz2
  clear hi0 hz0 hz1 hz2
  go_enter Try.func73, Try.ntmps73
  go_wp2_with (at_make; refine wpList_make_full _ rfl _ _ 26 rfl w.heap.size 3 i0 (Value.int .i64 0) 1 Try.underlying26 HI.out HZ.out HZ1.out .i64 .i64 _ _ m rfl rfl (by omega) (by omega) ?c1 ?c2 (Nat.le_refl _) ?_)
  case c1 => rw [HZ2.out]; omega
  case c2 => unfold maxLen; omega
  · intro w1 hown hgrow
    have HB : Hid (Below w.heap.size w w1) := (Below.refl _ _).grown hgrow (Nat.le_refl _) (fun k hk => by cases hk)
    have HOwn : Hid (w1.ownsRow w.heap.size 3 1 (.slice (some ⟨w.heap.size, 0, none⟩) m m) m (List.replicate m (Value.int .i64 0))) := by
      unfold Hid; rw [← toList_madeCells_one]; simpa [Value.cells] using hown
    clear hown hgrow
    go_wp2
    go_ret
    exact ⟨_, rfl, HOwn.out, HB.out⟩

end Go.Proofs.Ytchkmcikpamdeaa
