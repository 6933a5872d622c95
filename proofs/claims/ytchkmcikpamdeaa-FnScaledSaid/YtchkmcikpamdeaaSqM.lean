/-
  impl.weights: slices.ContainsFunc at its closure; Squares of both packages.
-/
import Derived.Test.YtchkmcikpamdeaaIn
import Derived.Test.YtchkmcikpamdeaaInts
namespace Go.Proofs.Ytchkmcikpamdeaa
open Go.RowKit
set_option linter.unusedSimpArgs false

def badE (x : Int) : Bool := !inB x (0) 999
theorem badE_iff (x : Int) : badE x = false ↔ 0 ≤ x ∧ x ≤ 999 := by simp [badE, inB_iff]

theorem wts_clo (x : Int) (w : World) : Calls Try.prog 113 #[.int .i64 x] w fun e w' => e = .returned (.bool (badE x)) ∧ w = w' := by
  have HP := Lib.hid (show badE x = !inB x (0) 999 from rfl)
  go_enter Try.func113, Try.ntmps113
  go_wp2_with (go_at_call 56; refine (within_any _ _ _ _).mono ?_; rintro e w' ⟨rfl, rfl⟩)
  go_ret
  exact ⟨by rw [HP.out]; rfl, rfl⟩

set_option maxHeartbeats 1000000 in
theorem wts_idx (A : Option Addr) (n c : Nat) (xs : List Int) (w : World) (h : Rd w A n (xs.map (Value.int .i64))) (hn : n ≤ 1073741824) :
    Calls Try.prog 124 #[.slice A n c, .func (.func 113) #[] #[]] w fun e w' => ∃ r : Int, e = .returned (.int .i64 r) ∧ decide (0 ≤ r) = xs.any badE ∧ w = w' := by
  have hlen : xs.length = n := by simpa using h.len
  have HL := Lib.hid hlen
  have H := Lib.hid h
  clear h hlen
  go_enter Try.func124, Try.ntmps124
  go_wp2_with fail
  go_loop [8] (fun i => ∃ k : Nat, k ≤ n ∧ i = .int .i64 k ∧ Hid (∀ j, j < k → badE (xs.getD j 0) = false)) (fun i => n - (intOf i).toNat)
  case atStart => exact ⟨0, Nat.zero_le _, rfl, (fun j hj => absurd hj (by omega))⟩
  case round =>
    obtain ⟨k, hk, rfl, hsame⟩ := hrel
    by_cases hlt : k < n
    · obtain ⟨b, off, rfl, hbl, hc⟩ := H.out.ex (by omega)
      have hcell := hc k (.int .i64 (xs.getD k 0)) (by
        have : k < xs.length := by rw [HL.out]; exact hlt
        simp [List.getD, this])
      obtain ⟨x, hx⟩ : ∃ x, xs.getD k 0 = x := ⟨_, rfl⟩
      rw [hx] at hcell
      have HX := Lib.hid hx
      clear hc hx
      cases hp : badE x
      · go_wp2_with (go_at_call 113; refine (wts_clo _ _).mono ?_; rintro e w' ⟨rfl, rfl⟩)
        go_round
        case rel =>
          refine ⟨k + 1, by omega, by go_num, (fun j hj => ?_)⟩
          rcases Nat.lt_or_ge j k with h1 | h1
          · exact hsame.out j h1
          · obtain rfl : j = k := by omega
            rw [HX.out]; exact hp
        case measure => simp [intOf]; omega
      · have HA := Lib.hid (show xs.any badE = true by
          have hl : k < xs.length := by rw [HL.out]; exact hlt
          rw [List.any_eq_true]
          refine ⟨xs[k], List.getElem_mem hl, ?_⟩
          have := HX.out
          simp only [List.getD, List.getElem?_eq_getElem hl, Option.getD_some] at this
          rw [this]; exact hp)
        go_wp2_with (go_at_call 113; refine (wts_clo _ _).mono ?_; rintro e w' ⟨rfl, rfl⟩)
        go_ret
        exact ⟨(k : Int), rfl, by rw [HA.out]; simp, rfl⟩
    · obtain rfl : k = n := by omega
      have HA := Lib.hid (show xs.any badE = false by
        rw [List.any_eq_false]
        intro x hx
        obtain ⟨j, hj, rfl⟩ := List.getElem_of_mem hx
        have := hsame.out j (by rw [HL.out] at hj; exact hj)
        simpa [List.getD, hj] using this)
      go_wp2_with fail
      go_ret
      exact ⟨-1, rfl, by rw [HA.out]; rfl, rfl⟩

theorem wtsE_any (A : Option Addr) (n c : Nat) (xs : List Int) (w : World) (h : Rd w A n (xs.map (Value.int .i64))) (hn : n ≤ 1073741824) :
    Calls Try.prog 112 #[.slice A n c, .func (.func 113) #[] #[]] w fun e w' => e = .returned (.bool (xs.any badE)) ∧ w = w' := by
  have H := Lib.hid h
  clear h
  go_enter Try.func112, Try.ntmps112
  go_wp2_with fail
  refine (wts_idx A n c xs w H.out hn).mono ?_
  rintro e w' ⟨r, rfl, hr, rfl⟩
  have HR := Lib.hid hr
  clear hr
  go_wp2_with fail
  go_ret
  exact ⟨by rw [← HR.out]; rfl, rfl⟩

/-- What weights answers of a list and a length. -/
def wtsB (xs : List Int) (m : Int) : Bool := decide ((xs.length : Int) = m) && !xs.any badE

theorem weightsE_any (A : Option Addr) (n c : Nat) (xs : List Int) (m : Int) (w : World) (h : Rd w A n (xs.map (Value.int .i64))) (hn : n ≤ 1073741824) :
    Calls Try.prog 86 #[.slice A n c, .int .i64 m] w fun e w' => e = .returned (.bool (wtsB xs m)) ∧ w = w' := by
  have hlen : xs.length = n := by simpa using h.len
  have H := Lib.hid h
  clear h
  by_cases hm : (n : Int) = m
  · have HW := Lib.hid (show wtsB xs m = !xs.any badE by simp [wtsB, hlen, hm])
    have hb : ((n : Int) == m) = true := by simp [hm]
    clear hlen
    subst hm
    go_enter Try.func86, Try.ntmps86
    go_wp2_with (go_at_call 112; refine (wtsE_any A n c xs w H.out hn).mono ?_; rintro e w' ⟨rfl, rfl⟩)
    go_ret
    exact ⟨by rw [HW.out]; rfl, rfl⟩
  · have HW := Lib.hid (show wtsB xs m = false by simp [wtsB, hlen, hm])
    have hb : ((n : Int) == m) = false := by simp [hm]
    clear hlen hm
    go_enter Try.func86, Try.ntmps86
    go_wp2_with fail
    go_ret
    exact ⟨by rw [HW.out]; rfl, rfl⟩

/-- The sum of the squares. -/
def sqL (xs : List Int) : Int := (xs.map fun x => x * x).sum
theorem sqL_succ (xs : List Int) (k : Nat) (h : k < xs.length) : sqL (xs.take (k + 1)) = sqL (xs.take k) + xs.getD k 0 * xs.getD k 0 := by
  have e : xs.getD k 0 = xs[k] := by simp [List.getD, h]
  unfold sqL
  rw [List.take_succ_eq_append_getElem h, List.map_append, List.sum_append, e]
  simp only [List.map_cons, List.map_nil, List.sum_cons, List.sum_nil, Int.add_zero]
theorem sqL_bd (xs : List Int) (h : ∀ x ∈ xs, 0 ≤ x ∧ x ≤ 999) : 0 ≤ sqL xs ∧ sqL xs ≤ 998001 * xs.length := by
  induction xs with
  | nil => simp [sqL]
  | cons x xs ih =>
    have h1 := ih fun y hy => h y (by simp [hy])
    have h2 := h x (by simp)
    have h3 : 0 ≤ x * x := Int.mul_nonneg h2.1 h2.1
    have h4 : x * x ≤ 999 * 999 := Int.le_trans (Int.mul_le_mul_of_nonneg_right h2.2 h2.1) (Int.mul_le_mul_of_nonneg_left h2.2 (by omega))
    simp only [sqL, List.map_cons, List.sum_cons, List.length_cons] at h1 ⊢
    omega
/-- What Squares answers. -/
def sqI (xs : List Int) : Int := if xs.length ≤ 3 ∧ xs.any badE = false then sqL xs else -1
theorem anyE_bad {xs : List Int} (h : xs.any badE = false) : ∀ x ∈ xs, 0 ≤ x ∧ x ≤ 999 := by
  rw [List.any_eq_false] at h
  intro x hx
  exact (badE_iff x).1 (by simpa using h x hx)
theorem takeE_bd {xs : List Int} (h : ∀ x ∈ xs, 0 ≤ x ∧ x ≤ 999) (k : Nat) : ∀ x ∈ xs.take k, 0 ≤ x ∧ x ≤ 999 := fun x hx => h x (List.mem_of_mem_take hx)
theorem getDE_bd {xs : List Int} (h : ∀ x ∈ xs, 0 ≤ x ∧ x ≤ 999) {k : Nat} (hk : k < xs.length) : 0 ≤ xs.getD k 0 ∧ xs.getD k 0 ≤ 999 := by
  have : xs.getD k 0 = xs[k] := by simp [List.getD, hk]
  rw [this]; exact h _ (List.getElem_mem hk)

set_option maxHeartbeats 1000000 in
theorem iSquares_any (A : Option Addr) (n c : Nat) (xs : List Int) (w : World) (h : Rd w A n (xs.map (Value.int .i64))) (hn : n ≤ 1073741824) :
    Calls Try.prog 75 #[.slice A n c] w fun e w' => e = .returned (.int .i64 (sqI xs)) ∧ w = w' := by
  have hlen : xs.length = n := by simpa using h.len
  have HL := Lib.hid hlen
  have H := Lib.hid h
  clear h
  by_cases h3 : n ≤ 3
  · have hw : wtsB xs n = !xs.any badE := by simp [wtsB, hlen]
    cases hb : xs.any badE
    · have HW := Lib.hid (show wtsB xs n = true by rw [hw, hb]; rfl)
      have HS := Lib.hid (show sqI xs = sqL (xs.take n) by rw [← hlen, List.take_length]; simp [sqI, hb, hlen, h3])
      have HB := Lib.hid (anyE_bad hb)
      clear hw hb hlen
      go_enter Try.func75, Try.ntmps75
      go_wp2_with (go_at_call 86; refine (weightsE_any A n c xs n w H.out hn).mono ?_; rw [HW.out]; rintro e w' ⟨rfl, rfl⟩)
      go_loop [3, 18] (fun s i => ∃ k : Nat, k ≤ n ∧ i = .int .i64 k ∧ s = .int .i64 (sqL (xs.take k))) (fun _ i => n - (intOf i).toNat)
      case atStart => exact ⟨0, Nat.zero_le _, rfl, rfl⟩
      case round =>
        obtain ⟨k, hk, rfl, rfl⟩ := hrel
        by_cases hlt : k < n
        · obtain ⟨b, off, rfl, hbl, hc⟩ := H.out.ex (by omega)
          have hl : k < xs.length := by rw [HL.out]; exact hlt
          have hcell := hc k (.int .i64 (xs.getD k 0)) (by simp [List.getD, hl])
          have HSS := Lib.hid (sqL_succ xs k hl)
          obtain ⟨x1, x2⟩ := getDE_bd HB.out hl
          obtain ⟨s1, s2⟩ := sqL_bd (xs.take k) (takeE_bd HB.out k)
          have hlt3 : (xs.take k).length ≤ 3 := by rw [List.length_take]; omega
          obtain ⟨x, hx⟩ : ∃ x, xs.getD k 0 = x := ⟨_, rfl⟩
          rw [hx] at hcell HSS x1 x2
          have p1 : 0 ≤ x * x := Int.mul_nonneg x1 x1
          have p2 : x * x ≤ 999 * 999 := Int.le_trans (Int.mul_le_mul_of_nonneg_right x2 x1) (Int.mul_le_mul_of_nonneg_left x2 (by omega))
          have s3 : sqL (xs.take k) ≤ 2994003 := by omega
          clear hc hx hl s2 hlt3
          go_wp2_with fail
          go_round
          case rel => exact ⟨k + 1, by omega, by go_num, by rw [HSS.out]⟩
          case measure => simp [intOf]; omega
        · obtain rfl : k = n := by omega
          go_wp2_with fail
          go_ret
          exact ⟨by rw [HS.out]; rfl, rfl⟩
    · have HW := Lib.hid (show wtsB xs n = false by rw [hw, hb]; rfl)
      have HS := Lib.hid (show sqI xs = -1 by simp [sqI, hb])
      clear hw hb hlen
      go_enter Try.func75, Try.ntmps75
      go_wp2_with (go_at_call 86; refine (weightsE_any A n c xs n w H.out hn).mono ?_; rw [HW.out]; rintro e w' ⟨rfl, rfl⟩)
      go_ret
      exact ⟨by rw [HS.out]; rfl, rfl⟩
  · have HS := Lib.hid (show sqI xs = -1 by simp [sqI, hlen, h3])
    clear hlen
    go_enter Try.func75, Try.ntmps75
    go_wp2_with fail
    go_ret
    exact ⟨by rw [HS.out]; rfl, rfl⟩

set_option maxHeartbeats 1000000 in
theorem sSquares_any (A : Option Addr) (n c : Nat) (xs : List Int) (w : World) (h : Rd w A n (xs.map (Value.int .i64))) (hn : n ≤ 1073741824) :
    Calls Try.prog 80 #[.slice A n c] w fun e w' => e = .returned (.int .i64 (sqI xs)) ∧ Below w.heap.size w w' := by
  have hlen : xs.length = n := by simpa using h.len
  have HL := Lib.hid hlen
  have H := Lib.hid h
  clear h
  by_cases h3 : n ≤ 3
  · clear hlen
    go_enter Try.func80, Try.ntmps80
    go_wp2_with fail
    go_loopw [3, 4] (fun s i wr => ∃ k : Nat, k ≤ n ∧ i = .int .i64 k ∧ s = .int .i64 (sqL (xs.take k)) ∧ Hid (∀ x ∈ xs.take k, 0 ≤ x ∧ x ≤ 999) ∧ Below w.heap.size w wr) (fun _ i _ => n - (intOf i).toNat)
    case atStart => exact ⟨0, Nat.zero_le _, rfl, rfl, (fun x hx => by simp at hx), Below.refl _ _⟩
    case round =>
      obtain ⟨k, hk, rfl, rfl, hgood, hbel⟩ := hrel
      by_cases hlt : k < n
      · obtain ⟨b, off, rfl, hbl, hc⟩ := H.out.ex (by omega)
        have hl : k < xs.length := by rw [HL.out]; exact hlt
        have hcell : wr.cell? ⟨b, off + k, none⟩ = some (.int .i64 (xs.getD k 0)) := (hbel.cell (p := ⟨b, off + k, none⟩) hbl).trans (hc k _ (by simp [List.getD, hl]))
        have HSS := Lib.hid (sqL_succ xs k hl)
        obtain ⟨s1, s2⟩ := sqL_bd (xs.take k) hgood.out
        have hlt3 : (xs.take k).length ≤ 3 := by rw [List.length_take]; omega
        have s3 : sqL (xs.take k) ≤ 2994003 := by omega
        have HBel := Lib.hid hbel
        have hmem : xs.getD k 0 ∈ xs := by simp [List.getD, hl]
        have HMem := Lib.hid hmem
        have HTake := Lib.hid (List.take_succ_eq_append_getElem hl)
        have hgd : xs[k] = xs.getD k 0 := by simp [List.getD, hl]
        rw [hgd] at HTake
        obtain ⟨x, hx⟩ : ∃ x, xs.getD k 0 = x := ⟨_, rfl⟩
        rw [hx] at hcell HSS HMem HTake
        clear hc hx hl s2 hlt3 hbel hmem hgd
        cases hin : inB x 0 999
        · have HS := Lib.hid (show sqI xs = -1 by
            have : xs.any badE = true := by rw [List.any_eq_true]; exact ⟨x, HMem.out, by simp [badE, hin]⟩
            simp [sqI, this])
          go_wp2_with (go_at_call 49; refine (l1In_any _ _ _ _).mono ?_; rintro e w' ⟨rfl, rfl⟩)
          go_ret
          exact ⟨by rw [HS.out]; rfl, HBel.out⟩
        · obtain ⟨x1, x2⟩ := inB_iff.1 hin
          have p1 : 0 ≤ x * x := Int.mul_nonneg x1 x1
          have p2 : x * x ≤ 999 * 999 := Int.le_trans (Int.mul_le_mul_of_nonneg_right x2 x1) (Int.mul_le_mul_of_nonneg_left x2 (by omega))
          have n0 : (0 : Int) ≤ (k : Int) := Int.natCast_nonneg _
          have n1 : (k : Int) < (n : Int) := by omega
          have n2 : IntKind.i64.wrap (x * x) = x * x := IntWalk.i64_in _ (by omega)
          have n3 : IntKind.i64.wrap (sqL (xs.take k) + x * x) = sqL (xs.take k) + x * x := IntWalk.i64_in _ (by omega)
          go_wp2_with (go_at_call 49; refine (l1In_any _ _ _ _).mono ?_; rintro e w' ⟨rfl, rfl⟩)
          go_quiet (fail)
          clear n2 n3
          go_wp2_with fail
          go_roundw
          case rel =>
            refine ⟨k + 1, by omega, by go_num, by rw [HSS.out], (fun y hy => ?_), Below.trans HBel.out (by repeat (first | exact Below.refl _ _ | apply below_drewN | apply Below.drew))⟩
            rw [HTake.out] at hy
            rcases List.mem_append.1 hy with h1 | h1
            · exact hgood.out y h1
            · obtain rfl : y = x := by simpa using h1
              exact ⟨x1, x2⟩
          case measure => simp [intOf]; omega
      · obtain rfl : k = n := by omega
        have HS := Lib.hid (show sqI xs = sqL (xs.take k) by
          have hall := hgood.out
          rw [← HL.out, List.take_length] at hall ⊢
          have : xs.any badE = false := by rw [List.any_eq_false]; intro x hx; have := (badE_iff x).2 (hall x hx); simp [this]
          simp [sqI, this, HL.out, h3])
        have HBel := Lib.hid hbel
        clear hbel
        go_wp2_with fail
        go_ret
        exact ⟨by rw [HS.out]; rfl, HBel.out⟩
  · have HS := Lib.hid (show sqI xs = -1 by simp [sqI, hlen, h3])
    clear hlen
    go_enter Try.func80, Try.ntmps80
    go_wp2_with fail
    go_ret
    exact ⟨by rw [HS.out]; rfl, Below.refl _ _⟩

end Go.Proofs.Ytchkmcikpamdeaa
