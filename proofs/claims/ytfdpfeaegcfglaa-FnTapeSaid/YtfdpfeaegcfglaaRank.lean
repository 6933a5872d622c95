/-
  RankAt of both packages: the rank of an ascending list.
-/
import Derived.Test.YtfdpfeaegcfglaaBinom
import Derived.Test.YtfdpfeaegcfglaaAsc
namespace Go.Proofs.Ytfdpfeaegcfglaa
open Go.RowKit
set_option linter.unusedSimpArgs false
set_option linter.unusedVariables false

/-- Sums of binomials: t steps from a on. -/
def sumR (n m a : Int) : Nat → Int
  | 0 => 0
  | t + 1 => sumR n m a t + binI (n - (a + t) - 1) m
def startX (xs : List Int) : Nat → Int
  | 0 => 0
  | k + 1 => xs.getD k 0 + 1
/-- The rank of the first k numbers. -/
def rkP (n : Int) (xs : List Int) : Nat → Int
  | 0 => 0
  | k + 1 => rkP n xs k + sumR n ((xs.length : Int) - k - 1) (startX xs k) (xs.getD k 0 - startX xs k).toNat

def rankOk (n : Int) (xs : List Int) : Bool := inB n 0 20 && (ascB xs && decide (xs.length = 0 ∨ (0 ≤ xs.getD 0 0 ∧ xs.getD (xs.length - 1) 0 < n)))
def rankI (n : Int) (xs : List Int) : Int := if rankOk n xs then rkP n xs xs.length else -1

theorem rankOk_get {n : Int} {xs : List Int} (h : rankOk n xs = true) : 0 ≤ n ∧ n ≤ 20 ∧ (∀ i, i + 1 < xs.length → xs.getD i 0 < xs.getD (i + 1) 0) ∧ ∀ j, j < xs.length → 0 ≤ xs.getD j 0 ∧ xs.getD j 0 < n := by
  simp only [rankOk, Bool.and_eq_true, decide_eq_true_eq, inB_iff] at h
  obtain ⟨⟨h1, h2⟩, h3, h4⟩ := h
  have ha := (ascB_iff xs).1 h3
  refine ⟨h1, h2, ha, fun j hj => ?_⟩
  rcases h4 with h4 | ⟨h5, h6⟩
  · omega
  · have up : ∀ i, i < xs.length → 0 ≤ xs.getD i 0 := by
      intro i
      induction i with
      | zero => intro _; exact h5
      | succ i ih => intro hi; have h7 := ih (by omega); have h8 := ha i hi; omega
    have down : ∀ d i, i + d = xs.length - 1 → i < xs.length → xs.getD i 0 < n := by
      intro d
      induction d with
      | zero => intro i hi _; rw [show i = xs.length - 1 from by omega]; exact h6
      | succ d ih => intro i hi hl; have h7 := ih (i + 1) (by omega) (by omega); have h8 := ha i (by omega); omega
    exact ⟨up j hj, down (xs.length - 1 - j) j (by omega) hj⟩

theorem rankOk_mk {n : Int} {xs : List Int} (hn : inB n 0 20 = true) (h : ∀ j, j < xs.length → (0 ≤ xs.getD j 0 ∧ xs.getD j 0 ≤ n - 1) ∧ (0 < j → xs.getD (j - 1) 0 < xs.getD j 0)) : rankOk n xs = true := by
  simp only [rankOk, Bool.and_eq_true, decide_eq_true_eq]
  refine ⟨hn, (ascB_iff xs).2 fun i hi => ?_, ?_⟩
  · have := (h (i + 1) hi).2 (by omega)
    simpa using this
  · rcases Nat.eq_zero_or_pos xs.length with h0 | h0
    · exact .inl h0
    · refine .inr ⟨(h 0 h0).1.1, ?_⟩
      have := (h (xs.length - 1) (by omega)).1.2
      omega

theorem startX_le {n : Int} {xs : List Int} (h : rankOk n xs = true) {k : Nat} (hk : k < xs.length) : 0 ≤ startX xs k ∧ startX xs k ≤ xs.getD k 0 ∧ xs.getD k 0 < n := by
  obtain ⟨_, _, ha, hb⟩ := rankOk_get h
  have h1 := hb k hk
  cases k with
  | zero => exact ⟨Int.le_refl _, h1.1, h1.2⟩
  | succ k => have h2 := ha k hk; have h3 := hb k (by omega); exact ⟨by simp only [startX]; omega, by simp only [startX]; omega, h1.2⟩
theorem startX_all {n : Int} {xs : List Int} (h : rankOk n xs = true) {k : Nat} (hk : k ≤ xs.length) : 0 ≤ startX xs k ∧ startX xs k ≤ n := by
  obtain ⟨h0, _, ha, hb⟩ := rankOk_get h
  cases k with
  | zero => exact ⟨Int.le_refl _, h0⟩
  | succ k => have h3 := hb k (by omega); exact ⟨by simp only [startX]; omega, by simp only [startX]; omega⟩

theorem rank_ways (a b c : Bool) (d : Prop) : (a = false) ∨ (a = true ∧ b = false) ∨ (a = true ∧ b = true) := by cases a <;> cases b <;> simp
theorem rankI_no {n : Int} {xs : List Int} (h : rankOk n xs = false) : rankI n xs = -1 := by simp [rankI, h]
theorem rankI_yes {n : Int} {xs : List Int} (h : rankOk n xs = true) : rankI n xs = rkP n xs xs.length := by simp [rankI, h]

set_option maxHeartbeats 2000000 in
theorem iRankAt_yes (m : Int) (A : Option Addr) (n c : Nat) (xs : List Int) (w : World) (h : Rd w A n (xs.map (Value.int .i64))) (hn : n ≤ 1073741824) (hok : rankOk m xs = true) :
    Calls Try.prog 21 #[.int .i64 m, .slice A n c] w fun e w' => e = .returned (.int .i64 (rankI m xs)) ∧ Below w.heap.size w w' := by
  have hlen : xs.length = n := by simpa using h.len
  have HL := Lib.hid hlen
  have H := Lib.hid h
  have HOk := Lib.hid hok
  have hin : inB m 0 20 = true := by simp only [rankOk, Bool.and_eq_true] at hok; exact hok.1
  have has : ascB xs = true := by simp only [rankOk, Bool.and_eq_true] at hok; exact hok.2.1
  obtain ⟨m0, m1, _, hall⟩ := rankOk_get hok
  have HIn := Lib.hid hin
  have HAs := Lib.hid has
  have HAll := Lib.hid hall
  rename_i hasc
  clear hasc
  have hpos : n = 0 ∨ 0 < n := by omega
  clear h hlen hok hin has hall
  rcases hpos with hp | hp
  · have hn0 : ¬ (0 < (n : Int)) := by omega
    clear hp
    go_enter Try.func21, Try.ntmps21
    go_wp2_with fail
    refine (within_any m 0 20 _).mono ?_
    rw [HIn.out]
    rintro e w1 ⟨rfl, rfl⟩
    go_wp2_with fail
    refine (iAscending_any A n c xs _ H.out hn).mono ?_
    rw [HAs.out]
    rintro e w1 ⟨rfl, hb1⟩
    have HB1 := Lib.hid hb1
    clear hb1
    go_wp2_with fail
    go_loopw [5, 6, 40] (fun rr xx i wr => ∃ (k : Nat) (r : Int), k ≤ n ∧ i = .int .i64 k ∧ xx = .int .i64 (startX xs k) ∧ rr = .int .i64 r ∧ Hid (r = rkP m xs k) ∧ 0 ≤ r ∧ r ≤ startX xs k * 1048576 ∧ Below w.heap.size w wr) (fun _ _ i _ => n - (intOf i).toNat)
    case atStart => exact ⟨0, 0, Nat.zero_le _, rfl, rfl, rfl, rfl, Int.le_refl _, by simp [startX], HB1.out⟩
    case round =>
      obtain ⟨k, r, hk, rfl, rfl, rfl, hr, hr0, hr1, hbel⟩ := hrel
      obtain ⟨wo, rfl⟩ : ∃ wo : World, wo = wr := ⟨_, rfl⟩
      by_cases hlt : k < n
      · obtain ⟨b, off, rfl, hbl, hc⟩ := H.out.ex (by omega)
        have hcell0 : wo.cell? ⟨b, off + k, none⟩ = some (.int .i64 (xs.getD k 0)) := (hbel.cell (p := ⟨b, off + k, none⟩) hbl).trans (hc k _ (getCell (by rw [HL.out]; omega)))
        obtain ⟨a0, a1, a2⟩ := startX_le HOk.out (k := k) (by rw [HL.out]; exact hlt)
        have hsucc : rkP m xs (k + 1) = rkP m xs k + sumR m ((n : Int) - k - 1) (startX xs k) (xs.getD k 0 - startX xs k).toNat := by rw [← HL.out]; rfl
        have HSucc := Lib.hid hsucc
        have hnext : startX xs (k + 1) = xs.getD k 0 + 1 := rfl
        have HNext := Lib.hid hnext
        have HBel := Lib.hid hbel
        obtain ⟨a, ha⟩ : ∃ a, startX xs k = a := ⟨_, rfl⟩
        obtain ⟨y, hy⟩ : ∃ y, xs.getD k 0 = y := ⟨_, rfl⟩
        rw [ha] at a0 a1 hr1 HSucc
        rw [hy] at a1 a2 HSucc HNext hcell0
        rw [ha]
        have HY := Lib.hid hy
        have HC := Lib.hid hc
        clear hsucc hnext ha hy hc hbel
        go_wp2_with fail
        go_loopw [5, 6] (fun rr xx wr => ∃ (t : Nat) (q : Int), xx = .int .i64 (a + t) ∧ rr = .int .i64 q ∧ Hid (q = r + sumR m ((n : Int) - k - 1) a t) ∧ a + t ≤ y ∧ 0 ≤ q ∧ q ≤ (a + t) * 1048576 ∧ Below w.heap.size w wr) (fun _ xx _ => (y - intOf xx).toNat)
        case atStart => exact ⟨0, r, by go_num, rfl, (by simp [sumR, Hid]), by omega, hr0, by simpa using hr1, HBel.out⟩
        case round =>
          obtain ⟨t, q, rfl, rfl, hq, ht, hq0, hq1, hbel⟩ := hrel
          have hb := binI_bd (m - (a + t) - 1) ((n : Int) - k - 1)
          obtain ⟨hb0, hb1⟩ := hb
          have hq2 : q ≤ 20971520 := by omega
          have hcell1 : wr.cell? ⟨b, off + k, none⟩ = some (.int .i64 y) := (hbel.cell (p := ⟨b, off + k, none⟩) hbl).trans (by rw [HC.out k _ (getCell (by rw [HL.out]; omega)), HY.out])
          have HBel2 := Lib.hid hbel
          clear hbel
          by_cases hty : a + t < y
          · have hm1 : IntKind.i64.wrap (m - (a + t) - 1) = m - (a + t) - 1 := IntWalk.i64_in _ (by omega)
            clear hm1
            go_wp2_with fail
            refine (iBinomial_any _ _ _).mono ?_
            rintro e w2 ⟨rfl, rfl⟩
            go_wp2_with fail
            go_roundw
            case rel => exact ⟨t + 1, q + binI (m - (a + t) - 1) ((n : Int) - k - 1), by go_num, rfl, (by show _ = r + (sumR m ((n : Int) - k - 1) a t + binI (m - (a + t) - 1) ((n : Int) - k - 1)); rw [hq.out]; omega), by omega, by omega, by omega, HBel2.out⟩
            case measure => simp [intOf]; omega
          · have HT := Lib.hid (show (y - a).toNat = t by omega)
            have hty' : a + t = y := by omega
            have HTY := Lib.hid hty'
            clear hty'
            go_wp2_with fail
            go_roundw
            case rel => exact ⟨k + 1, q, by omega, by go_num, by rw [HNext.out], rfl, (by show q = rkP m xs (k + 1); rw [HSucc.out, HT.out, ← hr.out]; exact hq.out), hq0, by rw [HNext.out]; have := HTY.out; omega, HBel2.out⟩
            case measure => simp [intOf]; omega
      · obtain rfl : k = n := by omega
        have HR := Lib.hid (show rankI m xs = r by rw [rankI_yes HOk.out, HL.out]; exact hr.out.symm)
        have HBel := Lib.hid hbel
        clear hbel
        go_wp2_with fail
        go_ret
        exact ⟨by rw [HR.out]; rfl, HBel.out⟩
  · obtain ⟨b0, off0, hA, hbl0, hc0⟩ := H.out.ex hp
    have f1 := (HAll.out 0 (by rw [HL.out]; exact hp)).1
    have f2 := (HAll.out (n - 1) (by rw [HL.out]; omega)).2
    have HC0 := Lib.hid (hc0 0 _ (getCell (by rw [HL.out]; exact hp)))
    have HC1 := Lib.hid (hc0 (n - 1) _ (getCell (by rw [HL.out]; omega)))
    obtain ⟨z0, hz0⟩ : ∃ z, xs.getD 0 0 = z := ⟨_, rfl⟩
    obtain ⟨z1, hz1⟩ : ∃ z, xs.getD (n - 1) 0 = z := ⟨_, rfl⟩
    rw [hz0] at f1 HC0
    rw [hz1] at f2 HC1
    have HA := Lib.hid hA
    clear hc0 hz0 hz1 hA
    have hp' : 0 < (n : Int) := by omega
    have nn : ((n : Int) - 1).toNat = n - 1 := by omega
    have NN := Lib.hid nn
    clear nn
    go_enter Try.func21, Try.ntmps21
    go_wp2_with fail
    refine (within_any m 0 20 _).mono ?_
    rw [HIn.out]
    rintro e w1 ⟨rfl, rfl⟩
    go_wp2_with fail
    refine (iAscending_any A n c xs _ H.out hn).mono ?_
    rw [HAs.out]
    rintro e w1 ⟨rfl, hb1⟩
    have HB1 := Lib.hid hb1
    have d0 : w1.cell? ⟨b0, off0, none⟩ = some (.int .i64 z0) := (hb1.cell (p := ⟨b0, off0, none⟩) hbl0).trans HC0.out
    have d1 : w1.cell? ⟨b0, off0 + (n - 1), none⟩ = some (.int .i64 z1) := (hb1.cell (p := ⟨b0, off0 + (n - 1), none⟩) hbl0).trans HC1.out
    clear hb1
    have hA' := HA.out
    subst hA'
    go_wp2_with fail
    clear d0 d1
    go_loopw [5, 6, 40] (fun rr xx i wr => ∃ (k : Nat) (r : Int), k ≤ n ∧ i = .int .i64 k ∧ xx = .int .i64 (startX xs k) ∧ rr = .int .i64 r ∧ Hid (r = rkP m xs k) ∧ 0 ≤ r ∧ r ≤ startX xs k * 1048576 ∧ Below w.heap.size w wr) (fun _ _ i _ => n - (intOf i).toNat)
    case atStart => exact ⟨0, 0, Nat.zero_le _, rfl, rfl, rfl, rfl, Int.le_refl _, by simp [startX], HB1.out⟩
    case round =>
      obtain ⟨k, r, hk, rfl, rfl, rfl, hr, hr0, hr1, hbel⟩ := hrel
      obtain ⟨wo, rfl⟩ : ∃ wo : World, wo = wr := ⟨_, rfl⟩
      by_cases hlt : k < n
      · obtain ⟨b, off, hA2, hbl, hc⟩ := H.out.ex (by omega)
        injection hA2 with hA2
        injection hA2 with e1 e2 _
        subst e1 e2
        have hcell0 : wo.cell? ⟨b0, off0 + k, none⟩ = some (.int .i64 (xs.getD k 0)) := (hbel.cell (p := ⟨b0, off0 + k, none⟩) hbl).trans (hc k _ (getCell (by rw [HL.out]; omega)))
        obtain ⟨a0, a1, a2⟩ := startX_le HOk.out (k := k) (by rw [HL.out]; exact hlt)
        have hsucc : rkP m xs (k + 1) = rkP m xs k + sumR m ((n : Int) - k - 1) (startX xs k) (xs.getD k 0 - startX xs k).toNat := by rw [← HL.out]; rfl
        have HSucc := Lib.hid hsucc
        have hnext : startX xs (k + 1) = xs.getD k 0 + 1 := rfl
        have HNext := Lib.hid hnext
        have HBel := Lib.hid hbel
        obtain ⟨a, ha⟩ : ∃ a, startX xs k = a := ⟨_, rfl⟩
        obtain ⟨y, hy⟩ : ∃ y, xs.getD k 0 = y := ⟨_, rfl⟩
        rw [ha] at a0 a1 hr1 HSucc
        rw [hy] at a1 a2 HSucc HNext hcell0
        rw [ha]
        have HY := Lib.hid hy
        have HC := Lib.hid hc
        clear hsucc hnext ha hy hc hbel
        go_wp2_with fail
        go_loopw [5, 6] (fun rr xx wr => ∃ (t : Nat) (q : Int), xx = .int .i64 (a + t) ∧ rr = .int .i64 q ∧ Hid (q = r + sumR m ((n : Int) - k - 1) a t) ∧ a + t ≤ y ∧ 0 ≤ q ∧ q ≤ (a + t) * 1048576 ∧ Below w.heap.size w wr) (fun _ xx _ => (y - intOf xx).toNat)
        case atStart => exact ⟨0, r, by go_num, rfl, (by simp [sumR, Hid]), by omega, hr0, by simpa using hr1, HBel.out⟩
        case round =>
          obtain ⟨t, q, rfl, rfl, hq, ht, hq0, hq1, hbel⟩ := hrel
          have hb := binI_bd (m - (a + t) - 1) ((n : Int) - k - 1)
          obtain ⟨hb0, hb1⟩ := hb
          have hq2 : q ≤ 20971520 := by omega
          have hcell1 : wr.cell? ⟨b0, off0 + k, none⟩ = some (.int .i64 y) := (hbel.cell (p := ⟨b0, off0 + k, none⟩) hbl).trans (by rw [HC.out k _ (getCell (by rw [HL.out]; omega)), HY.out])
          have HBel2 := Lib.hid hbel
          clear hbel
          by_cases hty : a + t < y
          · have hm1 : IntKind.i64.wrap (m - (a + t) - 1) = m - (a + t) - 1 := IntWalk.i64_in _ (by omega)
            clear hm1
            go_wp2_with fail
            refine (iBinomial_any _ _ _).mono ?_
            rintro e w2 ⟨rfl, rfl⟩
            go_wp2_with fail
            go_roundw
            case rel => exact ⟨t + 1, q + binI (m - (a + t) - 1) ((n : Int) - k - 1), by go_num, rfl, (by show _ = r + (sumR m ((n : Int) - k - 1) a t + binI (m - (a + t) - 1) ((n : Int) - k - 1)); rw [hq.out]; omega), by omega, by omega, by omega, HBel2.out⟩
            case measure => simp [intOf]; omega
          · have HT := Lib.hid (show (y - a).toNat = t by omega)
            have hty' : a + t = y := by omega
            have HTY := Lib.hid hty'
            clear hty'
            go_wp2_with fail
            go_roundw
            case rel => exact ⟨k + 1, q, by omega, by go_num, by rw [HNext.out], rfl, (by show q = rkP m xs (k + 1); rw [HSucc.out, HT.out, ← hr.out]; exact hq.out), hq0, by rw [HNext.out]; have := HTY.out; omega, HBel2.out⟩
            case measure => simp [intOf]; omega
      · obtain rfl : k = n := by omega
        have HR := Lib.hid (show rankI m xs = r by rw [rankI_yes HOk.out, HL.out]; exact hr.out.symm)
        have HBel := Lib.hid hbel
        clear hbel
        go_wp2_with fail
        go_ret
        exact ⟨by rw [HR.out]; rfl, HBel.out⟩

set_option maxHeartbeats 1000000 in
theorem iRankAt_no (m : Int) (A : Option Addr) (n c : Nat) (xs : List Int) (w : World) (h : Rd w A n (xs.map (Value.int .i64))) (hn : n ≤ 1073741824) (hok : rankOk m xs = false) :
    Calls Try.prog 21 #[.int .i64 m, .slice A n c] w fun e w' => e = .returned (.int .i64 (rankI m xs)) ∧ Below w.heap.size w w' := by
  have HR := Lib.hid (rankI_no hok)
  have hlen : xs.length = n := by simpa using h.len
  have HL := Lib.hid hlen
  have H := Lib.hid h
  cases h1 : inB m 0 20
  · clear h hlen hok
    go_enter Try.func21, Try.ntmps21
    go_wp2_with fail
    refine (within_any m 0 20 _).mono ?_
    rw [h1]
    rintro e w1 ⟨rfl, rfl⟩
    go_wp2_with fail
    go_ret
    exact ⟨by rw [HR.out]; rfl, Below.refl _ _⟩
  · cases h2 : ascB xs
    · clear h hlen hok
      go_enter Try.func21, Try.ntmps21
      go_wp2_with fail
      refine (within_any m 0 20 _).mono ?_
      rw [h1]
      rintro e w1 ⟨rfl, rfl⟩
      go_wp2_with fail
      refine (iAscending_any A n c xs _ H.out hn).mono ?_
      rw [h2]
      rintro e w1 ⟨rfl, hb1⟩
      have HB1 := Lib.hid hb1
      clear hb1
      go_wp2_with fail
      go_ret
      exact ⟨by rw [HR.out]; rfl, HB1.out⟩
    · have hp : 0 < n ∧ ¬ (0 ≤ xs.getD 0 0 ∧ xs.getD (n - 1) 0 < m) := by
        simp only [rankOk, h1, h2, Bool.true_and, decide_eq_false_iff_not, hlen] at hok
        refine ⟨?_, fun hh => hok (.inr hh)⟩
        rcases Nat.eq_zero_or_pos n with h0 | h0
        · exact absurd (.inl h0) hok
        · exact h0
      obtain ⟨hp, hbad⟩ := hp
      obtain ⟨b0, off0, hA, hbl0, hc0⟩ := h.ex hp
      have HC0 := Lib.hid (hc0 0 _ (getCell (by omega)))
      have HC1 := Lib.hid (hc0 (n - 1) _ (getCell (by omega)))
      obtain ⟨z0, hz0⟩ : ∃ z, xs.getD 0 0 = z := ⟨_, rfl⟩
      obtain ⟨z1, hz1⟩ : ∃ z, xs.getD (n - 1) 0 = z := ⟨_, rfl⟩
      rw [hz0] at hbad HC0
      rw [hz1] at hbad HC1
      have HA := Lib.hid hA
      clear hc0 hz0 hz1 hA h hlen hok
      have hp' : 0 < (n : Int) := by omega
      rcases (show z0 < 0 ∨ (0 ≤ z0 ∧ m ≤ z1) by omega) with hz | ⟨hz, hz'⟩
      all_goals
        clear hbad
        go_enter Try.func21, Try.ntmps21
        go_wp2_with fail
        refine (within_any m 0 20 _).mono ?_
        rw [h1]
        rintro e w1 ⟨rfl, rfl⟩
        go_wp2_with fail
        refine (iAscending_any A n c xs _ H.out hn).mono ?_
        rw [h2]
        rintro e w1 ⟨rfl, hb1⟩
        have HB1 := Lib.hid hb1
        have d0 : w1.cell? ⟨b0, off0, none⟩ = some (.int .i64 z0) := (hb1.cell (p := ⟨b0, off0, none⟩) hbl0).trans HC0.out
        have d1 : w1.cell? ⟨b0, off0 + (n - 1), none⟩ = some (.int .i64 z1) := (hb1.cell (p := ⟨b0, off0 + (n - 1), none⟩) hbl0).trans HC1.out
        clear hb1
        have hA' := HA.out
        subst hA'
        go_wp2_with fail
        go_ret
        exact ⟨by rw [HR.out]; rfl, HB1.out⟩

theorem iRankAt_any (m : Int) (A : Option Addr) (n c : Nat) (xs : List Int) (w : World) (h : Rd w A n (xs.map (Value.int .i64))) (hn : n ≤ 1073741824) :
    Calls Try.prog 21 #[.int .i64 m, .slice A n c] w fun e w' => e = .returned (.int .i64 (rankI m xs)) ∧ Below w.heap.size w w' := by
  cases hok : rankOk m xs
  · exact iRankAt_no m A n c xs w h hn hok
  · exact iRankAt_yes m A n c xs w h hn hok

theorem rankOk_bad {m : Int} {xs : List Int} {k : Nat} (hk : k < xs.length) (h : inB (xs.getD k 0) 0 (m - 1) = false) : rankOk m xs = false := by
  cases hc : rankOk m xs
  · rfl
  · have := (rankOk_get hc).2.2.2 k hk
    rw [inB_yes this.1 (by omega)] at h; cases h
theorem rankOk_bad2 {m : Int} {xs : List Int} {k : Nat} (hk : k + 1 < xs.length) (h : xs.getD (k + 1) 0 ≤ xs.getD k 0) : rankOk m xs = false := by
  cases hc : rankOk m xs
  · rfl
  · have := (rankOk_get hc).2.2.1 k hk
    omega

set_option maxHeartbeats 4000000 in
theorem sRankAt_any (m : Int) (A : Option Addr) (n c : Nat) (xs : List Int) (w : World) (h : Rd w A n (xs.map (Value.int .i64))) (hn : n ≤ 1073741824) :
    Calls Try.prog 19 #[.int .i64 m, .slice A n c] w fun e w' => e = .returned (.int .i64 (rankI m xs)) ∧ Below w.heap.size w w' := by
  have hlen : xs.length = n := by simpa using h.len
  have HL := Lib.hid hlen
  have H := Lib.hid h
  clear h hlen
  cases h1 : inB m 0 20
  · have HR := Lib.hid (rankI_no (n := m) (xs := xs) (by simp [rankOk, h1]))
    go_enter Try.func19, Try.ntmps19
    go_wp2_with fail
    refine (l1In_any m 0 20 _).mono ?_
    rw [h1]
    rintro e w1 ⟨rfl, rfl⟩
    go_wp2_with fail
    go_ret
    exact ⟨by rw [HR.out]; rfl, Below.refl _ _⟩
  · obtain ⟨m0, m1⟩ := inB_iff.1 h1
    have H1 := Lib.hid h1
    clear h1
    go_enter Try.func19, Try.ntmps19
    go_wp2_with fail
    refine (l1In_any m 0 20 _).mono ?_
    rw [H1.out]
    rintro e w1 ⟨rfl, rfl⟩
    go_wp2_with fail
    go_loopw [5] (fun i wr => ∃ k : Nat, k ≤ n ∧ i = .int .i64 k ∧ Hid (∀ j, j < k → (0 ≤ xs.getD j 0 ∧ xs.getD j 0 ≤ m - 1) ∧ (0 < j → xs.getD (j - 1) 0 < xs.getD j 0)) ∧ Below w.heap.size w wr) (fun i _ => n - (intOf i).toNat)
    case atStart => exact ⟨0, Nat.zero_le _, rfl, (fun j hj => absurd hj (by omega)), Below.refl _ _⟩
    case round =>
      obtain ⟨k, hk, rfl, hgood, hbel⟩ := hrel
      by_cases hlt : k < n
      · obtain ⟨b, off, rfl, hbl, hc⟩ := H.out.ex (by omega)
        have hcell : wr.cell? ⟨b, off + k, none⟩ = some (.int .i64 (xs.getD k 0)) := (hbel.cell (p := ⟨b, off + k, none⟩) hbl).trans (hc k _ (getCell (by rw [HL.out]; omega)))
        have HBel := Lib.hid hbel
        obtain ⟨x, hx⟩ : ∃ x, xs.getD k 0 = x := ⟨_, rfl⟩
        rw [hx] at hcell
        have HX := Lib.hid hx
        have n0 : (0 : Int) ≤ (k : Int) := Int.natCast_nonneg _
        have n1 : (k : Int) < (n : Int) := by omega
        have n2 : IntKind.i64.wrap (m - 1) = m - 1 := IntWalk.i64_in _ (by omega)
        cases hin : inB x 0 (m - 1)
        · have HR := Lib.hid (rankI_no (n := m) (xs := xs) (rankOk_bad (k := k) (by rw [HL.out]; exact hlt) (by rw [hx]; exact hin)))
          clear hc hx hbel
          go_wp2_with fail
          go_quiet ((go_at_call 64; exact Calls.quiet_of_same (l1In_q hin _)))
          clear n2
          go_wp2_with fail
          go_ret
          exact ⟨by rw [HR.out]; rfl, Below.trans HBel.out (by repeat (first | exact Below.refl _ _ | apply below_drewN | apply Below.drew))⟩
        · obtain ⟨x0, x1⟩ := inB_iff.1 hin
          rcases Nat.eq_zero_or_pos k with hk0 | hk0
          · subst hk0
            simp only [Nat.add_zero] at hcell
            clear hc hx hbel
            go_wp2_with fail
            go_quiet ((go_at_call 64; exact Calls.quiet_of_same (l1In_q hin _)))
            clear n2
            go_wp2_with fail
            go_roundw
            case rel =>
              refine ⟨1, by omega, by go_num, (fun j hj => ?_), Below.trans HBel.out (by repeat (first | exact Below.refl _ _ | apply below_drewN | apply Below.drew))⟩
              obtain rfl : j = 0 := by omega
              rw [HX.out]; exact ⟨⟨x0, x1⟩, fun h => absurd h (by omega)⟩
            case measure => simp [intOf]; omega
          · obtain ⟨k', rfl⟩ : ∃ k', k = k' + 1 := ⟨k - 1, by omega⟩
            have hcell' : wr.cell? ⟨b, off + k', none⟩ = some (.int .i64 (xs.getD k' 0)) := (hbel.cell (p := ⟨b, off + k', none⟩) hbl).trans (hc k' _ (getCell (by rw [HL.out]; omega)))
            obtain ⟨y, hy⟩ : ∃ y, xs.getD k' 0 = y := ⟨_, rfl⟩
            rw [hy] at hcell'
            have HY := Lib.hid hy
            rw [Int.natCast_add] at n0 n1
            rw [Int.natCast_add]
            have hg : (0 : Int) < (k' : Int) + 1 := by omega
            have g0 : (0 : Int) ≤ (k' : Int) := Int.natCast_nonneg _
            have g1 : (k' : Int) < (n : Int) := by omega
            have n4 : ((k' : Int) + 1).toNat = k' + 1 := by omega
            have n5 : IntKind.i64.wrap (k' : Int) = k' := IntWalk.i64_in _ (by omega)
            by_cases hyx : y < x
            · clear hc hx hy hbel hk0
              go_wp2_with fail
              go_quiet ((go_at_call 64; exact Calls.quiet_of_same (l1In_q hin _)))
              clear n2 n4 n5
              go_wp2_with fail
              go_roundw
              case rel =>
                refine ⟨k' + 2, by omega, by go_num, (fun j hj => ?_), Below.trans HBel.out (by repeat (first | exact Below.refl _ _ | apply below_drewN | apply Below.drew))⟩
                rcases Nat.lt_or_ge j (k' + 1) with h1 | h1
                · exact hgood.out j h1
                · obtain rfl : j = k' + 1 := by omega
                  rw [HX.out]; exact ⟨⟨x0, x1⟩, fun _ => by rw [show k' + 1 - 1 = k' from rfl, HY.out]; exact hyx⟩
              case measure => simp [intOf]; omega
            · have HR := Lib.hid (rankI_no (n := m) (xs := xs) (rankOk_bad2 (k := k') (by rw [HL.out]; exact hlt) (by rw [hx, hy]; omega)))
              have hxy : x ≤ y := by omega
              clear hc hx hy hbel hk0 hyx
              go_wp2_with fail
              go_quiet ((go_at_call 64; exact Calls.quiet_of_same (l1In_q hin _)))
              clear n2 n4 n5
              go_wp2_with fail
              go_ret
              exact ⟨by rw [HR.out]; rfl, Below.trans HBel.out (by repeat (first | exact Below.refl _ _ | apply below_drewN | apply Below.drew))⟩
      · have HOk := Lib.hid (rankOk_mk H1.out fun j hj => hgood.out j (by rw [HL.out] at hj; omega))
        have HB1 := Lib.hid hbel
        have hge : (n : Int) ≤ (k : Int) := by omega
        clear hgood hbel
        go_wp2_with fail
        go_loopw [6, 7, 8] (fun rr xx i wr => ∃ (k : Nat) (r : Int), k ≤ n ∧ i = .int .i64 k ∧ xx = .int .i64 (startX xs k) ∧ rr = .int .i64 r ∧ Hid (r = rkP m xs k) ∧ 0 ≤ r ∧ r ≤ startX xs k * 1048576 ∧ Below w.heap.size w wr) (fun _ _ i _ => n - (intOf i).toNat)
        case atStart => exact ⟨0, 0, Nat.zero_le _, rfl, rfl, rfl, rfl, Int.le_refl _, by simp [startX], HB1.out⟩
        case round =>
          obtain ⟨k, r, hk, rfl, rfl, rfl, hr, hr0, hr1, hbel⟩ := hrel
          obtain ⟨wo, rfl⟩ : ∃ wo : World, wo = wr := ⟨_, rfl⟩
          by_cases hlt : k < n
          · obtain ⟨b, off, rfl, hbl, hc⟩ := H.out.ex (by omega)
            have hcell0 : wo.cell? ⟨b, off + k, none⟩ = some (.int .i64 (xs.getD k 0)) := (hbel.cell (p := ⟨b, off + k, none⟩) hbl).trans (hc k _ (getCell (by rw [HL.out]; omega)))
            obtain ⟨a0, a1, a2⟩ := startX_le HOk.out (k := k) (by rw [HL.out]; exact hlt)
            have hsucc : rkP m xs (k + 1) = rkP m xs k + sumR m ((n : Int) - k - 1) (startX xs k) (xs.getD k 0 - startX xs k).toNat := by rw [← HL.out]; rfl
            have HSucc := Lib.hid hsucc
            have hnext : startX xs (k + 1) = xs.getD k 0 + 1 := rfl
            have HNext := Lib.hid hnext
            have HBel := Lib.hid hbel
            obtain ⟨a, ha⟩ : ∃ a, startX xs k = a := ⟨_, rfl⟩
            obtain ⟨y, hy⟩ : ∃ y, xs.getD k 0 = y := ⟨_, rfl⟩
            rw [ha] at a0 a1 hr1 HSucc
            rw [hy] at a1 a2 HSucc HNext hcell0
            rw [ha]
            have HY := Lib.hid hy
            have HC := Lib.hid hc
            clear hsucc hnext ha hy hc hbel
            go_wp2_with fail
            go_loopw [6, 7] (fun rr xx wr => ∃ (t : Nat) (q : Int), xx = .int .i64 (a + t) ∧ rr = .int .i64 q ∧ Hid (q = r + sumR m ((n : Int) - k - 1) a t) ∧ a + t ≤ y ∧ 0 ≤ q ∧ q ≤ (a + t) * 1048576 ∧ Below w.heap.size w wr) (fun _ xx _ => (y - intOf xx).toNat)
            case atStart => exact ⟨0, r, by go_num, rfl, (by simp [sumR, Hid]), by omega, hr0, by simpa using hr1, HBel.out⟩
            case round =>
              obtain ⟨t, q, rfl, rfl, hq, ht, hq0, hq1, hbel⟩ := hrel
              have hb := binI_bd (m - (a + t) - 1) ((n : Int) - k - 1)
              obtain ⟨hb0, hb1⟩ := hb
              have hq2 : q ≤ 20971520 := by omega
              have hcell1 : wr.cell? ⟨b, off + k, none⟩ = some (.int .i64 y) := (hbel.cell (p := ⟨b, off + k, none⟩) hbl).trans (by rw [HC.out k _ (getCell (by rw [HL.out]; omega)), HY.out])
              have HBel2 := Lib.hid hbel
              clear hbel
              by_cases hty : a + t < y
              · have hm1 : IntKind.i64.wrap (m - (a + t) - 1) = m - (a + t) - 1 := IntWalk.i64_in _ (by omega)
                clear hm1
                go_wp2_with fail
                refine (sBinomial_any _ _ _).mono ?_
                rintro e w2 ⟨rfl, hb2⟩
                have HBel3 := Lib.hid (HBel2.out.trans (hb2.mono HBel2.out.size))
                clear hb2
                go_wp2_with fail
                go_roundw
                case rel => exact ⟨t + 1, q + binI (m - (a + t) - 1) ((n : Int) - k - 1), by go_num, rfl, (by show _ = r + (sumR m ((n : Int) - k - 1) a t + binI (m - (a + t) - 1) ((n : Int) - k - 1)); rw [hq.out]; omega), by omega, by omega, by omega, HBel3.out⟩
                case measure => simp [intOf]; omega
              · have HT := Lib.hid (show (y - a).toNat = t by omega)
                have hty' : a + t = y := by omega
                have HTY := Lib.hid hty'
                clear hty'
                go_wp2_with fail
                go_roundw
                case rel => exact ⟨k + 1, q, by omega, by go_num, by rw [HNext.out, ← HTY.out], rfl, (by show q = rkP m xs (k + 1); rw [HSucc.out, HT.out, ← hr.out]; exact hq.out), hq0, by rw [HNext.out]; have := HTY.out; omega, HBel2.out⟩
                case measure => simp [intOf]; omega
          · obtain rfl : k = n := by omega
            have HR := Lib.hid (show rankI m xs = r by rw [rankI_yes HOk.out, HL.out]; exact hr.out.symm)
            have HBel := Lib.hid hbel
            clear hbel
            go_wp2_with fail
            go_ret
            exact ⟨by rw [HR.out]; rfl, HBel.out⟩

end Go.Proofs.Ytfdpfeaegcfglaa
