/-
  Sums, greatest common divisors, fractions in lowest terms, of both packages.
-/
import Derived.Test.YtchkmcikpamdeaaIn
import Derived.Test.YtchkmcikpamdeaaObj
import Derived.BigRegion
namespace Go.Proofs.Ytchkmcikpamdeaa
open Go.RowKit
set_option linter.unusedSimpArgs false
set_option linter.unusedVariables false

theorem sumE_succ (xs : List Int) (k : Nat) (h : k < xs.length) : (xs.take (k + 1)).sum = (xs.take k).sum + xs.getD k 0 := by
  have e : xs.getD k 0 = xs[k] := by simp [List.getD, h]
  rw [List.take_succ_eq_append_getElem h, List.sum_append, e]
  simp only [List.sum_cons, List.sum_nil, Int.add_zero]
theorem sumE_bd (xs : List Int) (h : ∀ x ∈ xs, 0 ≤ x ∧ x ≤ 999) : 0 ≤ xs.sum ∧ xs.sum ≤ 999 * xs.length := by
  induction xs with
  | nil => simp
  | cons x xs ih =>
    have h1 := ih fun y hy => h y (by simp [hy])
    have h2 := h x (by simp)
    simp only [List.sum_cons, List.length_cons]
    omega

set_option maxHeartbeats 1000000 in
theorem iTotalE_any (A : Option Addr) (n c : Nat) (xs : List Int) (w : World) (h : Rd w A n (xs.map (Value.int .i64))) (hn : n ≤ 1073741824) (hx : ∀ x ∈ xs, 0 ≤ x ∧ x ≤ 999) :
    Calls Try.prog 57 #[.slice A n c] w fun e w' => e = .returned (.int .i64 xs.sum) ∧ w = w' := by
  have hlen : xs.length = n := by simpa using h.len
  have HL := Lib.hid hlen
  have H := Lib.hid h
  have HX := Lib.hid hx
  clear h hlen hx
  go_enter Try.func57, Try.ntmps57
  go_wp2_with fail
  go_loop [3, 8] (fun s i => ∃ k : Nat, k ≤ n ∧ i = .int .i64 k ∧ s = .int .i64 ((xs.take k).sum)) (fun _ i => n - (intOf i).toNat)
  case atStart => exact ⟨0, Nat.zero_le _, rfl, rfl⟩
  case round =>
    obtain ⟨k, hk, rfl, rfl⟩ := hrel
    by_cases hlt : k < n
    · obtain ⟨b, off, rfl, hbl, hc⟩ := H.out.ex (by omega)
      have hl : k < xs.length := by rw [HL.out]; exact hlt
      have hcell := hc k (.int .i64 (xs.getD k 0)) (by simp [List.getD, hl])
      have HSS := Lib.hid (sumE_succ xs k hl)
      obtain ⟨s1, s2⟩ := sumE_bd (xs.take k) fun x hx => HX.out x (List.mem_of_mem_take hx)
      have hlt3 : (xs.take k).length ≤ k := by rw [List.length_take]; omega
      have hm := HX.out (xs.getD k 0) (by simp [List.getD, hl])
      obtain ⟨x1, x2⟩ := hm
      obtain ⟨x, hx⟩ : ∃ x, xs.getD k 0 = x := ⟨_, rfl⟩
      rw [hx] at hcell HSS x1 x2
      have s3 : (xs.take k).sum ≤ 1072668082176 := by omega
      clear hc hx hl s2 hlt3
      go_wp2_with fail
      go_round
      case rel => exact ⟨k + 1, by omega, by go_num, by rw [HSS.out]⟩
      case measure => simp [intOf]; omega
    · obtain rfl : k = n := by omega
      have HS := Lib.hid (show xs.sum = (xs.take k).sum by rw [← HL.out, List.take_length])
      go_wp2_with fail
      go_ret
      exact ⟨by rw [HS.out]; rfl, rfl⟩

set_option maxHeartbeats 1000000 in
theorem sSum_any (A : Option Addr) (n c : Nat) (xs : List Int) (w : World) (h : Rd w A n (xs.map (Value.int .i64))) (hn : n ≤ 1073741824) (hx : ∀ x ∈ xs, 0 ≤ x ∧ x ≤ 999) :
    Calls Try.prog 79 #[.slice A n c] w fun e w' => e = .returned (.int .i64 xs.sum) ∧ w = w' := by
  have hlen : xs.length = n := by simpa using h.len
  have HL := Lib.hid hlen
  have H := Lib.hid h
  have HX := Lib.hid hx
  clear h hlen hx
  go_enter Try.func79, Try.ntmps79
  go_wp2_with fail
  go_loop [3, 4] (fun s i => ∃ k : Nat, k ≤ n ∧ i = .int .i64 k ∧ s = .int .i64 ((xs.take k).sum)) (fun _ i => n - (intOf i).toNat)
  case atStart => exact ⟨0, Nat.zero_le _, rfl, rfl⟩
  case round =>
    obtain ⟨k, hk, rfl, rfl⟩ := hrel
    by_cases hlt : k < n
    · obtain ⟨b, off, rfl, hbl, hc⟩ := H.out.ex (by omega)
      have hl : k < xs.length := by rw [HL.out]; exact hlt
      have hcell := hc k (.int .i64 (xs.getD k 0)) (by simp [List.getD, hl])
      have HSS := Lib.hid (sumE_succ xs k hl)
      obtain ⟨s1, s2⟩ := sumE_bd (xs.take k) fun x hx => HX.out x (List.mem_of_mem_take hx)
      have hlt3 : (xs.take k).length ≤ k := by rw [List.length_take]; omega
      have hm := HX.out (xs.getD k 0) (by simp [List.getD, hl])
      obtain ⟨x1, x2⟩ := hm
      obtain ⟨x, hx⟩ : ∃ x, xs.getD k 0 = x := ⟨_, rfl⟩
      rw [hx] at hcell HSS x1 x2
      have s3 : (xs.take k).sum ≤ 1072668082176 := by omega
      clear hc hx hl s2 hlt3
      go_wp2_with fail
      go_round
      case rel => exact ⟨k + 1, by omega, by go_num, by rw [HSS.out]⟩
      case measure => simp [intOf]; omega
    · obtain rfl : k = n := by omega
      have HS := Lib.hid (show xs.sum = (xs.take k).sum by rw [← HL.out, List.take_length])
      go_wp2_with fail
      go_ret
      exact ⟨by rw [HS.out]; rfl, rfl⟩

set_option maxHeartbeats 1000000 in
theorem iGcd_any (a b : Nat) (ha : a ≤ 4000000000000000) (hb : b ≤ 4000000000000000) (w : World) : Calls Try.prog 105 #[.int .i64 a, .int .i64 b] w fun e w' => e = .returned (.int .i64 (Nat.gcd a b : Nat)) ∧ Below w.heap.size w w' := by
  go_enter Try.func105, Try.ntmps105
  go_wp2_with fail
  go_loopw [0, 1] (fun x y wr => ∃ p q : Nat, x = .int .i64 p ∧ y = .int .i64 q ∧ p ≤ 4000000000000000 ∧ q ≤ 4000000000000000 ∧ Hid (Nat.gcd p q = Nat.gcd a b) ∧ Below w.heap.size w wr) (fun _ y _ => (intOf y).toNat)
  case atStart => exact ⟨a, b, rfl, rfl, ha, hb, rfl, Below.refl _ _⟩
  case round =>
    obtain ⟨p, q, rfl, rfl, hp, hq, hg, hbel⟩ := hrel
    have HBel := Lib.hid hbel
    clear hbel
    by_cases hq0 : 0 < q
    · have hne : ((q : Int) != 0) = true := by simp; omega
      have hz : ¬ (q : Int) = 0 := by omega
      have hg2 : Nat.gcd q (p % q) = Nat.gcd p q := by rw [Nat.gcd_comm p q, Nat.gcd_rec q p, Nat.gcd_comm]
      have HG2 := Lib.hid (hg2.trans hg.out)
      have hmod : ((p : Int) % (q : Int)) = ((p % q : Nat) : Int) := (Int.natCast_emod p q).symm
      have hlt := Nat.mod_lt p hq0
      have HMod := Lib.hid hmod
      clear hg2 hg hmod
      go_wp2_with fail
      go_quiet (fail)
      go_wp2_with fail
      go_roundw
      case rel => exact ⟨q, p % q, rfl, by rw [← HMod.out], hq, by omega, HG2.out, by have := HBel.out; repeat (first | assumption | apply below_drewN | apply Below.drew)⟩
      case measure => simp only [intOf]; first | (simp; omega) | (rw [HMod.out]; simp; omega)
    · obtain rfl : q = 0 := by omega
      have HG2 := Lib.hid (show Nat.gcd a b = p by rw [← hg.out, Nat.gcd_zero_right])
      clear hg
      go_wp2_with fail
      go_ret
      exact ⟨by rw [HG2.out]; rfl, HBel.out⟩

set_option maxHeartbeats 1000000 in
theorem sGcd_any (a b : Nat) (ha : a ≤ 4000000000000000) (hb : b ≤ 4000000000000000) (w : World) : Calls Try.prog 108 #[.int .i64 a, .int .i64 b] w fun e w' => e = .returned (.int .i64 (Nat.gcd a b : Nat)) ∧ Below w.heap.size w w' := by
  go_enter Try.func108, Try.ntmps108
  go_wp2_with fail
  go_loopw [0, 1] (fun x y wr => ∃ p q : Nat, x = .int .i64 p ∧ y = .int .i64 q ∧ p ≤ 4000000000000000 ∧ q ≤ 4000000000000000 ∧ Hid (Nat.gcd p q = Nat.gcd a b) ∧ Below w.heap.size w wr) (fun _ y _ => (intOf y).toNat)
  case atStart => exact ⟨a, b, rfl, rfl, ha, hb, rfl, Below.refl _ _⟩
  case round =>
    obtain ⟨p, q, rfl, rfl, hp, hq, hg, hbel⟩ := hrel
    have HBel := Lib.hid hbel
    clear hbel
    by_cases hq0 : 0 < q
    · have hne : ((q : Int) != 0) = true := by simp; omega
      have hz : ¬ (q : Int) = 0 := by omega
      have hg2 : Nat.gcd q (p % q) = Nat.gcd p q := by rw [Nat.gcd_comm p q, Nat.gcd_rec q p, Nat.gcd_comm]
      have HG2 := Lib.hid (hg2.trans hg.out)
      have hmod : ((p : Int) % (q : Int)) = ((p % q : Nat) : Int) := (Int.natCast_emod p q).symm
      have hlt := Nat.mod_lt p hq0
      have HMod := Lib.hid hmod
      clear hg2 hg hmod
      go_wp2_with fail
      go_roundw
      case rel => exact ⟨q, p % q, rfl, by rw [← HMod.out], hq, by omega, HG2.out, by have := HBel.out; repeat (first | assumption | apply below_drewN | apply Below.drew)⟩
      case measure => simp only [intOf]; first | (simp; omega) | (rw [HMod.out]; simp; omega)
    · obtain rfl : q = 0 := by omega
      have HG2 := Lib.hid (show Nat.gcd a b = p by rw [← hg.out, Nat.gcd_zero_right])
      clear hg
      go_wp2_with fail
      go_ret
      exact ⟨by rw [HG2.out]; rfl, HBel.out⟩

/-- Is it a fraction? -/
def fracB (a b : Int) : Bool := inB a 0 4000000000000000 && inB b 1 4000000000000000
def lowN (a b : Int) : Int := if fracB a b = true then a / (Nat.gcd a.toNat b.toNat : Nat) else 0
def lowD (a b : Int) : Int := if fracB a b = true then b / (Nat.gcd a.toNat b.toNat : Nat) else 0

set_option maxHeartbeats 400000 in
theorem iFracOk_any (a b : Int) (w : World) : Calls Try.prog 104 #[.agg #[.int .i64 a, .int .i64 b]] w fun e w' => e = .returned (.bool (fracB a b)) ∧ Below w.heap.size w w' := by
  cases h1 : inB a 0 4000000000000000
  · have HF := Lib.hid (show fracB a b = false by simp [fracB, h1])
    go_enter Try.func104, Try.ntmps104
    go_wp2_with fail
    refine (within_any a 0 4000000000000000 _).mono ?_
    rw [h1]
    rintro e w1 ⟨rfl, rfl⟩
    go_wp2_with fail
    go_ret
    exact ⟨by rw [HF.out]; rfl, by go_grown⟩
  · have HF := Lib.hid (show fracB a b = inB b 1 4000000000000000 by simp [fracB, h1])
    go_enter Try.func104, Try.ntmps104
    go_wp2_with fail
    refine (within_any a 0 4000000000000000 _).mono ?_
    rw [h1]
    rintro e w1 ⟨rfl, rfl⟩
    go_wp2_with fail
    refine (within_any b 1 4000000000000000 _).mono ?_
    rintro e w1 ⟨rfl, rfl⟩
    go_wp2_with fail
    go_ret
    exact ⟨by rw [HF.out]; rfl, by go_grown⟩

set_option maxHeartbeats 400000 in
theorem sFracOk_any (a b : Int) (w : World) : Calls Try.prog 107 #[.agg #[.int .i64 a, .int .i64 b]] w fun e w' => e = .returned (.bool (fracB a b)) ∧ Below w.heap.size w w' := by
  cases h1 : inB a 0 4000000000000000
  · have HF := Lib.hid (show fracB a b = false by simp [fracB, h1])
    go_enter Try.func107, Try.ntmps107
    go_wp2_with fail
    refine (l1In_any a 0 4000000000000000 _).mono ?_
    rw [h1]
    rintro e w1 ⟨rfl, rfl⟩
    go_wp2_with fail
    go_ret
    exact ⟨by rw [HF.out]; rfl, by go_grown⟩
  · have HF := Lib.hid (show fracB a b = inB b 1 4000000000000000 by simp [fracB, h1])
    go_enter Try.func107, Try.ntmps107
    go_wp2_with fail
    refine (l1In_any a 0 4000000000000000 _).mono ?_
    rw [h1]
    rintro e w1 ⟨rfl, rfl⟩
    go_wp2_with fail
    refine (l1In_any b 1 4000000000000000 _).mono ?_
    rintro e w1 ⟨rfl, rfl⟩
    go_wp2_with fail
    go_ret
    exact ⟨by rw [HF.out]; rfl, by go_grown⟩

set_option maxHeartbeats 1000000 in
theorem iFracLow_any (a b : Int) (w : World) : Calls Try.prog 76 #[.agg #[.int .i64 a, .int .i64 b]] w fun e w' => e = .returned (.agg #[.int .i64 (lowN a b), .int .i64 (lowD a b)]) ∧ Below w.heap.size w w' := by
  have HB := Lib.hid (Below.refl (w.heap.size + 1 + 1) ((w.alloc (.cells #[.int .i64 a, .int .i64 b] 62)).alloc (.cells #[.int .i64 0, .int .i64 0] 62)))
  cases h : fracB a b
  · have HN := Lib.hid (show lowN a b = 0 by simp [lowN, h])
    have HD := Lib.hid (show lowD a b = 0 by simp [lowD, h])
    go_enter Try.func76, Try.ntmps76
    go_wp2_with fail
    refine (lift (iFracOk_any a b _) HB.out (by simp)).mono ?_
    rw [h]
    rintro e w1 ⟨rfl, hb⟩
    obtain ⟨bc, bf, bz⟩ := bcell hb
    have c00 : w1.cell? ⟨w.heap.size, 0, none⟩ = some (.int .i64 a) := by rw [bc _ _ (by omega)]; simp [go_sem, World.cell?_alloc_past]
    have c01 : w1.cell? ⟨w.heap.size, 1, none⟩ = some (.int .i64 b) := by rw [bc _ _ (by omega)]; simp [go_sem, World.cell?_alloc_past]
    have c10 : w1.cell? ⟨w.heap.size + 1, 0, none⟩ = some (.int .i64 0) := by rw [bc _ _ (by omega)]; simp [go_sem]
    have c11 : w1.cell? ⟨w.heap.size + 1, 1, none⟩ = some (.int .i64 0) := by rw [bc _ _ (by omega)]; simp [go_sem]
    have f10 : w1.frozen? ⟨w.heap.size + 1, 0, none⟩ = false := by rw [bf _ _ (by omega)]; simp [go_sem]
    have f11 : w1.frozen? ⟨w.heap.size + 1, 1, none⟩ = false := by rw [bf _ _ (by omega)]; simp [go_sem]
    have HB1 := Lib.hid (fin_below hb (B := w.heap.size) (w := w) (by go_grown) (by omega))
    clear hb bc bf
    go_wp2_with fail
    refine bodyPost_ret (v := .agg #[.int .i64 0, .int .i64 0]) (by simp [results, Try.results76, go_sem, c10, c11]) rfl ⟨by rw [HN.out, HD.out], ?_⟩
    have hB2 := HB1.out
    go_grown
  · obtain ⟨hN, hD⟩ : inB a 0 4000000000000000 = true ∧ inB b 1 4000000000000000 = true := by simpa [fracB] using h
    obtain ⟨a1, a2⟩ := inB_iff.1 hN
    obtain ⟨b1, b2⟩ := inB_iff.1 hD
    obtain ⟨x, rfl⟩ := Int.eq_ofNat_of_zero_le a1
    obtain ⟨y, rfl⟩ := Int.eq_ofNat_of_zero_le (show 0 ≤ b by omega)
    have hg : 0 < Nat.gcd x y := Nat.gcd_pos_of_pos_right _ (by omega)
    have hgx : Nat.gcd x y ≤ 4000000000000000 := Nat.le_trans (Nat.gcd_le_right _ (by omega)) (by omega)
    have HN := Lib.hid (show lowN x y = (x : Int) / (Nat.gcd x y : Nat) by unfold lowN; rw [if_pos h]; simp)
    have HD := Lib.hid (show lowD x y = (y : Int) / (Nat.gcd x y : Nat) by unfold lowD; rw [if_pos h]; simp)
    have H := Lib.hid h
    clear h hN hD
    have x2 : x ≤ 4000000000000000 := by omega
    have y2 : y ≤ 4000000000000000 := by omega
    go_enter Try.func76, Try.ntmps76
    go_wp2_with fail
    refine (lift (iFracOk_any x y _) HB.out (by simp)).mono ?_
    rw [H.out]
    rintro e w0 ⟨rfl, hb0⟩
    obtain ⟨bc0, bf0, bz0⟩ := bcell hb0
    have d00 : w0.cell? ⟨w.heap.size, 0, none⟩ = some (.int .i64 x) := by rw [bc0 _ _ (by omega)]; simp [go_sem, World.cell?_alloc_past]
    have d01 : w0.cell? ⟨w.heap.size, 1, none⟩ = some (.int .i64 y) := by rw [bc0 _ _ (by omega)]; simp [go_sem, World.cell?_alloc_past]
    have HB0 := Lib.hid hb0
    clear hb0 bc0 bf0
    go_wp2_with fail
    refine (lift (iGcd_any x y x2 y2 _) HB0.out (by simp)).mono ?_
    rintro e w1 ⟨rfl, hb⟩
    clear d00 d01
    obtain ⟨bc, bf, bz⟩ := bcell hb
    have c00 : w1.cell? ⟨w.heap.size, 0, none⟩ = some (.int .i64 x) := by rw [bc _ _ (by omega)]; simp [go_sem, World.cell?_alloc_past]
    have c01 : w1.cell? ⟨w.heap.size, 1, none⟩ = some (.int .i64 y) := by rw [bc _ _ (by omega)]; simp [go_sem, World.cell?_alloc_past]
    have c10 : w1.cell? ⟨w.heap.size + 1, 0, none⟩ = some (.int .i64 0) := by rw [bc _ _ (by omega)]; simp [go_sem]
    have c11 : w1.cell? ⟨w.heap.size + 1, 1, none⟩ = some (.int .i64 0) := by rw [bc _ _ (by omega)]; simp [go_sem]
    have f10 : w1.frozen? ⟨w.heap.size + 1, 0, none⟩ = false := by rw [bf _ _ (by omega)]; simp [go_sem]
    have f11 : w1.frozen? ⟨w.heap.size + 1, 1, none⟩ = false := by rw [bf _ _ (by omega)]; simp [go_sem]
    obtain ⟨G, hGG⟩ : ∃ G : Int, ((Nat.gcd x y : Nat) : Int) = G := ⟨_, rfl⟩
    have hg1 : 0 < G := by omega
    have hgx1 : G ≤ 4000000000000000 := by omega
    rw [hGG] at HN HD ⊢
    have HB1 := Lib.hid (fin_below hb (B := w.heap.size) (w := w) (by go_grown) (by omega))
    have hg0 : ¬ G = 0 := by omega
    have hg2 : (G == 0) = false := by simp; omega
    have q0 := Int.ediv_nonneg a1 (Int.le_of_lt hg1)
    have q1 := Int.ediv_nonneg (show (0 : Int) ≤ (y : Int) by omega) (Int.le_of_lt hg1)
    have q2 : (x : Int) / G ≤ x := Int.ediv_le_self _ a1
    have q3 : (y : Int) / G ≤ y := Int.ediv_le_self _ (by omega)
    have m0 : IntKind.i64.wrap ((x : Int) / G) = (x : Int) / G := IntWalk.i64_in _ (by omega)
    have m1 : IntKind.i64.wrap ((y : Int) / G) = (y : Int) / G := IntWalk.i64_in _ (by omega)
    have m2 : (x : Int).tdiv G = (x : Int) / G := Int.tdiv_eq_ediv_of_nonneg a1
    have m3 : (y : Int).tdiv G = (y : Int) / G := Int.tdiv_eq_ediv_of_nonneg (by omega)
    clear hb bc bf hGG
    go_wp2_with fail
    go_region_held3 (fun w' => w'.cell? ⟨w.heap.size, 0, none⟩ = some (.int .i64 x) ∧ w'.cell? ⟨w.heap.size, 1, none⟩ = some (.int .i64 y)) (first | go_keep | assumption) (first | fail)
    clear m0 m1 m2 m3
    go_wp2_with fail
    refine bodyPost_ret (v := .agg #[.int .i64 ((x : Int) / G), .int .i64 ((y : Int) / G)]) (by simp [results, Try.results76, go_sem, c10, c11]) rfl ⟨by rw [HN.out, HD.out], ?_⟩
    have hB2 := HB1.out
    go_grown

set_option maxHeartbeats 1000000 in
theorem sFracLow_any (a b : Int) (w : World) : Calls Try.prog 81 #[.agg #[.int .i64 a, .int .i64 b]] w fun e w' => e = .returned (.agg #[.int .i64 (lowN a b), .int .i64 (lowD a b)]) ∧ Below w.heap.size w w' := by
  have HB := Lib.hid (Below.refl (w.heap.size + 1 + 1) ((w.alloc (.cells #[.int .i64 a, .int .i64 b] 62)).alloc (.cells #[.int .i64 0, .int .i64 0] 62)))
  cases h : fracB a b
  · have HN := Lib.hid (show lowN a b = 0 by simp [lowN, h])
    have HD := Lib.hid (show lowD a b = 0 by simp [lowD, h])
    go_enter Try.func81, Try.ntmps81
    go_wp2_with fail
    refine (lift (sFracOk_any a b _) HB.out (by simp)).mono ?_
    rw [h]
    rintro e w1 ⟨rfl, hb⟩
    obtain ⟨bc, bf, bz⟩ := bcell hb
    have c00 : w1.cell? ⟨w.heap.size, 0, none⟩ = some (.int .i64 a) := by rw [bc _ _ (by omega)]; simp [go_sem, World.cell?_alloc_past]
    have c01 : w1.cell? ⟨w.heap.size, 1, none⟩ = some (.int .i64 b) := by rw [bc _ _ (by omega)]; simp [go_sem, World.cell?_alloc_past]
    have c10 : w1.cell? ⟨w.heap.size + 1, 0, none⟩ = some (.int .i64 0) := by rw [bc _ _ (by omega)]; simp [go_sem]
    have c11 : w1.cell? ⟨w.heap.size + 1, 1, none⟩ = some (.int .i64 0) := by rw [bc _ _ (by omega)]; simp [go_sem]
    have f10 : w1.frozen? ⟨w.heap.size + 1, 0, none⟩ = false := by rw [bf _ _ (by omega)]; simp [go_sem]
    have f11 : w1.frozen? ⟨w.heap.size + 1, 1, none⟩ = false := by rw [bf _ _ (by omega)]; simp [go_sem]
    have HB1 := Lib.hid (fin_below hb (B := w.heap.size) (w := w) (by go_grown) (by omega))
    clear hb bc bf
    go_wp2_with fail
    refine bodyPost_ret (v := .agg #[.int .i64 0, .int .i64 0]) (by simp [results, Try.results81, go_sem, c10, c11]) rfl ⟨by rw [HN.out, HD.out], ?_⟩
    have hB2 := HB1.out
    go_grown
  · obtain ⟨hN, hD⟩ : inB a 0 4000000000000000 = true ∧ inB b 1 4000000000000000 = true := by simpa [fracB] using h
    obtain ⟨a1, a2⟩ := inB_iff.1 hN
    obtain ⟨b1, b2⟩ := inB_iff.1 hD
    obtain ⟨x, rfl⟩ := Int.eq_ofNat_of_zero_le a1
    obtain ⟨y, rfl⟩ := Int.eq_ofNat_of_zero_le (show 0 ≤ b by omega)
    have hg : 0 < Nat.gcd x y := Nat.gcd_pos_of_pos_right _ (by omega)
    have hgx : Nat.gcd x y ≤ 4000000000000000 := Nat.le_trans (Nat.gcd_le_right _ (by omega)) (by omega)
    have HN := Lib.hid (show lowN x y = (x : Int) / (Nat.gcd x y : Nat) by unfold lowN; rw [if_pos h]; simp)
    have HD := Lib.hid (show lowD x y = (y : Int) / (Nat.gcd x y : Nat) by unfold lowD; rw [if_pos h]; simp)
    have H := Lib.hid h
    clear h hN hD
    have x2 : x ≤ 4000000000000000 := by omega
    have y2 : y ≤ 4000000000000000 := by omega
    go_enter Try.func81, Try.ntmps81
    go_wp2_with fail
    refine (lift (sFracOk_any x y _) HB.out (by simp)).mono ?_
    rw [H.out]
    rintro e w0 ⟨rfl, hb0⟩
    obtain ⟨bc0, bf0, bz0⟩ := bcell hb0
    have d00 : w0.cell? ⟨w.heap.size, 0, none⟩ = some (.int .i64 x) := by rw [bc0 _ _ (by omega)]; simp [go_sem, World.cell?_alloc_past]
    have d01 : w0.cell? ⟨w.heap.size, 1, none⟩ = some (.int .i64 y) := by rw [bc0 _ _ (by omega)]; simp [go_sem, World.cell?_alloc_past]
    have HB0 := Lib.hid hb0
    clear hb0 bc0 bf0
    go_wp2_with fail
    refine (lift (sGcd_any x y x2 y2 _) HB0.out (by simp)).mono ?_
    rintro e w1 ⟨rfl, hb⟩
    clear d00 d01
    obtain ⟨bc, bf, bz⟩ := bcell hb
    have c00 : w1.cell? ⟨w.heap.size, 0, none⟩ = some (.int .i64 x) := by rw [bc _ _ (by omega)]; simp [go_sem, World.cell?_alloc_past]
    have c01 : w1.cell? ⟨w.heap.size, 1, none⟩ = some (.int .i64 y) := by rw [bc _ _ (by omega)]; simp [go_sem, World.cell?_alloc_past]
    have c10 : w1.cell? ⟨w.heap.size + 1, 0, none⟩ = some (.int .i64 0) := by rw [bc _ _ (by omega)]; simp [go_sem]
    have c11 : w1.cell? ⟨w.heap.size + 1, 1, none⟩ = some (.int .i64 0) := by rw [bc _ _ (by omega)]; simp [go_sem]
    have f10 : w1.frozen? ⟨w.heap.size + 1, 0, none⟩ = false := by rw [bf _ _ (by omega)]; simp [go_sem]
    have f11 : w1.frozen? ⟨w.heap.size + 1, 1, none⟩ = false := by rw [bf _ _ (by omega)]; simp [go_sem]
    obtain ⟨G, hGG⟩ : ∃ G : Int, ((Nat.gcd x y : Nat) : Int) = G := ⟨_, rfl⟩
    have hg1 : 0 < G := by omega
    have hgx1 : G ≤ 4000000000000000 := by omega
    rw [hGG] at HN HD ⊢
    have HB1 := Lib.hid (fin_below hb (B := w.heap.size) (w := w) (by go_grown) (by omega))
    have hg0 : ¬ G = 0 := by omega
    have hg2 : (G == 0) = false := by simp; omega
    have q0 := Int.ediv_nonneg a1 (Int.le_of_lt hg1)
    have q1 := Int.ediv_nonneg (show (0 : Int) ≤ (y : Int) by omega) (Int.le_of_lt hg1)
    have q2 : (x : Int) / G ≤ x := Int.ediv_le_self _ a1
    have q3 : (y : Int) / G ≤ y := Int.ediv_le_self _ (by omega)
    have m0 : IntKind.i64.wrap ((x : Int) / G) = (x : Int) / G := IntWalk.i64_in _ (by omega)
    have m1 : IntKind.i64.wrap ((y : Int) / G) = (y : Int) / G := IntWalk.i64_in _ (by omega)
    have m2 : (x : Int).tdiv G = (x : Int) / G := Int.tdiv_eq_ediv_of_nonneg a1
    have m3 : (y : Int).tdiv G = (y : Int) / G := Int.tdiv_eq_ediv_of_nonneg (by omega)
    clear hb bc bf hGG
    go_wp2_with fail
    go_region_held3 (fun w' => w'.cell? ⟨w.heap.size, 0, none⟩ = some (.int .i64 x) ∧ w'.cell? ⟨w.heap.size, 1, none⟩ = some (.int .i64 y)) (first | go_keep | assumption) (first | fail)
    clear m0 m1 m2 m3
    go_wp2_with fail
    refine bodyPost_ret (v := .agg #[.int .i64 ((x : Int) / G), .int .i64 ((y : Int) / G)]) (by simp [results, Try.results81, go_sem, c10, c11]) rfl ⟨by rw [HN.out, HD.out], ?_⟩
    have hB2 := HB1.out
    go_grown

end Go.Proofs.Ytchkmcikpamdeaa
