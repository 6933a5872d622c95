/-
  SubsetAt of both packages: the list that unranking gives.
-/
import Derived.Test.YtfdpfeaegcfglaaBinom
import Derived.Test.YtfdpfeaegcfglaaObj
namespace Go.Proofs.Ytfdpfeaegcfglaa
open Go.RowKit
set_option linter.unusedSimpArgs false
set_option linter.unusedVariables false

/-- Unranking: r numbers are left from x on, m are wanted. -/
def subG : Nat → Nat → Nat → Nat → List Int
  | _, 0, _, _ => []
  | 0, _ + 1, _, _ => []
  | r + 1, m + 1, rank, x => if rank < choose r m then (x : Int) :: subG r m rank (x + 1) else subG r (m + 1) (rank - choose r m) (x + 1)
theorem subG_zero (r rank x : Nat) : subG r 0 rank x = [] := by cases r <;> rfl
theorem subG_in {r m rank x : Nat} (h : rank < choose r m) : subG (r + 1) (m + 1) rank x = (x : Int) :: subG r m rank (x + 1) := by simp [subG, h]
theorem subG_out {r m rank x : Nat} (h : ¬ rank < choose r m) : subG (r + 1) (m + 1) rank x = subG r (m + 1) (rank - choose r m) (x + 1) := by simp [subG, h]
theorem subG_len : ∀ (r m rank x : Nat), rank < choose r m → (subG r m rank x).length = m
  | r, 0, rank, x, _ => by rw [subG_zero]; rfl
  | 0, m + 1, rank, x, h => by simp [choose] at h
  | r + 1, m + 1, rank, x, h => by
    rw [choose_succ] at h
    by_cases h1 : rank < choose r m
    · rw [subG_in h1, List.length_cons, subG_len r m rank (x + 1) h1]
    · rw [subG_out h1, subG_len r (m + 1) (rank - choose r m) (x + 1) (by omega)]

def subOk (n k rank : Int) : Bool := inB rank 0 (binI n k - 1)
def subI (n k rank : Int) : List Int := subG n.toNat k.toNat rank.toNat 0

theorem subOk_nat {n k rank : Int} (h : subOk n k rank = true) : ∃ N K R : Nat, n = N ∧ k = K ∧ rank = R ∧ N ≤ 20 ∧ K ≤ N ∧ R < choose N K ∧ subI n k rank = subG N K R 0 := by
  obtain ⟨h1, h2⟩ := inB_iff.1 h
  have hb : (inB n 0 20 && inB k 0 n) = true := by
    cases hc : (inB n 0 20 && inB k 0 n)
    · rw [binI_no hc] at h2; omega
    · rfl
  simp only [Bool.and_eq_true, inB_iff] at hb
  obtain ⟨N, rfl⟩ := Int.eq_ofNat_of_zero_le hb.1.1
  obtain ⟨K, rfl⟩ := Int.eq_ofNat_of_zero_le hb.2.1
  obtain ⟨R, rfl⟩ := Int.eq_ofNat_of_zero_le h1
  have e := binI_nat (n := N) (k := K) (by omega) (by omega)
  rw [e] at h2
  exact ⟨N, K, R, rfl, rfl, rfl, by omega, by omega, by omega, rfl⟩

theorem sub_step {N K q x rank : Nat} (hq : q < K) (hx : x ≤ N) (hr : rank < choose (N - x) (K - q)) : x < N := by
  rcases Nat.lt_or_ge x N with h | h
  · exact h
  · exfalso
    have e : N - x = 0 := by omega
    obtain ⟨m, hm⟩ : ∃ m, K - q = m + 1 := ⟨K - q - 1, by omega⟩
    rw [e, hm] at hr
    simp [choose] at hr
theorem sub_with {N K q x : Nat} (hN : N ≤ 20) (hq : q < K) (hx : x < N) (hK : K - q ≤ N - x) : binI ((N : Int) - x - 1) ((K : Int) - q - 1) = (choose (N - x - 1) (K - q - 1) : Nat) := by
  have e1 : (N : Int) - x - 1 = ((N - x - 1 : Nat) : Int) := by omega
  have e2 : (K : Int) - q - 1 = ((K - q - 1 : Nat) : Int) := by omega
  rw [e1, e2]
  exact binI_nat (by omega) (by omega)
theorem sub_fit {N K q x rank : Nat} (hr : rank < choose (N - x) (K - q)) : K - q ≤ N - x := by
  rcases Nat.lt_or_ge (N - x) (K - q) with h | h
  · rw [choose_gt _ _ h] at hr; omega
  · exact h
theorem sub_split {N K q x : Nat} (hq : q < K) (hx : x < N) : choose (N - x) (K - q) = choose (N - x - 1) (K - q - 1) + choose (N - x - 1) (K - q) := by
  obtain ⟨a, ha⟩ : ∃ a, N - x = a + 1 := ⟨N - x - 1, by omega⟩
  obtain ⟨b, hb⟩ : ∃ b, K - q = b + 1 := ⟨K - q - 1, by omega⟩
  rw [ha, hb, choose_succ]; simp
theorem sub_yes {N K q x rank : Nat} (hq : q < K) (hx : x < N) (h : rank < choose (N - x - 1) (K - q - 1)) : subG (N - x) (K - q) rank x = (x : Int) :: subG (N - (x + 1)) (K - (q + 1)) rank (x + 1) := by
  obtain ⟨a, ha⟩ : ∃ a, N - x = a + 1 := ⟨N - x - 1, by omega⟩
  obtain ⟨b, hb⟩ : ∃ b, K - q = b + 1 := ⟨K - q - 1, by omega⟩
  rw [ha, hb] at h ⊢
  simp only [Nat.add_sub_cancel] at h
  rw [subG_in h, show N - (x + 1) = a from by omega, show K - (q + 1) = b from by omega]
theorem sub_no {N K q x rank : Nat} (hq : q < K) (hx : x < N) (h : ¬ rank < choose (N - x - 1) (K - q - 1)) : subG (N - x) (K - q) rank x = subG (N - (x + 1)) (K - q) (rank - choose (N - x - 1) (K - q - 1)) (x + 1) := by
  obtain ⟨a, ha⟩ : ∃ a, N - x = a + 1 := ⟨N - x - 1, by omega⟩
  obtain ⟨b, hb⟩ : ∃ b, K - q = b + 1 := ⟨K - q - 1, by omega⟩
  rw [ha, hb] at h ⊢
  simp only [Nat.add_sub_cancel] at h ⊢
  rw [subG_out h, show N - (x + 1) = a from by omega]

/-- Where the loop stands: q numbers are chosen, the next to look at is x. -/
def SubAt (N K R q x rank : Nat) (xs : List Int) : Prop := q ≤ K ∧ x ≤ N ∧ xs.length = q ∧ rank < choose (N - x) (K - q) ∧ subG N K R 0 = xs ++ subG (N - x) (K - q) rank x
theorem SubAt.start {N K R : Nat} (h : R < choose N K) : SubAt N K R 0 0 R [] := ⟨Nat.zero_le _, Nat.zero_le _, rfl, by simpa using h, by simp⟩
theorem SubAt.yes {N K R q x rank : Nat} {xs : List Int} (h : SubAt N K R q x rank xs) (hq : q < K) (hx : x < N) (hr : rank < choose (N - x - 1) (K - q - 1)) : SubAt N K R (q + 1) (x + 1) rank (xs ++ [(x : Int)]) := by
  obtain ⟨h1, h2, h3, h4, h5⟩ := h
  refine ⟨hq, hx, by simp [h3], ?_, ?_⟩
  · rw [show N - (x + 1) = N - x - 1 from by omega, show K - (q + 1) = K - q - 1 from by omega]; exact hr
  · rw [h5, sub_yes hq hx hr]; simp
theorem SubAt.no {N K R q x rank : Nat} {xs : List Int} (h : SubAt N K R q x rank xs) (hq : q < K) (hx : x < N) (hr : ¬ rank < choose (N - x - 1) (K - q - 1)) : SubAt N K R q (x + 1) (rank - choose (N - x - 1) (K - q - 1)) xs := by
  obtain ⟨h1, h2, h3, h4, h5⟩ := h
  rw [sub_split hq hx] at h4
  refine ⟨h1, hx, h3, ?_, ?_⟩
  · rw [show N - (x + 1) = N - x - 1 from by omega]; omega
  · rw [h5, sub_no hq hx hr]
theorem SubAt.done {N K R x rank : Nat} {xs : List Int} (h : SubAt N K R K x rank xs) : xs = subG N K R 0 := by
  obtain ⟨_, _, _, _, h5⟩ := h
  rw [Nat.sub_self, subG_zero, List.append_nil] at h5
  exact h5.symm

set_option maxHeartbeats 2000000 in
theorem iSubsetAt_yes (n k rank : Int) (w : World) (h : subOk n k rank = true) : Calls Try.prog 24 #[.int .i64 n, .int .i64 k, .int .i64 rank] w fun e w' =>
    ∃ A c, e = .returned (.slice A k.toNat c) ∧ w'.ownsRow w.heap.size 3 1 (.slice A k.toNat c) k.toNat ((subI n k rank).map (Value.int .i64)) ∧ Below w.heap.size w w' := by
  obtain ⟨N, K, R, rfl, rfl, rfl, hN, hK, hR, he⟩ := subOk_nat h
  rw [he]
  simp only [Int.toNat_natCast]
  have HOk := Lib.hid (show inB (R : Int) 0 (binI N K - 1) = true from h)
  have HA0 := Lib.hid (SubAt.start hR)
  obtain ⟨i0, hi0, hz0, hz1, hz2⟩ := info_parts info_int
  have HI := Lib.hid hi0; have HZ := Lib.hid hz0; have HZ1 := Lib.hid hz1; have HZ2 := Lib.hid hz2
  have bb := binI_bd N K
  obtain ⟨bb1, bb2⟩ := bb
  clear hi0 hz0 hz1 hz2 he h
  go_enter Try.func24, Try.ntmps24
  go_wp2_with (first | (go_at_call 28; refine (iBinomial_any _ _ _).mono ?_; rintro e w' ⟨rfl, rfl⟩) | (go_at_call 62; refine (within_any _ _ _ _).mono ?_; rw [HOk.out]; rintro e w' ⟨rfl, rfl⟩))
  go_loopw [2, 7, 8] (fun rk out xx wr => ∃ (q x rank : Nat) (A : Option Addr) (c : Nat) (xs : List Int), rk = .int .i64 rank ∧ out = .slice A q c ∧ xx = .int .i64 x ∧ SubAt N K R q x rank xs ∧
      wr.ownsRow w.heap.size 3 1 (.slice A q c) q (xs.map (Value.int .i64)) ∧ Below w.heap.size w wr) (fun _ _ xx _ => N - (intOf xx).toNat)
  case atStart => exact ⟨0, 0, R, _, _, [], rfl, rfl, rfl, HA0.out, World.ownsRow_lit w #[] 0 (Nat.le_refl _) (by simp [maxLen]) rfl, by go_grown⟩
  case round =>
    obtain ⟨q, x, rank, A, c, xs, rfl, rfl, rfl, hat, hown, hbel⟩ := hrel
    have HOwn := Lib.hid hown
    have HBel := Lib.hid hbel
    have hsz := hbel.size
    have hqK := hat.1
    have hxN := hat.2.1
    have hrb := hat.2.2.2.1
    have HAt := Lib.hid hat
    clear hown hbel hat
    by_cases hlt : q < K
    · have hx := sub_step hlt hxN hrb
      have hfit := sub_fit hrb
      have HWith := Lib.hid (sub_with hN hlt hx hfit)
      have hcb := choose_le20 (n := N - x) (k := K - q) (by omega)
      have hc1 := choose_le20 (n := N - x - 1) (k := K - q - 1) (by omega)
      have hr20 : rank ≤ 1048576 := by omega
      by_cases hin : rank < choose (N - x - 1) (K - q - 1)
      · have HAt2 := Lib.hid (HAt.out.yes hlt hx hin)
        clear hrb
        go_wp2_with fail
        refine (iBinomial_any _ _ _).mono ?_
        rw [HWith.out]
        rintro e w' ⟨rfl, rfl⟩
        go_wp2_with (at_builtin; refine wpList_append_own _ rfl _ _ 27 rfl w.heap.size 3 i0 (.int .i64 0) 1 8 Try.underlying27 HI.out HZ.out HZ1.out HZ2.out rfl (by decide) (.slice A q c) q (xs.map (Value.int .i64)) rfl (HOwn.out.alloc _) ⟨wr.heap.size, 0, none⟩ 1 1 [.int .i64 x] rfl rfl ?c1 ?c2 ?c3 ?c4 ?c5 ?_)
        case c1 => exact cell_one_new _ _ _
        case c2 => intro u hu; simp at hu; subst hu; rfl
        case c3 => unfold maxLen; omega
        case c4 => omega
        case c5 => simp; omega
        · intro v' w3 hown3 hgrow _
          obtain ⟨A', c', rfl⟩ := own_shape hown3
          have HO3 := Lib.hid hown3
          have HB3 := Lib.hid ((HBel.out.alloc (o := .cells #[.int .i64 x] 3) hsz).grown hgrow (by simp; omega) (fun k hk => (HOwn.out.lt k hk).1))
          clear hown3 hgrow
          go_wp2_with fail
          go_roundw
          case rel => exact ⟨q + 1, x + 1, rank, A', c', xs ++ [(x : Int)], rfl, rfl, by go_num, HAt2.out, by simpa using HO3.out, HB3.out⟩
          case measure => simp [intOf]; omega
      · have HAt2 := Lib.hid (HAt.out.no hlt hx hin)
        have hge : choose (N - x - 1) (K - q - 1) ≤ rank := by omega
        clear hrb
        go_wp2_with fail
        refine (iBinomial_any _ _ _).mono ?_
        rw [HWith.out]
        rintro e w' ⟨rfl, rfl⟩
        go_wp2_with fail
        go_roundw
        case rel => exact ⟨q, x + 1, rank - choose (N - x - 1) (K - q - 1), A, c, xs, by go_num, rfl, by go_num, HAt2.out, HOwn.out, HBel.out⟩
        case measure => simp [intOf]; omega
    · obtain rfl : q = K := by omega
      have HD := Lib.hid HAt.out.done
      clear hrb
      go_wp2_with fail
      go_ret
      exact ⟨A, c, rfl, by rw [← HD.out]; exact HOwn.out, HBel.out⟩

theorem iSubsetAt_no (n k rank : Int) (w : World) (h : subOk n k rank = false) : Calls Try.prog 24 #[.int .i64 n, .int .i64 k, .int .i64 rank] w fun e w' => e = .returned (.slice none 0 0) ∧ w = w' := by
  have HOk := Lib.hid (show inB rank 0 (binI n k - 1) = false from h)
  have bb := binI_bd n k
  obtain ⟨bb1, bb2⟩ := bb
  clear h
  go_enter Try.func24, Try.ntmps24
  go_wp2_with (first | (go_at_call 28; refine (iBinomial_any _ _ _).mono ?_; rintro e w' ⟨rfl, rfl⟩) | (go_at_call 62; refine (within_any _ _ _ _).mono ?_; rw [HOk.out]; rintro e w' ⟨rfl, rfl⟩))
  go_ret
  exact ⟨rfl, rfl⟩

set_option maxHeartbeats 2000000 in
theorem sSubsetAt_yes (n k rank : Int) (w : World) (h : subOk n k rank = true) : Calls Try.prog 23 #[.int .i64 n, .int .i64 k, .int .i64 rank] w fun e w' =>
    ∃ A c, e = .returned (.slice A k.toNat c) ∧ w'.ownsRow w.heap.size 3 1 (.slice A k.toNat c) k.toNat ((subI n k rank).map (Value.int .i64)) ∧ Below w.heap.size w w' := by
  obtain ⟨N, K, R, rfl, rfl, rfl, hN, hK, hR, he⟩ := subOk_nat h
  rw [he]
  simp only [Int.toNat_natCast]
  have HOk := Lib.hid (show inB (R : Int) 0 (binI N K - 1) = true from h)
  have HA0 := Lib.hid (SubAt.start hR)
  obtain ⟨i0, hi0, hz0, hz1, hz2⟩ := info_parts info_int
  have HI := Lib.hid hi0; have HZ := Lib.hid hz0; have HZ1 := Lib.hid hz1; have HZ2 := Lib.hid hz2
  have bb := binI_bd N K
  obtain ⟨bb1, bb2⟩ := bb
  clear hi0 hz0 hz1 hz2 he h
  go_enter Try.func23, Try.ntmps23
  go_wp2_with fail
  refine (sBinomial_any _ _ _).mono ?_
  rintro e wb ⟨rfl, hb⟩
  have HO0 := Lib.hid (own_below (World.ownsRow_lit (base := w.heap.size) (e := 3) (size := 1) w #[] 0 (Nat.le_refl _) (by simp [maxLen]) rfl) hb (Nat.le_refl _))
  have HB0 := Lib.hid (fin_below hb (below_alloc1 (w := w) (.cells #[] 3)) (by simp))
  clear hb
  go_wp2_with (go_at_call 64; refine (l1In_any _ _ _ _).mono ?_; rw [HOk.out]; rintro e w' ⟨rfl, rfl⟩)
  go_loopw [2, 7, 8] (fun rk out xx wr => ∃ (q x rank : Nat) (A : Option Addr) (c : Nat) (xs : List Int), rk = .int .i64 rank ∧ out = .slice A q c ∧ xx = .int .i64 x ∧ SubAt N K R q x rank xs ∧
      wr.ownsRow w.heap.size 3 1 (.slice A q c) q (xs.map (Value.int .i64)) ∧ Below w.heap.size w wr) (fun _ _ xx _ => N - (intOf xx).toNat)
  case atStart => exact ⟨0, 0, R, _, _, [], rfl, rfl, rfl, HA0.out, HO0.out, HB0.out⟩
  case round =>
    obtain ⟨q, x, rank, A, c, xs, rfl, rfl, rfl, hat, hown, hbel⟩ := hrel
    have HOwn := Lib.hid hown
    have HBel := Lib.hid hbel
    have hsz := hbel.size
    have hqK := hat.1
    have hxN := hat.2.1
    have hrb := hat.2.2.2.1
    have HAt := Lib.hid hat
    clear hown hbel hat
    by_cases hlt : q < K
    · have hx := sub_step hlt hxN hrb
      have hfit := sub_fit hrb
      have HWith := Lib.hid (sub_with hN hlt hx hfit)
      have hcb := choose_le20 (n := N - x) (k := K - q) (by omega)
      have hc1 := choose_le20 (n := N - x - 1) (k := K - q - 1) (by omega)
      have hr20 : rank ≤ 1048576 := by omega
      by_cases hin : rank < choose (N - x - 1) (K - q - 1)
      · have HAt2 := Lib.hid (HAt.out.yes hlt hx hin)
        clear hrb
        go_wp2_with fail
        refine (sBinomial_any _ _ _).mono ?_
        rw [HWith.out]
        rintro e w2 ⟨rfl, hb2⟩
        have HOwn2 := Lib.hid (own_below HOwn.out hb2 (Nat.le_refl _))
        have HBel2 := Lib.hid (HBel.out.trans (hb2.mono HBel.out.size))
        have hsz2 := HBel2.out.size
        clear hb2
        go_wp2_with (at_builtin; refine wpList_append_own _ rfl _ _ 27 rfl w.heap.size 3 i0 (.int .i64 0) 1 8 Try.underlying27 HI.out HZ.out HZ1.out HZ2.out rfl (by decide) (.slice A q c) q (xs.map (Value.int .i64)) rfl (HOwn2.out.alloc _) ⟨w2.heap.size, 0, none⟩ 1 1 [.int .i64 x] rfl rfl ?c1 ?c2 ?c3 ?c4 ?c5 ?_)
        case c1 => exact cell_one_new _ _ _
        case c2 => intro u hu; simp at hu; subst hu; rfl
        case c3 => unfold maxLen; omega
        case c4 => omega
        case c5 => simp; omega
        · intro v' w3 hown3 hgrow _
          obtain ⟨A', c', rfl⟩ := own_shape hown3
          have HO3 := Lib.hid hown3
          have HB3 := Lib.hid ((HBel2.out.alloc (o := .cells #[.int .i64 x] 3) hsz2).grown hgrow (by simp; omega) (fun k hk => (HOwn2.out.lt k hk).1))
          clear hown3 hgrow
          go_wp2_with fail
          go_roundw
          case rel => exact ⟨q + 1, x + 1, rank, A', c', xs ++ [(x : Int)], rfl, rfl, by go_num, HAt2.out, by simpa using HO3.out, HB3.out⟩
          case measure => simp [intOf]; omega
      · have HAt2 := Lib.hid (HAt.out.no hlt hx hin)
        have hge : choose (N - x - 1) (K - q - 1) ≤ rank := by omega
        clear hrb
        go_wp2_with fail
        refine (sBinomial_any _ _ _).mono ?_
        rw [HWith.out]
        rintro e w2 ⟨rfl, hb2⟩
        have HOwn2 := Lib.hid (own_below HOwn.out hb2 (Nat.le_refl _))
        have HBel2 := Lib.hid (HBel.out.trans (hb2.mono HBel.out.size))
        have hsz2 := HBel2.out.size
        clear hb2
        go_wp2_with fail
        go_roundw
        case rel => exact ⟨q, x + 1, rank - choose (N - x - 1) (K - q - 1), A, c, xs, by go_num, rfl, by go_num, HAt2.out, HOwn2.out, HBel2.out⟩
        case measure => simp [intOf]; omega
    · obtain rfl : q = K := by omega
      have HD := Lib.hid HAt.out.done
      clear hrb
      go_wp2_with fail
      go_ret
      exact ⟨A, c, rfl, by rw [← HD.out]; exact HOwn.out, HBel.out⟩

theorem sSubsetAt_no (n k rank : Int) (w : World) (h : subOk n k rank = false) : Calls Try.prog 23 #[.int .i64 n, .int .i64 k, .int .i64 rank] w fun e w' => e = .returned (.slice (some ⟨w.heap.size, 0, none⟩) 0 0) ∧ Below w.heap.size w w' := by
  have HOk := Lib.hid (show inB rank 0 (binI n k - 1) = false from h)
  have bb := binI_bd n k
  obtain ⟨bb1, bb2⟩ := bb
  clear h
  go_enter Try.func23, Try.ntmps23
  go_wp2_with fail
  refine (sBinomial_any _ _ _).mono ?_
  rintro e wb ⟨rfl, hb⟩
  have HB0 := Lib.hid (fin_below hb (below_alloc1 (w := w) (.cells #[] 3)) (by simp))
  clear hb
  go_wp2_with (go_at_call 64; refine (l1In_any _ _ _ _).mono ?_; rw [HOk.out]; rintro e w' ⟨rfl, rfl⟩)
  go_ret
  exact ⟨rfl, HB0.out⟩

end Go.Proofs.Ytfdpfeaegcfglaa
