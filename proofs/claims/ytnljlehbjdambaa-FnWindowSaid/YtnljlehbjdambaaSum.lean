/-
  WindowTotal and WindowOnes of both packages; the law file's helpers over buckets.
-/
import Derived.Test.YtnljlehbjdambaaBk
namespace Go.Proofs.Ytnljlehbjdambaa
open Go.RowKit
set_option linter.unusedSimpArgs false
set_option linter.unusedVariables false

def sm1 (bs : List (Int × Int)) : Int := (bs.map Prod.fst).sum
def sm2 (bs : List (Int × Int)) : Int := (bs.map Prod.snd).sum
theorem sm1_succ {bs : List (Int × Int)} {k : Nat} {b : Int × Int} (h : bs[k]? = some b) : sm1 (bs.take (k + 1)) = sm1 (bs.take k) + b.1 := by
  obtain ⟨h1, h2⟩ := List.getElem?_eq_some_iff.1 h
  unfold sm1; rw [List.take_succ_eq_append_getElem h1, List.map_append, List.sum_append]; simp [h2]
theorem sm2_succ {bs : List (Int × Int)} {k : Nat} {b : Int × Int} (h : bs[k]? = some b) : sm2 (bs.take (k + 1)) = sm2 (bs.take k) + b.2 := by
  obtain ⟨h1, h2⟩ := List.getElem?_eq_some_iff.1 h
  unfold sm2; rw [List.take_succ_eq_append_getElem h1, List.map_append, List.sum_append]; simp [h2]
theorem sum_bd (zs : List Int) (h : ∀ z ∈ zs, 0 ≤ z ∧ z ≤ 256) : 0 ≤ zs.sum ∧ zs.sum ≤ 256 * zs.length := by
  induction zs with
  | nil => simp
  | cons z zs ih =>
    have h1 := h z (by simp)
    have h2 := ih fun u hu => h u (by simp [hu])
    simp only [List.sum_cons, List.length_cons]
    omega
theorem bkJ_mem {xss : List (List Int)} (h : winB xss = true) : ∀ j, j ≤ xss.length → ∀ b ∈ bkJ xss j, (0 ≤ b.1 ∧ b.1 ≤ 256) ∧ (0 ≤ b.2 ∧ b.2 ≤ 256)
  | 0, _, b, hb => by simp [bkJ] at hb
  | j + 1, hj, b, hb => by
    simp only [bkJ, List.mem_append] at hb
    rcases hb with hb | hb
    · exact bkJ_mem h j (by omega) b hb
    · have hl : xss.length - 1 - j < xss.length := by omega
      have h8 := winB_len h
      have hp := pw_bd (r := xss.length - 1 - j) (by omega)
      simp only [rowBk, List.mem_map, List.getD, List.getElem?_eq_getElem hl, Option.getD_some] at hb
      obtain ⟨x, hx, rfl⟩ := hb
      have := rowB_elem (winB_row h (List.getElem?_eq_getElem hl)) hx
      simp only
      omega
theorem bk_len (xss : List (List Int)) : (bucketsL xss).length ≤ 24 := by
  unfold bucketsL
  split
  · rename_i h; have := bkJ_len h xss.length (Nat.le_refl _); have := winB_len h; omega
  · simp
theorem bk_mem {xss : List (List Int)} {b : Int × Int} (hb : b ∈ bucketsL xss) : (0 ≤ b.1 ∧ b.1 ≤ 256) ∧ (0 ≤ b.2 ∧ b.2 ≤ 256) := by
  unfold bucketsL at hb
  split at hb
  · rename_i h; exact bkJ_mem h _ (Nat.le_refl _) b hb
  · simp at hb
theorem sm1_bd (xss : List (List Int)) (k : Nat) : 0 ≤ sm1 ((bucketsL xss).take k) ∧ sm1 ((bucketsL xss).take k) ≤ 6144 := by
  have h := sum_bd (((bucketsL xss).take k).map Prod.fst) (by intro z hz; obtain ⟨b, hb, rfl⟩ := List.mem_map.1 hz; exact (bk_mem (List.mem_of_mem_take hb)).1)
  have hl := bk_len xss
  have h2 : (((bucketsL xss).take k).map Prod.fst).length ≤ 24 := by simp; omega
  unfold sm1; omega
theorem sm2_bd (xss : List (List Int)) (k : Nat) : 0 ≤ sm2 ((bucketsL xss).take k) ∧ sm2 ((bucketsL xss).take k) ≤ 6144 := by
  have h := sum_bd (((bucketsL xss).take k).map Prod.snd) (by intro z hz; obtain ⟨b, hb, rfl⟩ := List.mem_map.1 hz; exact (bk_mem (List.mem_of_mem_take hb)).2)
  have hl := bk_len xss
  have h2 : (((bucketsL xss).take k).map Prod.snd).length ≤ 24 := by simp; omega
  unfold sm2; omega
theorem bcells_get {bs : List (Int × Int)} {k : Nat} {b : Int × Int} (h : bs[k]? = some b) : (bcells bs)[k * 2]? = some (.int .i64 b.1) ∧ (bcells bs)[k * 2 + 1]? = some (.int .i64 b.2) := by
  induction bs generalizing k with
  | nil => simp at h
  | cons a bs ih =>
    cases k with
    | zero => simp only [List.getElem?_cons_zero, Option.some.injEq] at h; subst h; exact ⟨rfl, rfl⟩
    | succ k =>
      simp only [List.getElem?_cons_succ] at h
      have e1 : (k + 1) * 2 = k * 2 + 2 := by omega
      have e2 : bcells (a :: bs) = .int .i64 a.1 :: .int .i64 a.2 :: bcells bs := rfl
      rw [e1, e2]
      exact ih h
/-- An owned row of buckets reads as its cells. -/
theorem Rd.of_own2 {w : World} {base : Nat} {e : TypeId} {A : Option Addr} {c n : Nat} {xs : List Value} (h : w.ownsRow base e 2 (.slice A n c) n xs) : Rd w A (n * 2) xs := by
  refine ⟨h.1, fun hn => ?_⟩
  rcases h.2 with ⟨h0, h1⟩ | ⟨g, cap, cur, hv, hg, hh, hr⟩
  · omega
  · injection hv with hA _ hc
    subst hA hc
    have hlt : g < w.heap.size := by
      rcases Nat.lt_or_ge g w.heap.size with hlt | hge
      · exact hlt
      · rw [Array.getElem?_eq_none hge] at hh; cases hh
    refine ⟨g, 0, rfl, hlt, fun j u hu => ?_⟩
    have hj : j < n * 2 := by have := (List.getElem?_eq_some_iff.1 hu).1; rw [h.1] at this; exact this
    rw [Nat.zero_add, h.cellAt j hj, hu]

set_option maxHeartbeats 2000000 in
theorem iWindowTotal_any (A : Option Addr) (n c : Nat) (hs : List Hd) (xss : List (List Int)) (w : World) (h : RdSS w A n hs (iss xss)) (hb : totI xss ≤ 1048576) (hn : n ≤ 1048576) (hx : ∀ xs ∈ xss, ∀ x ∈ xs, -9223372036854775808 ≤ x ∧ x ≤ 9223372036854775807) :
    Calls Try.prog 11 #[.agg #[.slice A n c]] w fun e w' => e = .returned (.int .i64 (sm1 (bucketsL xss))) ∧ Below w.heap.size w w' := by
  have HX := Lib.hid hx
  clear hx
  have HB1 := Lib.hid (below_alloc1 (w := w) (.cells #[.slice A n c] 26))
  have H1 := Lib.hid (h.below (below_alloc1 (w := w) (.cells #[.slice A n c] 26)) (Nat.le_refl _))
  clear h
  go_enter Try.func11, Try.ntmps11
  go_wp2_with fail
  refine (iBuckets_any A n c hs xss _ H1.out hb hn HX.out).mono ?_
  rintro e w2 ⟨A2, c2, N, rfl, hN, o2, b2⟩
  have HN := Lib.hid hN
  have hN24 : N ≤ 24 := by rw [hN]; exact bk_len xss
  have HRd := Lib.hid (Rd.of_own2 o2)
  have HB2 := Lib.hid (HB1.out.trans (b2.mono HB1.out.size))
  clear hN o2 b2
  · go_wp2_with fail
    go_loopw [3, 9] (fun s i wr => ∃ k : Nat, k ≤ N ∧ i = .int .i64 k ∧ s = .int .i64 (sm1 ((bucketsL xss).take k)) ∧ Below w2.heap.size w2 wr) (fun _ i _ => N - (intOf i).toNat)
    case atStart => exact ⟨0, Nat.zero_le _, rfl, by simp [sm1], Below.refl _ _⟩
    case round =>
      obtain ⟨k, hk, rfl, rfl, hbel⟩ := hrel
      by_cases hlt : k < N
      · have hkl : k < (bucketsL xss).length := by rw [← HN.out]; exact hlt
        obtain ⟨b0, hb0⟩ : ∃ b, (bucketsL xss)[k]? = some b := ⟨_, List.getElem?_eq_getElem hkl⟩
        obtain ⟨g1, g2⟩ := bcells_get hb0
        have hbm := bk_mem (List.mem_of_getElem? hb0)
        obtain ⟨b, off, rfl, hbl, hc⟩ := HRd.out.ex (by omega)
        have c1 := hc _ _ g1; have c2 := hc _ _ g2
        rw [← Nat.add_assoc] at c2
        have hsb := sm1_bd xss k; have hss := sm1_succ hb0
        obtain ⟨s, hs⟩ : ∃ s, sm1 ((bucketsL xss).take k) = s := ⟨_, rfl⟩
        rw [hs] at hsb hss ⊢
        have HSS := Lib.hid hss
        clear hss hs g1 g2 hc hb0
        have d1 : wr.cell? ⟨b, off + k * 2, none⟩ = some (.int .i64 b0.1) := (hbel.cell (p := ⟨b, off + k * 2, none⟩) hbl).trans c1
        have d2 : wr.cell? ⟨b, off + k * 2 + 1, none⟩ = some (.int .i64 b0.2) := (hbel.cell (p := ⟨b, off + k * 2 + 1, none⟩) hbl).trans c2
        have HB3 := Lib.hid (hbel.alloc hbel.size (.cells #[.int .i64 b0.1, .int .i64 b0.2] 45))
        clear hbel c1 c2
        go_wp2
        go_roundw
        case rel => exact ⟨k + 1, by omega, by go_num, by rw [HSS.out], HB3.out⟩
        case measure => simp [intOf]; omega
      · obtain rfl : k = N := by omega
        have HS : Hid (sm1 ((bucketsL xss).take k) = sm1 (bucketsL xss)) := by unfold Hid; rw [List.take_of_length_le (Nat.le_of_eq HN.out.symm)]
        have HB3 := Lib.hid (HB2.out.trans (hbel.mono HB2.out.size))
        clear hbel
        rw [HS.out]
        go_wp2
        go_ret
        exact ⟨rfl, HB3.out⟩

set_option maxHeartbeats 2000000 in
theorem iWindowOnes_any (A : Option Addr) (n c : Nat) (hs : List Hd) (xss : List (List Int)) (w : World) (h : RdSS w A n hs (iss xss)) (hb : totI xss ≤ 1048576) (hn : n ≤ 1048576) (hx : ∀ xs ∈ xss, ∀ x ∈ xs, -9223372036854775808 ≤ x ∧ x ≤ 9223372036854775807) :
    Calls Try.prog 12 #[.agg #[.slice A n c]] w fun e w' => e = .returned (.int .i64 (sm2 (bucketsL xss))) ∧ Below w.heap.size w w' := by
  have HX := Lib.hid hx
  clear hx
  have HB1 := Lib.hid (below_alloc1 (w := w) (.cells #[.slice A n c] 26))
  have H1 := Lib.hid (h.below (below_alloc1 (w := w) (.cells #[.slice A n c] 26)) (Nat.le_refl _))
  clear h
  go_enter Try.func12, Try.ntmps12
  go_wp2_with fail
  refine (iBuckets_any A n c hs xss _ H1.out hb hn HX.out).mono ?_
  rintro e w2 ⟨A2, c2, N, rfl, hN, o2, b2⟩
  have HN := Lib.hid hN
  have hN24 : N ≤ 24 := by rw [hN]; exact bk_len xss
  have HRd := Lib.hid (Rd.of_own2 o2)
  have HB2 := Lib.hid (HB1.out.trans (b2.mono HB1.out.size))
  clear hN o2 b2
  · go_wp2_with fail
    go_loopw [3, 9] (fun s i wr => ∃ k : Nat, k ≤ N ∧ i = .int .i64 k ∧ s = .int .i64 (sm2 ((bucketsL xss).take k)) ∧ Below w2.heap.size w2 wr) (fun _ i _ => N - (intOf i).toNat)
    case atStart => exact ⟨0, Nat.zero_le _, rfl, by simp [sm2], Below.refl _ _⟩
    case round =>
      obtain ⟨k, hk, rfl, rfl, hbel⟩ := hrel
      by_cases hlt : k < N
      · have hkl : k < (bucketsL xss).length := by rw [← HN.out]; exact hlt
        obtain ⟨b0, hb0⟩ : ∃ b, (bucketsL xss)[k]? = some b := ⟨_, List.getElem?_eq_getElem hkl⟩
        obtain ⟨g1, g2⟩ := bcells_get hb0
        have hbm := bk_mem (List.mem_of_getElem? hb0)
        obtain ⟨b, off, rfl, hbl, hc⟩ := HRd.out.ex (by omega)
        have c1 := hc _ _ g1; have c2 := hc _ _ g2
        rw [← Nat.add_assoc] at c2
        have hsb := sm2_bd xss k; have hss := sm2_succ hb0
        obtain ⟨s, hs⟩ : ∃ s, sm2 ((bucketsL xss).take k) = s := ⟨_, rfl⟩
        rw [hs] at hsb hss ⊢
        have HSS := Lib.hid hss
        clear hss hs g1 g2 hc hb0
        have d1 : wr.cell? ⟨b, off + k * 2, none⟩ = some (.int .i64 b0.1) := (hbel.cell (p := ⟨b, off + k * 2, none⟩) hbl).trans c1
        have d2 : wr.cell? ⟨b, off + k * 2 + 1, none⟩ = some (.int .i64 b0.2) := (hbel.cell (p := ⟨b, off + k * 2 + 1, none⟩) hbl).trans c2
        have HB3 := Lib.hid (hbel.alloc hbel.size (.cells #[.int .i64 b0.1, .int .i64 b0.2] 45))
        clear hbel c1 c2
        go_wp2
        go_roundw
        case rel => exact ⟨k + 1, by omega, by go_num, by rw [HSS.out], HB3.out⟩
        case measure => simp [intOf]; omega
      · obtain rfl : k = N := by omega
        have HS : Hid (sm2 ((bucketsL xss).take k) = sm2 (bucketsL xss)) := by unfold Hid; rw [List.take_of_length_le (Nat.le_of_eq HN.out.symm)]
        have HB3 := Lib.hid (HB2.out.trans (hbel.mono HB2.out.size))
        clear hbel
        rw [HS.out]
        go_wp2
        go_ret
        exact ⟨rfl, HB3.out⟩

end Go.Proofs.Ytnljlehbjdambaa
