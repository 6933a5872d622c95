/-
  WindowTotal and WindowOnes of both packages; the law file's helpers over buckets.
-/
import Derived.Test.YtfeangiaghpfkaaBk
namespace Go.Proofs.Ytfeangiaghpfkaa
open Go.RowKit
set_option linter.unusedSimpArgs false
set_option linter.unusedVariables false

def sm1 (bs : List (Int × Int)) : Int := (bs.map Prod.fst).sum
def sm2 (bs : List (Int × Int)) : Int := (bs.map Prod.snd).sum
theorem sm1_succ {bs : List (Int × Int)} {k : Nat} {b : Int × Int} (h : bs[k]? = some b) : sm1 (bs.take (k + 1)) = sm1 (bs.take k) + b.1 := by
  obtain ⟨h1, h2⟩ := List.getElem?_eq_some_iff.1 h
  unfold sm1; rw [List.take_succ_eq_append_getElem h1, List.map_append, List.sum_append]; simp [h2]
theorem sm2_succ {bs : List (Int × Int)} {k : Nat} {b : Int × Int} (h : bs[k]? = some b) : sm2 (bs.take (k + 1)) = sm2 (bs.take k) + b.2 := by
  obtain ⟨h1, h2⟩ := List.getElem?_eq_some_iff.1 h
  unfold sm2; rw [List.take_succ_eq_append_getElem h1, List.map_append, List.sum_append]; simp [h2]
theorem sum_bd (zs : List Int) (h : ∀ z ∈ zs, 0 ≤ z ∧ z ≤ 256) : 0 ≤ zs.sum ∧ zs.sum ≤ 256 * zs.length := by
  induction zs with
  | nil => simp
  | cons z zs ih =>
    have h1 := h z (by simp)
    have h2 := ih fun u hu => h u (by simp [hu])
    simp only [List.sum_cons, List.length_cons]
    omega
theorem bkJ_mem {xss : List (List Int)} (h : winB xss = true) : ∀ j, j ≤ xss.length → ∀ b ∈ bkJ xss j, (0 ≤ b.1 ∧ b.1 ≤ 256) ∧ (0 ≤ b.2 ∧ b.2 ≤ 256)
  | 0, _, b, hb => by simp [bkJ] at hb
  | j + 1, hj, b, hb => by
    simp only [bkJ, List.mem_append] at hb
    rcases hb with hb | hb
    · exact bkJ_mem h j (by omega) b hb
    · have hl : xss.length - 1 - j < xss.length := by omega
      have h8 := winB_len h
      have hp := pw_bd (r := xss.length - 1 - j) (by omega)
      simp only [rowBk, List.mem_map, List.getD, List.getElem?_eq_getElem hl, Option.getD_some] at hb
      obtain ⟨x, hx, rfl⟩ := hb
      have := rowB_elem (winB_row h (List.getElem?_eq_getElem hl)) hx
      simp only
      omega
theorem bk_len (xss : List (List Int)) : (bucketsL xss).length ≤ 24 := by
  unfold bucketsL
  split
  · rename_i h; have := bkJ_len h xss.length (Nat.le_refl _); have := winB_len h; omega
  · simp
theorem bk_mem {xss : List (List Int)} {b : Int × Int} (hb : b ∈ bucketsL xss) : (0 ≤ b.1 ∧ b.1 ≤ 256) ∧ (0 ≤ b.2 ∧ b.2 ≤ 256) := by
  unfold bucketsL at hb
  split at hb
  · rename_i h; exact bkJ_mem h _ (Nat.le_refl _) b hb
  · simp at hb
theorem sm1_bd (xss : List (List Int)) (k : Nat) : 0 ≤ sm1 ((bucketsL xss).take k) ∧ sm1 ((bucketsL xss).take k) ≤ 6144 := by
  have h := sum_bd (((bucketsL xss).take k).map Prod.fst) (by intro z hz; obtain ⟨b, hb, rfl⟩ := List.mem_map.1 hz; exact (bk_mem (List.mem_of_mem_take hb)).1)
  have hl := bk_len xss
  have h2 : (((bucketsL xss).take k).map Prod.fst).length ≤ 24 := by simp; omega
  unfold sm1; omega
theorem sm2_bd (xss : List (List Int)) (k : Nat) : 0 ≤ sm2 ((bucketsL xss).take k) ∧ sm2 ((bucketsL xss).take k) ≤ 6144 := by
  have h := sum_bd (((bucketsL xss).take k).map Prod.snd) (by intro z hz; obtain ⟨b, hb, rfl⟩ := List.mem_map.1 hz; exact (bk_mem (List.mem_of_mem_take hb)).2)
  have hl := bk_len xss
  have h2 : (((bucketsL xss).take k).map Prod.snd).length ≤ 24 := by simp; omega
  unfold sm2; omega
theorem bcells_get {bs : List (Int × Int)} {k : Nat} {b : Int × Int} (h : bs[k]? = some b) : (bcells bs)[k * 2]? = some (.int .i64 b.1) ∧ (bcells bs)[k * 2 + 1]? = some (.int .i64 b.2) := by
  induction bs generalizing k with
  | nil => simp at h
  | cons a bs ih =>
    cases k with
    | zero => simp only [List.getElem?_cons_zero, Option.some.injEq] at h; subst h; exact ⟨rfl, rfl⟩
    | succ k =>
      simp only [List.getElem?_cons_succ] at h
      have e1 : (k + 1) * 2 = k * 2 + 2 := by omega
      have e2 : bcells (a :: bs) = .int .i64 a.1 :: .int .i64 a.2 :: bcells bs := rfl
      rw [e1, e2]
      exact ih h
/-- An owned row of buckets reads as its cells. -/
theorem Rd.of_own2 {w : World} {base : Nat} {e : TypeId} {A : Option Addr} {c n : Nat} {xs : List Value} (h : w.ownsRow base e 2 (.slice A n c) n xs) : Rd w A (n * 2) xs := by
  refine ⟨h.1, fun hn => ?_⟩
  rcases h.2 with ⟨h0, h1⟩ | ⟨g, cap, cur, hv, hg, hh, hr⟩
  · omega
  · injection hv with hA _ hc
    subst hA hc
    have hlt : g < w.heap.size := by
      rcases Nat.lt_or_ge g w.heap.size with hlt | hge
      · exact hlt
      · rw [Array.getElem?_eq_none hge] at hh; cases hh
    refine ⟨g, 0, rfl, hlt, fun j u hu => ?_⟩
    have hj : j < n * 2 := by have := (List.getElem?_eq_some_iff.1 hu).1; rw [h.1] at this; exact this
    rw [Nat.zero_add, h.cellAt j hj, hu]

set_option maxHeartbeats 2000000 in
theorem sWindowTotal_any (A : Option Addr) (n c : Nat) (hs : List Hd) (xss : List (List Int)) (w : World) (h : RdSS w A n hs (iss xss)) (hb : totI xss ≤ 1048576) (hn : n ≤ 1048576) :
    Calls Try.prog 22 #[.agg #[.slice A n c]] w fun e w' => e = .returned (.int .i64 (sm1 (bucketsL xss))) ∧ Below w.heap.size w w' := by
  have HB1 := Lib.hid (below_alloc1 (w := w) (.cells #[.slice A n c] 27))
  have H1 := Lib.hid (h.below (below_alloc1 (w := w) (.cells #[.slice A n c] 27)) (Nat.le_refl _))
  clear h
  go_enter Try.func22, Try.ntmps22
  go_wp2_with fail
  refine (sBuckets_any A n c hs xss _ H1.out hb hn).mono ?_
  rintro e w2 ⟨A2, c2, N, rfl, hN, o2, b2⟩
  have HN := Lib.hid hN
  have hN24 : N ≤ 24 := by rw [hN]; exact bk_len xss
  have HRd := Lib.hid (Rd.of_own2 o2)
  have HB2 := Lib.hid (HB1.out.trans (b2.mono HB1.out.size))
  clear hN o2 b2
  · go_wp2_with fail
    go_loop [3, 5] (fun s i => ∃ k : Nat, k ≤ N ∧ i = .int .i64 k ∧ s = .int .i64 (sm1 ((bucketsL xss).take k))) (fun _ i => N - (intOf i).toNat)
    case atStart => exact ⟨0, Nat.zero_le _, rfl, by simp [sm1]⟩
    case round =>
      obtain ⟨k, hk, rfl, rfl⟩ := hrel
      by_cases hlt : k < N
      · have hkl : k < (bucketsL xss).length := by rw [← HN.out]; exact hlt
        obtain ⟨b0, hb0⟩ : ∃ b, (bucketsL xss)[k]? = some b := ⟨_, List.getElem?_eq_getElem hkl⟩
        obtain ⟨g1, g2⟩ := bcells_get hb0
        have hbm := bk_mem (List.mem_of_getElem? hb0)
        obtain ⟨b, off, rfl, hbl, hc⟩ := HRd.out.ex (by omega)
        have c1 := hc _ _ g1; have c2 := hc _ _ g2
        rw [← Nat.add_assoc] at c2
        have hsb := sm1_bd xss k; have hss := sm1_succ hb0
        obtain ⟨s, hs⟩ : ∃ s, sm1 ((bucketsL xss).take k) = s := ⟨_, rfl⟩
        rw [hs] at hsb hss ⊢
        have HSS := Lib.hid hss
        clear hss hs g1 g2 hc hb0
        go_wp2
        go_round
        case rel => exact ⟨k + 1, by omega, by go_num, by rw [HSS.out]⟩
        case measure => simp [intOf]; omega
      · obtain rfl : k = N := by omega
        have HS : Hid (sm1 ((bucketsL xss).take k) = sm1 (bucketsL xss)) := by unfold Hid; rw [List.take_of_length_le (Nat.le_of_eq HN.out.symm)]
        rw [HS.out]
        go_wp2
        go_ret
        exact ⟨rfl, HB2.out⟩

set_option maxHeartbeats 2000000 in
theorem sWindowOnes_any (A : Option Addr) (n c : Nat) (hs : List Hd) (xss : List (List Int)) (w : World) (h : RdSS w A n hs (iss xss)) (hb : totI xss ≤ 1048576) (hn : n ≤ 1048576) :
    Calls Try.prog 20 #[.agg #[.slice A n c]] w fun e w' => e = .returned (.int .i64 (sm2 (bucketsL xss))) ∧ Below w.heap.size w w' := by
  have HB1 := Lib.hid (below_alloc1 (w := w) (.cells #[.slice A n c] 27))
  have H1 := Lib.hid (h.below (below_alloc1 (w := w) (.cells #[.slice A n c] 27)) (Nat.le_refl _))
  clear h
  go_enter Try.func20, Try.ntmps20
  go_wp2_with fail
  refine (sBuckets_any A n c hs xss _ H1.out hb hn).mono ?_
  rintro e w2 ⟨A2, c2, N, rfl, hN, o2, b2⟩
  have HN := Lib.hid hN
  have hN24 : N ≤ 24 := by rw [hN]; exact bk_len xss
  have HRd := Lib.hid (Rd.of_own2 o2)
  have HB2 := Lib.hid (HB1.out.trans (b2.mono HB1.out.size))
  clear hN o2 b2
  · go_wp2_with fail
    go_loop [3, 5] (fun s i => ∃ k : Nat, k ≤ N ∧ i = .int .i64 k ∧ s = .int .i64 (sm2 ((bucketsL xss).take k))) (fun _ i => N - (intOf i).toNat)
    case atStart => exact ⟨0, Nat.zero_le _, rfl, by simp [sm2]⟩
    case round =>
      obtain ⟨k, hk, rfl, rfl⟩ := hrel
      by_cases hlt : k < N
      · have hkl : k < (bucketsL xss).length := by rw [← HN.out]; exact hlt
        obtain ⟨b0, hb0⟩ : ∃ b, (bucketsL xss)[k]? = some b := ⟨_, List.getElem?_eq_getElem hkl⟩
        obtain ⟨g1, g2⟩ := bcells_get hb0
        have hbm := bk_mem (List.mem_of_getElem? hb0)
        obtain ⟨b, off, rfl, hbl, hc⟩ := HRd.out.ex (by omega)
        have c1 := hc _ _ g1; have c2 := hc _ _ g2
        rw [← Nat.add_assoc] at c2
        have hsb := sm2_bd xss k; have hss := sm2_succ hb0
        obtain ⟨s, hs⟩ : ∃ s, sm2 ((bucketsL xss).take k) = s := ⟨_, rfl⟩
        rw [hs] at hsb hss ⊢
        have HSS := Lib.hid hss
        clear hss hs g1 g2 hc hb0
        go_wp2
        go_round
        case rel => exact ⟨k + 1, by omega, by go_num, by rw [HSS.out]⟩
        case measure => simp [intOf]; omega
      · obtain rfl : k = N := by omega
        have HS : Hid (sm2 ((bucketsL xss).take k) = sm2 (bucketsL xss)) := by unfold Hid; rw [List.take_of_length_le (Nat.le_of_eq HN.out.symm)]
        rw [HS.out]
        go_wp2
        go_ret
        exact ⟨rfl, HB2.out⟩

set_option maxHeartbeats 2000000 in
theorem iWindowTotal_any (A : Option Addr) (n c : Nat) (hs : List Hd) (xss : List (List Int)) (w : World) (h : RdSS w A n hs (iss xss)) (hb : totI xss ≤ 1048576) (hn : n ≤ 1048576) (hx : ∀ xs ∈ xss, ∀ x ∈ xs, -9223372036854775808 ≤ x ∧ x ≤ 9223372036854775807) :
    Calls Try.prog 23 #[.agg #[.slice A n c]] w fun e w' => e = .returned (.int .i64 (sm1 (bucketsL xss))) ∧ Below w.heap.size w w' := by
  have HX := Lib.hid hx
  clear hx
  have HB1 := Lib.hid (below_alloc1 (w := w) (.cells #[.slice A n c] 27))
  have H1 := Lib.hid (h.below (below_alloc1 (w := w) (.cells #[.slice A n c] 27)) (Nat.le_refl _))
  clear h
  go_enter Try.func23, Try.ntmps23
  go_wp2_with fail
  refine (iBuckets_any A n c hs xss _ H1.out hb hn HX.out).mono ?_
  rintro e w2 ⟨A2, c2, N, rfl, hN, o2, b2⟩
  have HN := Lib.hid hN
  have hN24 : N ≤ 24 := by rw [hN]; exact bk_len xss
  have HRd := Lib.hid (Rd.of_own2 o2)
  have HB2 := Lib.hid (HB1.out.trans (b2.mono HB1.out.size))
  clear hN o2 b2
  · go_wp2_with fail
    go_loopw [3, 9] (fun s i wr => ∃ k : Nat, k ≤ N ∧ i = .int .i64 k ∧ s = .int .i64 (sm1 ((bucketsL xss).take k)) ∧ Below w2.heap.size w2 wr) (fun _ i _ => N - (intOf i).toNat)
    case atStart => exact ⟨0, Nat.zero_le _, rfl, by simp [sm1], Below.refl _ _⟩
    case round =>
      obtain ⟨k, hk, rfl, rfl, hbel⟩ := hrel
      by_cases hlt : k < N
      · have hkl : k < (bucketsL xss).length := by rw [← HN.out]; exact hlt
        obtain ⟨b0, hb0⟩ : ∃ b, (bucketsL xss)[k]? = some b := ⟨_, List.getElem?_eq_getElem hkl⟩
        obtain ⟨g1, g2⟩ := bcells_get hb0
        have hbm := bk_mem (List.mem_of_getElem? hb0)
        obtain ⟨b, off, rfl, hbl, hc⟩ := HRd.out.ex (by omega)
        have c1 := hc _ _ g1; have c2 := hc _ _ g2
        rw [← Nat.add_assoc] at c2
        have hsb := sm1_bd xss k; have hss := sm1_succ hb0
        obtain ⟨s, hs⟩ : ∃ s, sm1 ((bucketsL xss).take k) = s := ⟨_, rfl⟩
        rw [hs] at hsb hss ⊢
        have HSS := Lib.hid hss
        clear hss hs g1 g2 hc hb0
        have d1 : wr.cell? ⟨b, off + k * 2, none⟩ = some (.int .i64 b0.1) := (hbel.cell (p := ⟨b, off + k * 2, none⟩) hbl).trans c1
        have d2 : wr.cell? ⟨b, off + k * 2 + 1, none⟩ = some (.int .i64 b0.2) := (hbel.cell (p := ⟨b, off + k * 2 + 1, none⟩) hbl).trans c2
        have HB3 := Lib.hid (hbel.alloc hbel.size (.cells #[.int .i64 b0.1, .int .i64 b0.2] 48))
        clear hbel c1 c2
        go_wp2
        go_roundw
        case rel => exact ⟨k + 1, by omega, by go_num, by rw [HSS.out], HB3.out⟩
        case measure => simp [intOf]; omega
      · obtain rfl : k = N := by omega
        have HS : Hid (sm1 ((bucketsL xss).take k) = sm1 (bucketsL xss)) := by unfold Hid; rw [List.take_of_length_le (Nat.le_of_eq HN.out.symm)]
        have HB3 := Lib.hid (HB2.out.trans (hbel.mono HB2.out.size))
        clear hbel
        rw [HS.out]
        go_wp2
        go_ret
        exact ⟨rfl, HB3.out⟩

set_option maxHeartbeats 2000000 in
theorem iWindowOnes_any (A : Option Addr) (n c : Nat) (hs : List Hd) (xss : List (List Int)) (w : World) (h : RdSS w A n hs (iss xss)) (hb : totI xss ≤ 1048576) (hn : n ≤ 1048576) (hx : ∀ xs ∈ xss, ∀ x ∈ xs, -9223372036854775808 ≤ x ∧ x ≤ 9223372036854775807) :
    Calls Try.prog 21 #[.agg #[.slice A n c]] w fun e w' => e = .returned (.int .i64 (sm2 (bucketsL xss))) ∧ Below w.heap.size w w' := by
  have HX := Lib.hid hx
  clear hx
  have HB1 := Lib.hid (below_alloc1 (w := w) (.cells #[.slice A n c] 27))
  have H1 := Lib.hid (h.below (below_alloc1 (w := w) (.cells #[.slice A n c] 27)) (Nat.le_refl _))
  clear h
  go_enter Try.func21, Try.ntmps21
  go_wp2_with fail
  refine (iBuckets_any A n c hs xss _ H1.out hb hn HX.out).mono ?_
  rintro e w2 ⟨A2, c2, N, rfl, hN, o2, b2⟩
  have HN := Lib.hid hN
  have hN24 : N ≤ 24 := by rw [hN]; exact bk_len xss
  have HRd := Lib.hid (Rd.of_own2 o2)
  have HB2 := Lib.hid (HB1.out.trans (b2.mono HB1.out.size))
  clear hN o2 b2
  · go_wp2_with fail
    go_loopw [3, 9] (fun s i wr => ∃ k : Nat, k ≤ N ∧ i = .int .i64 k ∧ s = .int .i64 (sm2 ((bucketsL xss).take k)) ∧ Below w2.heap.size w2 wr) (fun _ i _ => N - (intOf i).toNat)
    case atStart => exact ⟨0, Nat.zero_le _, rfl, by simp [sm2], Below.refl _ _⟩
    case round =>
      obtain ⟨k, hk, rfl, rfl, hbel⟩ := hrel
      by_cases hlt : k < N
      · have hkl : k < (bucketsL xss).length := by rw [← HN.out]; exact hlt
        obtain ⟨b0, hb0⟩ : ∃ b, (bucketsL xss)[k]? = some b := ⟨_, List.getElem?_eq_getElem hkl⟩
        obtain ⟨g1, g2⟩ := bcells_get hb0
        have hbm := bk_mem (List.mem_of_getElem? hb0)
        obtain ⟨b, off, rfl, hbl, hc⟩ := HRd.out.ex (by omega)
        have c1 := hc _ _ g1; have c2 := hc _ _ g2
        rw [← Nat.add_assoc] at c2
        have hsb := sm2_bd xss k; have hss := sm2_succ hb0
        obtain ⟨s, hs⟩ : ∃ s, sm2 ((bucketsL xss).take k) = s := ⟨_, rfl⟩
        rw [hs] at hsb hss ⊢
        have HSS := Lib.hid hss
        clear hss hs g1 g2 hc hb0
        have d1 : wr.cell? ⟨b, off + k * 2, none⟩ = some (.int .i64 b0.1) := (hbel.cell (p := ⟨b, off + k * 2, none⟩) hbl).trans c1
        have d2 : wr.cell? ⟨b, off + k * 2 + 1, none⟩ = some (.int .i64 b0.2) := (hbel.cell (p := ⟨b, off + k * 2 + 1, none⟩) hbl).trans c2
        have HB3 := Lib.hid (hbel.alloc hbel.size (.cells #[.int .i64 b0.1, .int .i64 b0.2] 48))
        clear hbel c1 c2
        go_wp2
        go_roundw
        case rel => exact ⟨k + 1, by omega, by go_num, by rw [HSS.out], HB3.out⟩
        case measure => simp [intOf]; omega
      · obtain rfl : k = N := by omega
        have HS : Hid (sm2 ((bucketsL xss).take k) = sm2 (bucketsL xss)) := by unfold Hid; rw [List.take_of_length_le (Nat.le_of_eq HN.out.symm)]
        have HB3 := Lib.hid (HB2.out.trans (hbel.mono HB2.out.size))
        clear hbel
        rw [HS.out]
        go_wp2
        go_ret
        exact ⟨rfl, HB3.out⟩

set_option maxHeartbeats 400000 in
theorem eqBucket_same (x y : Int) (w : World) : Calls Try.prog 55 #[.agg #[.int .i64 x, .int .i64 y], .agg #[.int .i64 x, .int .i64 y]] w fun e w' => e = .returned (.bool true) ∧ Below w.heap.size w w' := by
  go_enter Try.func55, Try.ntmps55
  go_wp2
  go_ret
  exact ⟨rfl, by go_grown⟩

set_option maxHeartbeats 1000000 in
theorem eqBucketS_same (A C : Option Addr) (n c d : Nat) (bs : List (Int × Int)) (w : World) (hx : Rd w A (n * 2) (bcells bs)) (hy : Rd w C (n * 2) (bcells bs)) (hn : n ≤ 1048576) :
    Calls Try.prog 31 #[.slice A n c, .slice C n d] w fun e w' => e = .returned (.bool true) ∧ Below w.heap.size w w' := by
  have HX := Lib.hid hx; have HY := Lib.hid hy
  have HN : Hid (bs.length = n) := by have := hx.len; rw [bcells_len] at this; unfold Hid; omega
  clear hx hy
  go_enter Try.func31, Try.ntmps31
  go_wp2
  go_loopw [5] (fun i wr => ∃ k : Nat, k ≤ n ∧ i = .int .i64 k ∧ Below w.heap.size w wr) (fun i _ => n - (intOf i).toNat)
  case atStart => exact ⟨0, Nat.zero_le _, rfl, Below.refl _ _⟩
  case round =>
    obtain ⟨k, hk, rfl, hbel⟩ := hrel
    by_cases hlt : k < n
    · obtain ⟨b0, hb0⟩ : ∃ b, bs[k]? = some b := ⟨_, List.getElem?_eq_getElem (by rw [HN.out]; exact hlt)⟩
      obtain ⟨g1, g2⟩ := bcells_get hb0
      obtain ⟨b, off, rfl, hbl, hc⟩ := HX.out.ex (by omega)
      obtain ⟨b', off', rfl, hbl', hc'⟩ := HY.out.ex (by omega)
      have c1 : wr.cell? ⟨b, off + k * 2, none⟩ = some (.int .i64 b0.1) := (hbel.cell (p := ⟨b, off + k * 2, none⟩) hbl).trans (hc _ _ g1)
      have c2 : wr.cell? ⟨b, off + (k * 2 + 1), none⟩ = some (.int .i64 b0.2) := (hbel.cell (p := ⟨b, off + (k * 2 + 1), none⟩) hbl).trans (hc _ _ g2)
      have c3 : wr.cell? ⟨b', off' + k * 2, none⟩ = some (.int .i64 b0.1) := (hbel.cell (p := ⟨b', off' + k * 2, none⟩) hbl').trans (hc' _ _ g1)
      have c4 : wr.cell? ⟨b', off' + (k * 2 + 1), none⟩ = some (.int .i64 b0.2) := (hbel.cell (p := ⟨b', off' + (k * 2 + 1), none⟩) hbl').trans (hc' _ _ g2)
      rw [← Nat.add_assoc] at c2 c4
      have HBel := Lib.hid hbel
      have l1 : b < wr.heap.size := World.block_lt_of_cell? wr ⟨b, off + k * 2, none⟩ c1
      have l2 : b' < wr.heap.size := World.block_lt_of_cell? wr ⟨b', off' + k * 2, none⟩ c3
      obtain ⟨x, y⟩ := b0
      simp only at c1 c2 c3 c4
      have K1 := Lib.hid c1; have K2 := Lib.hid c2; have K3 := Lib.hid c3; have K4 := Lib.hid c4
      have n0 : (0 : Int) ≤ (k : Int) := Int.natCast_nonneg _
      have n1 : (k : Int) < (n : Int) := by omega
      clear hbel hc hc' hb0 g1 g2
      go_wp2_with fail
      go_region_held3 (fun w' => w'.cell? ⟨b, off + k * 2, none⟩ = some (.int .i64 x) ∧ w'.cell? ⟨b, off + k * 2 + 1, none⟩ = some (.int .i64 y) ∧ w'.cell? ⟨b', off' + k * 2, none⟩ = some (.int .i64 x) ∧ w'.cell? ⟨b', off' + k * 2 + 1, none⟩ = some (.int .i64 y) ∧ Below wr.heap.size wr w')
        (first
          | exact ⟨K1.out, K2.out, K3.out, K4.out, (Below.refl _ _).drew⟩
          | exact ⟨(Below.cell (p := ⟨b, off + k * 2, none⟩) b7 l1).trans K1.out, (Below.cell (p := ⟨b, off + k * 2 + 1, none⟩) b7 l1).trans K2.out, (Below.cell (p := ⟨b', off' + k * 2, none⟩) b7 l2).trans K3.out, (Below.cell (p := ⟨b', off' + k * 2 + 1, none⟩) b7 l2).trans K4.out, b7⟩)
        ((go_at_call 55; go_split_ands; refine (lift (W0 := wr) (B := wr.heap.size) (eqBucket_same x y _) (by assumption) (Nat.le_refl _)).mono ?_; rintro e w2 ⟨rfl, b7⟩))
      have HB2 := Lib.hid (HBel.out.trans (b7.mono HBel.out.size))
      clear b7
      go_wp2_with fail
      go_roundw
      case rel => exact ⟨k + 1, by omega, by go_num, HB2.out⟩
      case measure => simp [intOf]; omega
    · obtain rfl : k = n := by omega
      have HBel := Lib.hid hbel
      clear hbel
      go_wp2
      go_ret
      exact ⟨rfl, HBel.out⟩

set_option maxHeartbeats 2000000 in
theorem markBucketS_any (base n c k : Nat) (A : Option Addr) (xs : List Value) (w : World) (h : w.ownsRow base 48 2 (.slice A n c) n xs) (hn : n ≤ 1048576) (hk : k ≤ 1099511627776) :
    Calls Try.prog 33 #[.slice A n c, .int .i64 k] w fun e w' => e = .returned (.int .i64 ((k : Int) + 2 * n)) ∧ w'.ownsRow base 48 2 (.slice A n c) n (marksIntS k (n * 2)) ∧ w.grownBy w' (Value.slice A n c).ownBlock := by
  have H := Lib.hid h
  have HL : Hid (xs.length = n * 2) := h.1
  clear h
  go_enter Try.func33, Try.ntmps33
  go_wp2
  go_loopw [1, 5] (fun kk i wr => ∃ q : Nat, q ≤ n ∧ i = .int .i64 q ∧ kk = .int .i64 ((k : Int) + 2 * q) ∧ wr.ownsRow base 48 2 (.slice A n c) n (marksIntS k (q * 2) ++ xs.drop (q * 2)) ∧ w.grownBy wr (Value.slice A n c).ownBlock) (fun _ i _ => n - (intOf i).toNat)
  case atStart => exact ⟨0, Nat.zero_le _, rfl, by simp, by simpa [marksIntS] using H.out, World.grownBy.refl _ _⟩
  case round =>
    obtain ⟨q, hq, rfl, rfl, hown, hg⟩ := hrel
    by_cases hlt : q < n
    · obtain ⟨g, cap, hv, _, hgl, _, _⟩ := own_form hown (by omega)
      simp only [Value.slice.injEq, true_and] at hv
      obtain ⟨rfl, rfl⟩ := hv
      have hfr : wr.frozen? ⟨g, q * 2, none⟩ = false := hown.frozenAt _
      obtain ⟨old, hold⟩ : ∃ old, wr.cell? ⟨g, q * 2, none⟩ = some old := ⟨_, by rw [hown.cellAt (q * 2) (by omega)]; exact List.getElem?_eq_getElem (by have := hown.1; omega)⟩
      obtain ⟨hs1, hs2⟩ := hown.stored (q * 2) (Value.int .i64 (((k + q * 2 : Nat) : Int)))
      rw [marksIntS_set k (n * 2) (q * 2) xs HL.out (by omega)] at hs1
      obtain ⟨wq, hwq⟩ : ∃ wq, wq = wr.setCell ⟨g, q * 2, none⟩ (Value.int .i64 (((k + q * 2 : Nat) : Int))) := ⟨_, rfl⟩
      rw [← hwq] at hs1 hs2
      have hfr2 : wq.frozen? ⟨g, q * 2 + 1, none⟩ = false := hs1.frozenAt _
      obtain ⟨old2, hold2⟩ : ∃ old, wq.cell? ⟨g, q * 2 + 1, none⟩ = some old := ⟨_, by rw [hs1.cellAt (q * 2 + 1) (by omega)]; exact List.getElem?_eq_getElem (by have := hs1.1; omega)⟩
      obtain ⟨hs3, hs4⟩ := hs1.stored (q * 2 + 1) (Value.int .i64 (((k + (q * 2 + 1) : Nat) : Int)))
      rw [marksIntS_set k (n * 2) (q * 2 + 1) xs HL.out (by omega), show q * 2 + 1 + 1 = (q + 1) * 2 by omega] at hs3
      have e1 : (((k + q * 2 : Nat) : Int)) = (k : Int) + 2 * q := by omega
      have e2 : (((k + (q * 2 + 1) : Nat) : Int)) = (k : Int) + 2 * q + 1 := by omega
      rw [hwq, e1] at hfr2 hold2
      rw [hwq, e1, e2] at hs3 hs4
      rw [hwq, e1] at hs2
      have HS1 := Lib.hid hs3
      have HS2 := Lib.hid ((hg.trans hs2).trans hs4)
      clear hown hg hs1 hs2 hs3 hs4 hwq e1 e2
      go_wp2
      go_roundw
      case rel => exact ⟨q + 1, by omega, by go_num, by go_num, HS1.out, HS2.out⟩
      case measure => simp [intOf]; omega
    · obtain rfl : q = n := by omega
      have HO := Lib.hid hown
      have HG := Lib.hid hg
      clear hown hg
      go_wp2
      go_ret
      exact ⟨rfl, by simpa [HL.out, List.drop_of_length_le] using HO.out, HG.out⟩

set_option maxHeartbeats 1000000 in
theorem heldBucketS_any (A : Option Addr) (n c k : Nat) (w : World) (h : Rd w A (n * 2) (marksIntS k (n * 2))) (hn : n ≤ 1048576) (hk : k ≤ 1099511627776) :
    Calls Try.prog 34 #[.slice A n c, .int .i64 k] w fun e w' => e = .returned (.int .i64 ((k : Int) + 2 * n)) ∧ w = w' := by
  have H := Lib.hid h
  clear h
  go_enter Try.func34, Try.ntmps34
  go_wp2
  go_loop [1, 5] (fun kk i => ∃ q : Nat, q ≤ n ∧ i = .int .i64 q ∧ kk = .int .i64 ((k : Int) + 2 * q)) (fun _ i => n - (intOf i).toNat)
  case atStart => exact ⟨0, Nat.zero_le _, rfl, by simp⟩
  case round =>
    obtain ⟨q, hq, rfl, rfl⟩ := hrel
    by_cases hlt : q < n
    · obtain ⟨b, off, rfl, hbl, hc⟩ := H.out.ex (by omega)
      have c1 := hc (q * 2) _ (marksIntS_get (by omega))
      have c2 := hc (q * 2 + 1) _ (marksIntS_get (by omega))
      rw [show (((k + q * 2 : Nat) : Int)) = (k : Int) + 2 * q by omega] at c1
      rw [show (((k + (q * 2 + 1) : Nat) : Int)) = (k : Int) + 2 * q + 1 by omega, ← Nat.add_assoc] at c2
      clear hc
      go_wp2
      go_round
      case rel => exact ⟨q + 1, by omega, by go_num, by go_num⟩
      case measure => simp [intOf]; omega
    · obtain rfl : q = n := by omega
      go_wp2
      go_ret
      exact ⟨rfl, rfl⟩

end Go.Proofs.Ytfeangiaghpfkaa
