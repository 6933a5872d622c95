/-
  Thresholds, WeightOf, LeastDraw, of both packages.
-/
import Derived.Test.YtfdpfeaegcfglaaIn
import Derived.Test.YtfdpfeaegcfglaaInts
namespace Go.Proofs.Ytfdpfeaegcfglaa
open Go.RowKit

/-- The thresholds of a lambda. -/
def thrL (l : Int) : List Int := if l = 1 then [24109, 48218, 60273, 64291, 65296, 65497, 65530] else if l = 6 then [162, 1137, 4061, 9909, 18681, 29208, 39734] else []
theorem thrL_len {l : Int} (h : l = 1 ∨ l = 6) : (thrL l).length = 7 := by rcases h with rfl | rfl <;> rfl
theorem thrL_no {l : Int} (h : ¬ (l = 1 ∨ l = 6)) : thrL l = [] := by
  unfold thrL; rw [if_neg (by omega), if_neg (by omega)]

theorem thr_own (w : World) (xs : List Int) (hx : xs.length = 7) : (w.alloc (.cells (xs.map (Value.int .i64)).toArray 3)).ownsRow w.heap.size 3 1 (.slice (some ⟨w.heap.size, 0, none⟩) 7 7) 7 (xs.map (Value.int .i64)) := by
  simpa using World.ownsRow_lit (base := w.heap.size) (e := 3) (size := 1) w (xs.map (Value.int .i64)).toArray 7 (Nat.le_refl _) (by simp [maxLen]) (by simp [hx])

theorem iThr_yes (l : Int) (h : l = 1 ∨ l = 6) (w : World) : Calls Try.prog 68 #[.int .i64 l] w fun e w' => e = .returned (.slice (some ⟨w.heap.size, 0, none⟩) 7 7) ∧ w'.ownsRow w.heap.size 3 1 (.slice (some ⟨w.heap.size, 0, none⟩) 7 7) 7 ((thrL l).map (Value.int .i64)) ∧ Below w.heap.size w w' := by
  have HO := Lib.hid (thr_own w (thrL l) (thrL_len h))
  rcases h with rfl | rfl
  all_goals
    go_enter Try.func68, Try.ntmps68
    go_wp2
    go_ret
    exact ⟨rfl, HO.out, by go_grown⟩
theorem iThr_no (l : Int) (h : ¬ (l = 1 ∨ l = 6)) (w : World) : Calls Try.prog 68 #[.int .i64 l] w fun e w' => e = .returned (.slice none 0 0) ∧ w = w' := by
  have h1 : ¬ l = 1 := by omega
  have h6 : ¬ l = 6 := by omega
  clear h
  go_enter Try.func68, Try.ntmps68
  go_wp2
  go_ret
  exact ⟨rfl, rfl⟩
theorem sThr_yes (l : Int) (h : l = 1 ∨ l = 6) (w : World) : Calls Try.prog 69 #[.int .i64 l] w fun e w' => e = .returned (.slice (some ⟨w.heap.size, 0, none⟩) 7 7) ∧ w'.ownsRow w.heap.size 3 1 (.slice (some ⟨w.heap.size, 0, none⟩) 7 7) 7 ((thrL l).map (Value.int .i64)) ∧ Below w.heap.size w w' := by
  have HO := Lib.hid (thr_own w (thrL l) (thrL_len h))
  rcases h with rfl | rfl
  all_goals
    go_enter Try.func69, Try.ntmps69
    go_wp2
    go_ret
    exact ⟨rfl, HO.out, by go_grown⟩
theorem sThr_no (l : Int) (h : ¬ (l = 1 ∨ l = 6)) (w : World) : Calls Try.prog 69 #[.int .i64 l] w fun e w' => e = .returned (.slice (some ⟨w.heap.size, 0, none⟩) 0 0) ∧ Below w.heap.size w w' := by
  have h1 : ¬ l = 1 := by omega
  have h6 : ¬ l = 6 := by omega
  clear h
  go_enter Try.func69, Try.ntmps69
  go_wp2
  go_ret
  exact ⟨rfl, by go_grown⟩

/-- How many of the first k thresholds are at most d. -/
def cntL (xs : List Int) (d : Int) (k : Nat) : Nat := ((xs.take k).filter fun t => decide (t ≤ d)).length
theorem cntL_le (xs : List Int) (d : Int) (k : Nat) : cntL xs d k ≤ k := by
  unfold cntL
  exact Nat.le_trans (List.length_filter_le _ _) (List.length_take_le _ _)
theorem cntL_succ (xs : List Int) (d : Int) (k : Nat) (h : k < xs.length) : cntL xs d (k + 1) = cntL xs d k + if xs.getD k 0 ≤ d then 1 else 0 := by
  unfold cntL
  rw [List.take_succ_eq_append_getElem h, List.filter_append, List.length_append]
  simp only [List.getD, List.getElem?_eq_getElem h, Option.getD_some, List.filter_cons, List.filter_nil]
  by_cases hd : xs[k] ≤ d <;> simp [hd]

/-- What WeightOf answers. -/
def wtI (l d : Int) : Int := if (l = 1 ∨ l = 6) ∧ inB d 0 65535 = true then (cntL (thrL l) d 7 : Int) else -1

/-- The cells of the list of thresholds, in a later world. -/
theorem thr_cell {w : World} {g : Nat} {xs : List Int} (h : w.ownsRow g 3 1 (.slice (some ⟨g, 0, none⟩) 7 7) 7 (xs.map (Value.int .i64))) {k : Nat} (hk : k < 7) (hx : xs.length = 7) : w.cell? ⟨g, k, none⟩ = some (.int .i64 (xs.getD k 0)) := by
  rw [h.cellAt k (by omega)]
  simp [List.getD, hx, hk]

def thrMem (W : World) (g : Nat) (xs : List Int) : Prop := W.ownsRow g 3 1 (.slice (some ⟨g, 0, none⟩) 7 7) 7 (xs.map (Value.int .i64))

set_option maxHeartbeats 1000000 in
theorem iWeightOf_any (l d : Int) (w : World) : Calls Try.prog 31 #[.int .i64 l, .int .i64 d] w fun e w' => e = .returned (.int .i64 (wtI l d)) ∧ Below w.heap.size w w' := by
  by_cases hl : l = 1 ∨ l = 6
  · have hnil := fun (W : World) (a : Option Addr) (n c n' c' : Nat) => Lib.run_eql_slice_nil (P := Try.prog) W 27 3 a n c n' c' Try.underlying27
    cases hd : inB d 0 65535
    · have HW := Lib.hid (show wtI l d = -1 by simp [wtI, hd])
      have HLs := Lib.hid hl
      clear hl
      go_enter Try.func31, Try.ntmps31
      go_wp2_with (first | (go_at_call 68; refine (iThr_yes l HLs.out _).mono ?_; rintro e w' ⟨rfl, hown, hb⟩) | (go_at_call 62; refine (within_any _ _ _ _).mono ?_; rintro e w' ⟨rfl, rfl⟩))
      go_ret
      exact ⟨by rw [HW.out]; rfl, by assumption⟩
    · have HW := Lib.hid (show wtI l d = (cntL (thrL l) d 7 : Int) by simp [wtI, hd, hl])
      have HLs := Lib.hid hl
      have HLen := Lib.hid (thrL_len hl)
      obtain ⟨xs, hxs⟩ : ∃ xs, xs = thrL l := ⟨_, rfl⟩
      have HXs := Lib.hid hxs
      clear hl hxs
      go_enter Try.func31, Try.ntmps31
      go_wp2_with (first | (go_at_call 68; refine (iThr_yes l HLs.out _).mono ?_; rintro e w' ⟨rfl, hown, hb⟩) | (go_at_call 62; refine (within_any _ _ _ _).mono ?_; rintro e w' ⟨rfl, rfl⟩))
      have HB := Lib.hid hb
      have HO := Lib.hid hown
      rw [← HXs.out] at HLen HO
      clear hb hown
      go_loop [6, 20] (fun n i => ∃ k : Nat, k ≤ 7 ∧ i = .int .i64 k ∧ n = .int .i64 (cntL xs d k)) (fun _ i => 7 - (intOf i).toNat)
      case atStart => exact ⟨0, by omega, rfl, rfl⟩
      case round =>
        obtain ⟨k, hk, rfl, rfl⟩ := hrel
        have hcl := cntL_le xs d k
        by_cases hlt : k < 7
        · have hcell := thr_cell HO.out hlt HLen.out
          have HS := Lib.hid (cntL_succ xs d k (by rw [HLen.out]; exact hlt))
          obtain ⟨z, hz⟩ : ∃ z, xs.getD k 0 = z := ⟨_, rfl⟩
          rw [hz] at hcell HS
          clear hz
          by_cases hzd : z ≤ d
          · rw [if_pos hzd] at HS
            go_wp2
            go_round
            case rel => exact ⟨k + 1, by omega, by go_num, by rw [HS.out]; go_num⟩
            case measure => simp [intOf]; omega
          · rw [if_neg hzd] at HS
            go_wp2
            go_round
            case rel => exact ⟨k + 1, by omega, by go_num, by rw [HS.out]; go_num⟩
            case measure => simp [intOf]; omega
        · obtain rfl : k = 7 := by omega
          go_wp2
          go_ret
          exact ⟨by rw [HW.out, ← HXs.out]; rfl, HB.out⟩
  · have HW := Lib.hid (show wtI l d = -1 by simp [wtI, hl])
    have HLs := Lib.hid hl
    clear hl
    have hnil := fun (W : World) (a : Option Addr) (n c n' c' : Nat) => Lib.run_eql_slice_nil (P := Try.prog) W 27 3 a n c n' c' Try.underlying27
    go_enter Try.func31, Try.ntmps31
    go_wp2_with (first | (go_at_call 68; refine (iThr_no l HLs.out _).mono ?_; rintro e w' ⟨rfl, rfl⟩) | (go_at_call 62; refine (within_any _ _ _ _).mono ?_; rintro e w' ⟨rfl, rfl⟩))
    all_goals
      go_ret
      exact ⟨by rw [HW.out]; rfl, Below.refl _ _⟩

set_option maxHeartbeats 1000000 in
theorem sWeightOf_any (l d : Int) (w : World) : Calls Try.prog 32 #[.int .i64 l, .int .i64 d] w fun e w' => e = .returned (.int .i64 (wtI l d)) ∧ Below w.heap.size w w' := by
  by_cases hl : l = 1 ∨ l = 6
  · cases hd : inB d 0 65535
    · have HW := Lib.hid (show wtI l d = -1 by simp [wtI, hd])
      have HLs := Lib.hid hl
      clear hl
      go_enter Try.func32, Try.ntmps32
      go_wp2_with (first | (go_at_call 69; refine (sThr_yes l HLs.out _).mono ?_; rintro e w' ⟨rfl, hown, hb⟩) | (go_at_call 64; refine (l1In_any _ _ _ _).mono ?_; rintro e w' ⟨rfl, rfl⟩))
      go_ret
      exact ⟨by rw [HW.out]; rfl, by assumption⟩
    · have HW := Lib.hid (show wtI l d = (cntL (thrL l) d 7 : Int) by simp [wtI, hd, hl])
      have HLs := Lib.hid hl
      have HLen := Lib.hid (thrL_len hl)
      obtain ⟨xs, hxs⟩ : ∃ xs, xs = thrL l := ⟨_, rfl⟩
      have HXs := Lib.hid hxs
      clear hl hxs
      go_enter Try.func32, Try.ntmps32
      go_wp2_with (first | (go_at_call 69; refine (sThr_yes l HLs.out _).mono ?_; rintro e w' ⟨rfl, hown, hb⟩) | (go_at_call 64; refine (l1In_any _ _ _ _).mono ?_; rintro e w' ⟨rfl, rfl⟩))
      have HB := Lib.hid hb
      have HO := Lib.hid hown
      rw [← HXs.out] at HLen HO
      clear hb hown
      go_loop [6, 7] (fun n i => ∃ k : Nat, k ≤ 7 ∧ i = .int .i64 k ∧ n = .int .i64 (cntL xs d k)) (fun _ i => 7 - (intOf i).toNat)
      case atStart => exact ⟨0, by omega, rfl, rfl⟩
      case round =>
        obtain ⟨k, hk, rfl, rfl⟩ := hrel
        have hcl := cntL_le xs d k
        by_cases hlt : k < 7
        · have hcell := thr_cell HO.out hlt HLen.out
          have HS := Lib.hid (cntL_succ xs d k (by rw [HLen.out]; exact hlt))
          obtain ⟨z, hz⟩ : ∃ z, xs.getD k 0 = z := ⟨_, rfl⟩
          rw [hz] at hcell HS
          clear hz
          by_cases hzd : z ≤ d
          · rw [if_pos hzd] at HS
            go_wp2
            go_round
            case rel => exact ⟨k + 1, by omega, by go_num, by rw [HS.out]; go_num⟩
            case measure => simp [intOf]; omega
          · rw [if_neg hzd] at HS
            go_wp2
            go_round
            case rel => exact ⟨k + 1, by omega, by go_num, by rw [HS.out]; go_num⟩
            case measure => simp [intOf]; omega
        · obtain rfl : k = 7 := by omega
          go_wp2
          go_ret
          exact ⟨by rw [HW.out, ← HXs.out]; rfl, HB.out⟩
  · have HW := Lib.hid (show wtI l d = -1 by simp [wtI, hl])
    have HLs := Lib.hid hl
    clear hl
    go_enter Try.func32, Try.ntmps32
    go_wp2_with (first | (go_at_call 69; refine (sThr_no l HLs.out _).mono ?_; rintro e w' ⟨rfl, hb⟩) | (go_at_call 64; refine (l1In_any _ _ _ _).mono ?_; rintro e w' ⟨rfl, rfl⟩))
    all_goals
      go_ret
      exact ⟨by rw [HW.out]; rfl, by assumption⟩

/-- What LeastDraw answers. -/
def leastI (l v : Int) : Int := if (l = 1 ∨ l = 6) ∧ inB v 0 7 = true then (0 :: thrL l).getD v.toNat 0 else -1

set_option maxHeartbeats 1000000 in
theorem iLeastDraw_any (l v : Int) (w : World) : Calls Try.prog 34 #[.int .i64 l, .int .i64 v] w fun e w' => e = .returned (.int .i64 (leastI l v)) ∧ Below w.heap.size w w' := by
  have hnil := fun (W : World) (a : Option Addr) (n c n' c' : Nat) => Lib.run_eql_slice_nil (P := Try.prog) W 27 3 a n c n' c' Try.underlying27
  by_cases hl : l = 1 ∨ l = 6
  · cases hd : inB v 0 7
    · have HW := Lib.hid (show leastI l v = -1 by simp [leastI, hd])
      have HLs := Lib.hid hl
      clear hl
      go_enter Try.func34, Try.ntmps34
      go_wp2_with (first | (go_at_call 68; refine (iThr_yes l HLs.out _).mono ?_; rintro e w' ⟨rfl, hown, hb⟩) | (go_at_call 62; refine (within_any _ _ _ _).mono ?_; rintro e w' ⟨rfl, rfl⟩))
      go_ret
      exact ⟨by rw [HW.out]; rfl, by assumption⟩
    · obtain ⟨v1, v2⟩ := inB_iff.1 hd
      obtain ⟨V, rfl⟩ := Int.eq_ofNat_of_zero_le v1
      have HW := Lib.hid (show leastI l V = (0 :: thrL l).getD V 0 by simp [leastI, hd, hl])
      have HLs := Lib.hid hl
      have HLen := Lib.hid (thrL_len hl)
      clear hl
      obtain ⟨i0, hi0, hz0, hz1, hz2⟩ := info_parts info_int
      have HI := Lib.hid hi0; have HZ := Lib.hid hz0; have HZ1 := Lib.hid hz1; have HZ2 := Lib.hid hz2
      clear hi0 hz0 hz1 hz2
      go_enter Try.func34, Try.ntmps34
      go_wp2_with (first
        | (go_at_call 68; refine (iThr_yes l HLs.out _).mono ?_; rintro e w1 ⟨rfl, hown, hb⟩; have HO := Lib.hid hown; have HB := Lib.hid hb; have hsz := hb.size; clear hown hb)
        | (go_at_call 62; refine (within_any _ _ _ _).mono ?_; rintro e w' ⟨rfl, rfl⟩)
        | (at_builtin; refine wpList_append_own _ rfl _ _ 27 rfl w.heap.size 3 i0 (.int .i64 0) 1 8 Try.underlying27 HI.out HZ.out HZ1.out HZ2.out rfl (by decide) (.slice (some ⟨w1.heap.size, 0, none⟩) 1 1) 1 [.int .i64 0] rfl (World.ownsRow_lit w1 #[.int .i64 0] 1 hsz (by simp [maxLen]) rfl) ⟨w.heap.size, 0, none⟩ 7 7 ((thrL l).map (Value.int .i64)) rfl ?c1 ?c2 ?c3 ?c4 ?c5 ?c6 ?_))
      case c1 => simp [HLen.out]
      case c2 => intro j u hj; exact (World.cell?_alloc_lt _ _ _ (by rw [add_block]; exact (HO.out.lt _ rfl).2)).trans (HO.out.cells rfl j u hj)
      case c3 => intro u hu; obtain ⟨z, _, rfl⟩ := List.mem_map.1 hu; rfl
      case c4 => unfold maxLen; omega
      case c5 => omega
      case c6 => simp; omega
      · intro v' w2 hown2 hgrow _
        obtain ⟨gg, cap, rfl, hg3, _, _, _⟩ := own_form hown2 (by omega)
        have hcell : w2.cell? ⟨gg, V, none⟩ = some (.int .i64 ((0 :: thrL l).getD V 0)) := by
          rw [hown2.cellAt V (by omega)]
          have e : Value.int .i64 0 :: (thrL l).map (Value.int .i64) = (0 :: thrL l).map (Value.int .i64) := rfl
          rw [e, List.getElem?_map]
          have hlt : V < (0 :: thrL l).length := by simp [HLen.out]; omega
          simp only [List.getD, List.getElem?_eq_getElem hlt]
          rfl
        have HB2 : Hid (Below w.heap.size w w2) := (HB.out.alloc (o := .cells #[.int .i64 0] 3) hsz).grown hgrow (by simp; omega) (fun k hk => by simp [Value.ownBlock] at hk; omega)
        clear hown2 hgrow
        go_wp2
        go_ret
        exact ⟨by rw [HW.out]; rfl, HB2.out⟩
  · have HW := Lib.hid (show leastI l v = -1 by simp [leastI, hl])
    have HLs := Lib.hid hl
    clear hl
    go_enter Try.func34, Try.ntmps34
    go_wp2_with (first | (go_at_call 68; refine (iThr_no l HLs.out _).mono ?_; rintro e w' ⟨rfl, rfl⟩) | (go_at_call 62; refine (within_any _ _ _ _).mono ?_; rintro e w' ⟨rfl, rfl⟩))
    all_goals
      go_ret
      exact ⟨by rw [HW.out]; rfl, Below.refl _ _⟩

end Go.Proofs.Ytfdpfeaegcfglaa
