/-
  spec.Binomial (rows of Pascal's triangle) and impl.Binomial (a product): each answers binI n k.
-/
import Derived.Test.YtfdpfeaegcfglaaIn
import Derived.Test.YtfdpfeaegcfglaaChoose
namespace Go.Proofs.Ytfdpfeaegcfglaa
open Go.RowKit

set_option maxHeartbeats 1000000 in
theorem iBinomial_any (n k : Int) (w : World) : Calls Try.prog 28 #[.int .i64 n, .int .i64 k] w fun e w' => e = .returned (.int .i64 (binI n k)) ∧ w = w' := by
  by_cases h : 0 ≤ n ∧ n ≤ 20
  · have b1 := inB_yes h.1 h.2
    by_cases h' : 0 ≤ k ∧ k ≤ n
    · have b2 := inB_yes h'.1 h'.2
      obtain ⟨h1, h2⟩ := h
      obtain ⟨h3, h4⟩ := h'
      obtain ⟨N, rfl⟩ := Int.eq_ofNat_of_zero_le h1
      obtain ⟨K, rfl⟩ := Int.eq_ofNat_of_zero_le h3
      have hN : N ≤ 20 := by omega
      have hK : K ≤ N := by omega
      have HB := Lib.hid (binI_nat hN hK)
      go_enter Try.func28, Try.ntmps28
      go_wp2_with (go_at_call 62; refine (within_any _ _ _ _).mono ?_; rintro e w' ⟨rfl, rfl⟩)
      go_loop [5, 17] (fun out i => ∃ m : Nat, m ≤ K ∧ i = .int .i64 m ∧ out = .int .i64 (choose N m : Nat)) (fun _ i => K - (intOf i).toNat)
      case atStart => exact ⟨0, Nat.zero_le _, rfl, by rw [choose_zero]; rfl⟩
      case round =>
        obtain ⟨m, hm, rfl, rfl⟩ := hrel
        have hc := choose_le20 (n := N) (k := m) hN
        have hc' := choose_le20 (n := N) (k := m + 1) hN
        by_cases hlt : m < K
        · have hp : 0 ≤ (choose N m : Int) * ((N : Int) - m) ∧ (choose N m : Int) * ((N : Int) - m) ≤ 1048576 * 20 := by
            constructor
            · exact Int.mul_nonneg (by omega) (by omega)
            · exact Int.le_trans (Int.mul_le_mul_of_nonneg_right (by omega) (by omega)) (Int.mul_le_mul_of_nonneg_left (by omega) (by omega))
          obtain ⟨hp1, hp2⟩ := hp
          have hq : ((choose N m : Int) * ((N : Int) - m)) / ((m : Int) + 1) = (choose N (m + 1) : Nat) := by
            have hs := choose_step N m
            have e : (choose N m : Int) * ((N : Int) - m) = ((choose N (m + 1) * (m + 1) : Nat) : Int) := by
              rw [hs, Int.natCast_mul, Int.ofNat_sub (by omega)]
            rw [e, Int.natCast_mul]
            exact Int.mul_ediv_cancel _ (by omega)
          have HQ := Lib.hid hq
          clear hq
          go_wp2
          go_round
          case rel => exact ⟨m + 1, by omega, by go_num, by rw [← HQ.out]⟩
          case measure => simp [intOf]; omega
        · obtain rfl : m = K := by omega
          go_wp2
          go_ret
          exact ⟨by rw [HB.out]; rfl, rfl⟩
    · have b2 := inB_no h'
      have HB := Lib.hid (binI_no (n := n) (k := k) (by simp [b1, b2]))
      clear h h'
      go_enter Try.func28, Try.ntmps28
      go_wp2_with (go_at_call 62; refine (within_any _ _ _ _).mono ?_; rintro e w' ⟨rfl, rfl⟩)
      go_ret
      exact ⟨by rw [HB.out]; rfl, rfl⟩
  · have b1 := inB_no h
    have HB := Lib.hid (binI_no (n := n) (k := k) (by simp [b1]))
    clear h
    go_enter Try.func28, Try.ntmps28
    go_wp2_with (go_at_call 62; refine (within_any _ _ _ _).mono ?_; rintro e w' ⟨rfl, rfl⟩)
    go_ret
    exact ⟨by rw [HB.out]; rfl, rfl⟩

theorem chRow_one (n : Nat) : chRow n 1 = [.int .i64 1] := by simp [chRow, choose_zero]
theorem chRow_full (n : Nat) : chRow (n + 1) (n + 2) = chRow (n + 1) (n + 1) ++ [.int .i64 1] := by rw [chRow_succ (n + 1) (n + 1), choose_self]; rfl

set_option maxHeartbeats 2000000 in
theorem sBinomial_any (n k : Int) (w : World) : Calls Try.prog 29 #[.int .i64 n, .int .i64 k] w fun e w' => e = .returned (.int .i64 (binI n k)) ∧ Below w.heap.size w w' := by
  by_cases h : 0 ≤ n ∧ n ≤ 20
  · have b1 := inB_yes h.1 h.2
    by_cases h' : 0 ≤ k ∧ k ≤ n
    · have b2 := inB_yes h'.1 h'.2
      obtain ⟨h1, h2⟩ := h
      obtain ⟨h3, h4⟩ := h'
      obtain ⟨N, rfl⟩ := Int.eq_ofNat_of_zero_le h1
      obtain ⟨K, rfl⟩ := Int.eq_ofNat_of_zero_le h3
      have hN : N ≤ 20 := by omega
      have hK : K ≤ N := by omega
      have HB := Lib.hid (binI_nat hN hK)
      obtain ⟨i0, hi0, hz0, hz1, hz2⟩ := info_parts info_int
      have HI := Lib.hid hi0; have HZ := Lib.hid hz0; have HZ1 := Lib.hid hz1; have HZ2 := Lib.hid hz2
      clear hi0 hz0 hz1 hz2
      have HO : Hid ((w.alloc (.cells #[.int .i64 1] 3)).ownsRow w.heap.size 3 1 (.slice (some ⟨w.heap.size, 0, none⟩) 1 1) 1 (chRow 0 1)) := by
        rw [chRow_one]
        exact World.ownsRow_lit w #[.int .i64 1] 1 (Nat.le_refl _) (by simp [maxLen]) rfl
      go_enter Try.func29, Try.ntmps29
      go_wp2_with (go_at_call 64; refine (l1In_any _ _ _ _).mono ?_; rintro e w' ⟨rfl, rfl⟩)
      go_loopw [5, 6] (fun row i wr => ∃ m g cap : Nat, m ≤ N ∧ i = .int .i64 m ∧ row = .slice (some ⟨g, 0, none⟩) (m + 1) cap ∧ wr.ownsRow w.heap.size 3 1 row (m + 1) (chRow m (m + 1)) ∧ Below w.heap.size w wr)
        (fun _ i _ => N - (intOf i).toNat)
      case atStart => exact ⟨0, w.heap.size, 1, Nat.zero_le _, rfl, rfl, HO.out, by go_grown⟩
      case round =>
        obtain ⟨m, g, cap, hm, rfl, rfl, hown, hbel⟩ := hrel
        have HOwn := Lib.hid hown
        have HBel := Lib.hid hbel
        clear hown hbel
        obtain ⟨wo, rfl⟩ : ∃ wo : World, wo = wr := ⟨_, rfl⟩
        by_cases hlt : m < N
        · have HN1 : Hid ((wo.alloc (.cells #[.int .i64 1] 3)).ownsRow wo.heap.size 3 1 (.slice (some ⟨wo.heap.size, 0, none⟩) 1 1) 1 (chRow (m + 1) 1)) := by
            rw [chRow_one]
            exact World.ownsRow_lit wo #[.int .i64 1] 1 (Nat.le_refl _) (by simp [maxLen]) rfl
          obtain ⟨g', cap', hv', hg1, hg2, _, _⟩ := own_form HOwn.out (by omega)
          obtain ⟨rfl, rfl⟩ : g' = g ∧ cap' = cap := by simp at hv'; exact ⟨hv'.1.symm, hv'.2.symm⟩
          clear hv'
          go_wp2
          go_loopw [7, 8] (fun nx j wr => ∃ q gn capn : Nat, q ≤ m ∧ j = .int .i64 ((q : Int) + 1) ∧ nx = .slice (some ⟨gn, 0, none⟩) (q + 1) capn ∧ wr.ownsRow wo.heap.size 3 1 nx (q + 1) (chRow (m + 1) (q + 1)) ∧ Below wo.heap.size wo wr)
            (fun _ j _ => m + 1 - (intOf j).toNat)
          case atStart => exact ⟨0, wo.heap.size, 1, Nat.zero_le _, rfl, rfl, HN1.out, by go_grown⟩
          case round =>
            obtain ⟨q, gn, capn, hq, rfl, rfl, hownN, hbelN⟩ := hrel
            have hrow := own_below HOwn.out hbelN (Nat.le_refl _)
            obtain ⟨gn', capn', hv', hgn1, hgn2, _, _⟩ := own_form hownN (by omega)
            obtain ⟨rfl, rfl⟩ : gn' = gn ∧ capn' = capn := by simp at hv'; exact ⟨hv'.1.symm, hv'.2.symm⟩
            clear hv'
            by_cases hqm : q < m
            · have hc1 : wr.cell? ⟨g', q, none⟩ = some (.int .i64 (choose m q : Nat)) := by rw [hrow.cellAt q (by omega)]; exact chRow_get (by omega)
              have hc2 : wr.cell? ⟨g', q + 1, none⟩ = some (.int .i64 (choose m (q + 1) : Nat)) := by rw [hrow.cellAt (q + 1) (by omega)]; exact chRow_get (by omega)
              have k1 := choose_le20 (n := m) (k := q) (by omega)
              have k2 := choose_le20 (n := m) (k := q + 1) (by omega)
              have HNx := Lib.hid (chRow_next m q)
              have HOwnN := Lib.hid hownN
              have HBelN := Lib.hid hbelN
              have hsz := hbelN.size
              have hne : gn' ≠ g' := by omega
              have n0 : (0 : Int) ≤ (q : Int) := Int.natCast_nonneg _
              have n1 : (q : Int) < (m : Int) + 1 := by omega
              have n2 : (0 : Int) ≤ (q : Int) + 1 := by omega
              have n3 : (q : Int) + 1 < (m : Int) + 1 := by omega
              have n4 : ((q : Int) + 1).toNat = q + 1 := by omega
              have n5 : IntKind.i64.wrap (q : Int) = q := IntWalk.i64_in _ (by omega)
              have n6 : IntKind.i64.wrap ((choose m q : Nat) + (choose m (q + 1) : Nat) : Int) = (choose m q : Nat) + (choose m (q + 1) : Nat) := IntWalk.i64_in _ (by omega)
              clear hownN hbelN hrow
              go_wp2
              go_region_held3 (fun w' => w'.cell? ⟨g', q, none⟩ = some (.int .i64 (choose m q : Nat)) ∧ w'.cell? ⟨g', q + 1, none⟩ = some (.int .i64 (choose m (q + 1) : Nat)))
                (first
                  | go_keep
                  | (go_split_ands
                     refine ⟨?_, ?_⟩
                     · (rw [hgrow.cell_far _ (by simp; omega) (by simp [Value.ownBlock]; omega)]; assumption)
                     · (rw [hgrow.cell_far _ (by simp; omega) (by simp [Value.ownBlock]; omega)]; assumption)))
                ((refine step_append_lies _ (by rfl) _ _ _ (by rfl) wo.heap.size 3 i0 _ 1 8 Try.underlying27 HI.out HZ.out HZ1.out HZ2.out rfl (by omega) _ (q + 1) (chRow (m + 1) (q + 1)) (by rfl) ((HOwnN.out.alloc _).drew)
                    ⟨wr.heap.size, 0, none⟩ 1 1 [.int .i64 ((choose m q : Nat) + (choose m (q + 1) : Nat) : Int)] (by rfl) (by rfl) (World.news_of_block (cs := #[.int .i64 ((choose m q : Nat) + (choose m (q + 1) : Nat) : Int)]) (t := 3) (fr := (0, 0)) (heap_alloc_new wr _)) (by simp [Value.oneCell'])
                    (by omega) (by simp only [maxLen]; omega) (by omega) (by simp; omega) (wr.heap.size + 1) (by simp) ?_; intro gg cap w1 hown1 hgrow hat hlt))
              have hown2 : w1.ownsRow wo.heap.size 3 1 (.slice (some ⟨gg, 0, none⟩) (q + 1 + 1) cap) (q + 2) (chRow (m + 1) (q + 2)) := by rw [HNx.out]; exact hown1
              have hbel2 : Below wo.heap.size wo w1 := by
                refine Below.grown (row := some gn') ((HBelN.out.alloc hsz _).drew) hgrow (by simp; omega) (fun k hk => ?_)
                injection hk with hk; omega
              have HOwn2 := Lib.hid hown2
              have HBel2 := Lib.hid hbel2
              clear hown1 hown2 hbel2 hgrow hat hlt n0 n1 n2 n3 n4 n5 n6
              go_wp2
              go_roundw
              case rel => exact ⟨q + 1, gg, cap, by omega, by go_num, rfl, HOwn2.out, HBel2.out⟩
              case measure => simp [intOf]; omega
            · obtain rfl : q = m := by omega
              have hsz := hbelN.size
              have HOwnN := Lib.hid hownN
              have HBelN := Lib.hid hbelN
              have HFull := Lib.hid (chRow_full q)
              clear hownN hbelN hrow
              go_wp2_with (at_builtin; refine wpList_append_own _ rfl _ _ 27 rfl wo.heap.size 3 i0 (.int .i64 0) 1 8 Try.underlying27 HI.out HZ.out HZ1.out HZ2.out rfl (by decide) _ (q + 1) (chRow (q + 1) (q + 1)) rfl (HOwnN.out.alloc _) ⟨wr.heap.size, 0, none⟩ 1 1 [.int .i64 1] rfl rfl ?c1 ?c2 ?c3 ?c4 ?c5 ?_)
              case c1 => exact cell_one_new _ _ _
              case c2 => intro u hu; simp at hu; subst hu; rfl
              case c3 => unfold maxLen; omega
              case c4 => omega
              case c5 => simp; omega
              · intro v' w1 hown1 hgrow _
                obtain ⟨gg, cap, rfl, hg3, _, _, _⟩ := own_form hown1 (by omega)
                have hown2 : w1.ownsRow w.heap.size 3 1 (.slice (some ⟨gg, 0, none⟩) (q + 1 + 1) cap) (q + 2) (chRow (q + 1) (q + 2)) := by rw [HFull.out]; exact own_base hown1 HBel.out.size
                have hbel2 : Below wo.heap.size wo w1 := by
                  refine Below.grown (row := some gn') (HBelN.out.alloc hsz _) hgrow (by simp; omega) (fun k hk => ?_)
                  injection hk with hk; omega
                have HOwn2 := Lib.hid hown2
                have HBel2 := Lib.hid (HBel.out.trans (hbel2.mono HBel.out.size))
                clear hown1 hown2 hbel2 hgrow
                go_wp2
                go_roundw
                case rel => exact ⟨q + 1, gg, cap, by omega, by go_num, rfl, HOwn2.out, HBel2.out⟩
                case measure => simp [intOf]; omega
        · obtain rfl : m = N := by omega
          have hc1 : wo.cell? ⟨g, K, none⟩ = some (.int .i64 (choose m K : Nat)) := by
            obtain ⟨g', cap', hv', _, _, _, _⟩ := own_form HOwn.out (by omega)
            obtain ⟨rfl, rfl⟩ : g' = g ∧ cap' = cap := by simp at hv'; exact ⟨hv'.1.symm, hv'.2.symm⟩
            rw [HOwn.out.cellAt K (by omega)]; exact chRow_get (by omega)
          go_wp2
          go_ret
          exact ⟨by rw [HB.out]; rfl, HBel.out⟩
    · have b2 := inB_no h'
      have HB := Lib.hid (binI_no (n := n) (k := k) (by simp [b1, b2]))
      clear h h'
      go_enter Try.func29, Try.ntmps29
      go_wp2_with (go_at_call 64; refine (l1In_any _ _ _ _).mono ?_; rintro e w' ⟨rfl, rfl⟩)
      go_ret
      exact ⟨by rw [HB.out]; rfl, Below.refl _ _⟩
  · have b1 := inB_no h
    have HB := Lib.hid (binI_no (n := n) (k := k) (by simp [b1]))
    clear h
    go_enter Try.func29, Try.ntmps29
    go_wp2_with (go_at_call 64; refine (l1In_any _ _ _ _).mono ?_; rintro e w' ⟨rfl, rfl⟩)
    go_ret
    exact ⟨by rw [HB.out]; rfl, Below.refl _ _⟩

end Go.Proofs.Ytfdpfeaegcfglaa
