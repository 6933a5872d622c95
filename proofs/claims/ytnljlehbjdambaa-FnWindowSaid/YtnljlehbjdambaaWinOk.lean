/-
  WindowOk of both packages.
-/
import Derived.Test.YtnljlehbjdambaaWin
namespace Go.Proofs.Ytnljlehbjdambaa
open Go.RowKit
set_option linter.unusedSimpArgs false
set_option linter.unusedVariables false
theorem row_le {xss : List (List Int)} (hb : totI xss ≤ 1048576) (k : Nat) (xs : List Int) (hk : xss[k]? = some xs) : xs.length ≤ 1048576 := by
  have h1 := upto_succ (iss_get hk)
  have h2 := upto_le (iss xss) (k + 1)
  rw [tot_iss] at h2
  simp only [List.length_map] at h1
  omega

set_option maxHeartbeats 4000000 in
theorem sWindowOk_any (A : Option Addr) (n c : Nat) (hs : List Hd) (xss : List (List Int)) (w : World) (h : RdSS w A n hs (iss xss)) (hb : totI xss ≤ 1048576) (hn : n ≤ 1048576) :
    Calls Try.prog 24 #[.agg #[.slice A n c]] w fun e w' => e = .returned (.bool (winB xss)) ∧ Below w.heap.size w w' := by
  have hlen : xss.length = n := by have := h.len; rwa [iss_len] at this
  have HL := Lib.hid hlen
  have HB := Lib.hid (row_le hb)
  have HB1 := Lib.hid (below_alloc1 (w := w) (.cells #[.slice A n c] 26))
  have H1 := Lib.hid (h.below (below_alloc1 (w := w) (.cells #[.slice A n c] 26)) (Nat.le_refl _))
  have C0 : Hid ((w.alloc (.cells #[.slice A n c] 26)).cell? ⟨w.heap.size, 0, none⟩ = some (.slice A n c)) := Lib.hid (by simp [go_sem])
  have hz : w.heap.size < (w.alloc (.cells #[.slice A n c] 26)).heap.size := by simp
  clear h hlen hb
  by_cases hn8 : n ≤ 8
  · go_enter Try.func24, Try.ntmps24
    go_wp2_with fail
    obtain ⟨W1, hW1⟩ : ∃ W1, W1 = w.alloc (.cells #[.slice A n c] 26) := ⟨_, rfl⟩
    rw [← hW1] at HB1 H1 C0 hz ⊢
    clear hW1
    go_loopw [3] (fun i wr => ∃ k : Nat, k ≤ n ∧ i = .int .i64 k ∧ Hid (∀ (j : Nat) (ys : List Int), j < k → xss[j]? = some ys → rowB j ys = true) ∧ Below W1.heap.size W1 wr) (fun i _ => n - (intOf i).toNat)
    case atStart => exact ⟨0, Nat.zero_le _, rfl, (fun j ys hj => absurd hj (by omega)), Below.refl _ _⟩
    case round =>
      obtain ⟨k, hk, rfl, hgood, hbel⟩ := hrel
      have c0 : wr.cell? ⟨w.heap.size, 0, none⟩ = some (.slice A n c) := (hbel.cell (p := ⟨w.heap.size, 0, none⟩) hz).trans C0.out
      by_cases hlt : k < n
      · obtain ⟨x, vs, hx, hv, hr, hvl⟩ := H1.out.get hlt
        obtain ⟨b, off, rfl, hbl, hcell0⟩ := H1.out.head hlt hx
        obtain ⟨xs, hxs, rfl⟩ := iss_get' hv
        obtain ⟨xa, xn, xc⟩ := x
        have hxl := HB.out k xs hxs
        simp only [List.length_map] at hvl hcell0 hr
        subst hvl
        have hcell : wr.cell? ⟨b, off + k, none⟩ = some (.slice xa xs.length xc) := (hbel.cell (p := ⟨b, off + k, none⟩) hbl).trans hcell0
        have HCell := Lib.hid hcell0
        have HXS := Lib.hid hxs
        have HRow := Lib.hid hr
        have HBel := Lib.hid hbel
        clear hbel hcell0 hr hx hv hxs
        cases hin : inB xs.length 1 3
        · have HW := Lib.hid (winB_bad HXS.out (rowB_no1 (r := k) hin))
          go_wp2_with fail
          refine (l1In_any _ _ _ _).mono ?_
          rw [hin]
          rintro e w2 ⟨rfl, rfl⟩
          go_wp2_with fail
          go_ret
          exact ⟨by rw [HW.out]; rfl, HB1.out.trans (HBel.out.mono HB1.out.size)⟩
        · have HIN := Lib.hid hin
          have hpb := pw_bd (r := k) (by omega)
          obtain ⟨p, hp⟩ : ∃ p, pw k = p := ⟨_, rfl⟩
          have HPW : Hid (∀ v, Calls Try.prog 46 #[.int .i64 (k : Nat)] v fun e w' => e = .returned (.int .i64 p) ∧ w' = v) := fun v => (l16Power_any k v (by omega)).mono fun _ _ ⟨h1, h2⟩ => ⟨by rw [h1, hp], h2.symm⟩
          have HP := Lib.hid hp
          rw [hp] at hpb
          clear hp
          go_wp2_with fail
          refine (l1In_any _ _ _ _).mono ?_
          rw [hin]
          rintro e w2 ⟨rfl, rfl⟩
          clear hin c0 hcell
          go_wp2_with fail
          go_loopw [4] (fun i wr => ∃ q : Nat, q ≤ xs.length ∧ i = .int .i64 q ∧ Hid (∀ (j : Nat) (x : Int), j < q → xs[j]? = some x → inB x 0 (pw k) = true) ∧ Below W1.heap.size W1 wr) (fun i _ => xs.length - (intOf i).toNat)
          case atStart => exact ⟨0, Nat.zero_le _, rfl, (fun j ys hj => absurd hj (by omega)), HBel.out⟩
          case round =>
            obtain ⟨q, hq, rfl, hgood2, hbel2⟩ := hrel
            have c0 : wr.cell? ⟨w.heap.size, 0, none⟩ = some (.slice (some ⟨b, off, none⟩) n c) := (hbel2.cell (p := ⟨w.heap.size, 0, none⟩) hz).trans C0.out
            have hcell : wr.cell? ⟨b, off + k, none⟩ = some (.slice xa xs.length xc) := (hbel2.cell (p := ⟨b, off + k, none⟩) hbl).trans HCell.out
            by_cases hltq : q < xs.length
            · obtain ⟨b2, off2, rfl, hbl2, hc2⟩ := HRow.out.ex (by omega)
              have hxq : xs[q]? = some xs[q] := List.getElem?_eq_getElem hltq
              have hcell2 : wr.cell? ⟨b2, off2 + q, none⟩ = some (.int .i64 xs[q]) := (hbel2.cell (p := ⟨b2, off2 + q, none⟩) hbl2).trans (hc2 q _ (by simp [hltq]))
              obtain ⟨x, hx⟩ : ∃ x, xs[q] = x := ⟨_, rfl⟩
              rw [hx] at hcell2 hxq
              have HXQ := Lib.hid hxq
              have HBel2 := Lib.hid hbel2
              have n0 : (0 : Int) ≤ (q : Int) := Int.natCast_nonneg _
              have n1 : (q : Int) < (xs.length : Int) := by omega
              have n2 : (0 : Int) ≤ (k : Int) := Int.natCast_nonneg _
              have n3 : (k : Int) < (n : Int) := by omega
              clear hc2 hx hxq hbel2
              cases hin2 : inB x 0 p
              · have HW := Lib.hid (winB_bad HXS.out (rowB_no2 (r := k) HXQ.out (by rw [HP.out]; exact hin2)))
                go_wp2_with fail
                go_quiet ((first | (go_at_call 46; exact Calls.quiet_of_same (HPW.out _)) | (go_at_call 45; exact Calls.quiet_of_same (l1In_q hin2 _))))
                go_wp2_with fail
                go_ret
                exact ⟨by rw [HW.out]; rfl, HB1.out.trans ((Below.trans HBel2.out (by repeat (first | exact Below.refl _ _ | apply below_drewN | apply Below.drew))).mono HB1.out.size)⟩
              · go_wp2_with fail
                go_quiet ((first | (go_at_call 46; exact Calls.quiet_of_same (HPW.out _)) | (go_at_call 45; exact Calls.quiet_of_same (l1In_q hin2 _))))
                go_wp2_with fail
                go_roundw
                case rel =>
                  refine ⟨q + 1, by omega, by go_num, (fun j y hj hy => ?_), Below.trans HBel2.out (by repeat (first | exact Below.refl _ _ | apply below_drewN | apply Below.drew))⟩
                  rcases Nat.lt_or_ge j q with h1 | h1
                  · exact hgood2.out j y h1 hy
                  · obtain rfl : j = q := by omega
                    rw [HXQ.out] at hy
                    obtain rfl := Option.some.inj hy
                    rw [HP.out]; exact hin2
                case measure => simp [intOf]; omega
            · obtain rfl : q = xs.length := by omega
              have HBel2 := Lib.hid hbel2
              clear hbel2
              go_wp2_with fail
              go_roundw
              case rel =>
                refine ⟨k + 1, by omega, by go_num, (fun j y hj hy => ?_), HBel2.out⟩
                rcases Nat.lt_or_ge j k with h1 | h1
                · exact hgood.out j y h1 hy
                · obtain rfl : j = k := by omega
                  rw [HXS.out] at hy
                  obtain rfl := Option.some.inj hy
                  exact rowB_yes HIN.out (fun j x hj => hgood2.out j x (List.getElem?_eq_some_iff.1 hj).1 hj)
              case measure => simp [intOf]; omega
      · obtain rfl : k = n := by omega
        have HW := Lib.hid (winB_good (xss := xss) (by rw [HL.out]; exact hn8) (fun r ys hy => hgood.out r ys (by have := (List.getElem?_eq_some_iff.1 hy).1; rw [HL.out] at this; exact this) hy))
        have HBel := Lib.hid hbel
        clear hbel
        go_wp2_with fail
        go_ret
        exact ⟨by rw [HW.out]; rfl, HB1.out.trans (HBel.out.mono HB1.out.size)⟩
  · have HW := Lib.hid (winB_long (xss := xss) (by rw [HL.out]; exact hn8))
    go_enter Try.func24, Try.ntmps24
    go_wp2_with fail
    go_ret
    exact ⟨by rw [HW.out]; rfl, HB1.out⟩

theorem iWindowOkFn_any (x : Int) (k g : Nat) (w : World) (hk : k ≤ 7) (hx : -9223372036854775808 ≤ x ∧ x ≤ 9223372036854775807) (hg : w.cell? ⟨g, 0, none⟩ = some (.int .i64 (k : Nat))) :
    Calls Try.prog 35 #[.int .i64 x, .pointer (some ⟨g, 0, none⟩)] w fun e w' => e = .returned (.bool (!inB x 0 (pw k))) ∧ w = w' := by
  have hc : k = 0 ∨ k = 1 ∨ k = 2 ∨ k = 3 ∨ k = 4 ∨ k = 5 ∨ k = 6 ∨ k = 7 := by omega
  rcases hc with rfl | rfl | rfl | rfl | rfl | rfl | rfl | rfl
  all_goals
    go_enter Try.func35, Try.ntmps35
    go_wp2_with fail
    refine (within_any _ _ _ _).mono ?_
    rintro e w2 ⟨rfl, rfl⟩
    go_wp2_with fail
    go_ret
    exact ⟨rfl, rfl⟩

/-- Is there an element that a row of this place may not have? -/
def badB (k : Nat) (xs : List Int) : Bool := xs.any fun x => !inB x 0 (pw k)
theorem badB_row {k : Nat} {xs : List Int} (h : inB xs.length 1 3 = true) : rowB k xs = !badB k xs := by
  unfold rowB badB; rw [h, Bool.true_and, List.not_any_eq_all_not]; simp
theorem badB_yes {k q : Nat} {xs : List Int} {x : Int} (hx : xs[q]? = some x) (h : inB x 0 (pw k) = false) : badB k xs = true := by
  unfold badB; rw [List.any_eq_true]; exact ⟨x, List.mem_of_getElem? hx, by simp [h]⟩
theorem badB_no {k : Nat} {xs : List Int} (h : ∀ (j : Nat) (x : Int), xs[j]? = some x → inB x 0 (pw k) = true) : badB k xs = false := by
  unfold badB; rw [List.any_eq_false]; intro x hx; obtain ⟨j, hj⟩ := List.getElem?_of_mem hx; simp [h j x hj]

set_option maxHeartbeats 1000000 in
theorem iWinIndex_any (A : Option Addr) (n c : Nat) (xs : List Int) (k g : Nat) (w : World) (h : Rd w A n (xs.map (Value.int .i64))) (hn : n ≤ 1048576) (hk : k ≤ 7) (hxs : ∀ x ∈ xs, -9223372036854775808 ≤ x ∧ x ≤ 9223372036854775807) (hg : w.cell? ⟨g, 0, none⟩ = some (.int .i64 (k : Nat))) :
    Calls Try.prog 50 #[.slice A n c, .func (.func 35) #[] #[.pointer (some ⟨g, 0, none⟩)]] w fun e w' => (∃ i : Int, e = .returned (.int .i64 i) ∧ decide (0 ≤ i) = badB k xs) ∧ w = w' := by
  have H := Lib.hid h
  have HL := Lib.hid (show xs.length = n by simpa using h.len)
  have HX := Lib.hid hxs
  have HG := Lib.hid hg
  clear h hxs hg
  go_enter Try.func50, Try.ntmps50
  go_wp2_with fail
  go_loop [8] (fun i => ∃ q : Nat, q ≤ n ∧ i = .int .i64 q ∧ Hid (∀ (j : Nat) (x : Int), j < q → xs[j]? = some x → inB x 0 (pw k) = true)) (fun i => n - (intOf i).toNat)
  case atStart => exact ⟨0, Nat.zero_le _, rfl, fun j x hj => absurd hj (by omega)⟩
  case round =>
    obtain ⟨q, hq, rfl, hgood⟩ := hrel
    by_cases hlt : q < n
    · obtain ⟨b, off, rfl, hbl, hc⟩ := H.out.ex (by omega)
      have hl : q < xs.length := by rw [HL.out]; exact hlt
      have hxq : xs[q]? = some xs[q] := List.getElem?_eq_getElem hl
      have hcell := hc q (.int .i64 xs[q]) (by simp [hl])
      have hbx := HX.out xs[q] (List.getElem_mem hl)
      obtain ⟨x, hx⟩ : ∃ x, xs[q] = x := ⟨_, rfl⟩
      rw [hx] at hcell hxq hbx
      have HXQ := Lib.hid hxq
      clear hc hx hxq
      cases hin : inB x 0 (pw k)
      · have HV := Lib.hid (badB_yes HXQ.out hin)
        go_wp2_with fail
        refine (iWindowOkFn_any x k g w hk hbx HG.out).mono ?_
        rw [hin]
        rintro e w2 ⟨rfl, rfl⟩
        go_wp2_with fail
        go_ret
        exact ⟨⟨q, rfl, by rw [HV.out]; simp⟩, rfl⟩
      · have HIN := Lib.hid hin
        go_wp2_with fail
        refine (iWindowOkFn_any x k g w hk hbx HG.out).mono ?_
        rw [hin]
        rintro e w2 ⟨rfl, rfl⟩
        go_wp2_with fail
        go_round
        case rel =>
          refine ⟨q + 1, by omega, by go_num, fun j y hj hy => ?_⟩
          rcases Nat.lt_or_ge j q with h1 | h1
          · exact hgood.out j y h1 hy
          · obtain rfl : j = q := by omega
            rw [HXQ.out] at hy
            obtain rfl := Option.some.inj hy
            exact HIN.out
        case measure => simp [intOf]; omega
    · obtain rfl : q = n := by omega
      have HV := Lib.hid (badB_no (k := k) (xs := xs) (fun j x hj => hgood.out j x (by have := (List.getElem?_eq_some_iff.1 hj).1; rw [HL.out] at this; exact this) hj))
      go_wp2_with fail
      go_ret
      exact ⟨⟨-1, rfl, by rw [HV.out]; rfl⟩, rfl⟩

theorem iWinContains_any (A : Option Addr) (n c : Nat) (xs : List Int) (k g : Nat) (w : World) (h : Rd w A n (xs.map (Value.int .i64))) (hn : n ≤ 1048576) (hk : k ≤ 7) (hxs : ∀ x ∈ xs, -9223372036854775808 ≤ x ∧ x ≤ 9223372036854775807) (hg : w.cell? ⟨g, 0, none⟩ = some (.int .i64 (k : Nat))) :
    Calls Try.prog 34 #[.slice A n c, .func (.func 35) #[] #[.pointer (some ⟨g, 0, none⟩)]] w fun e w' => e = .returned (.bool (badB k xs)) ∧ w = w' := by
  have H := Lib.hid h
  have HX := Lib.hid hxs
  have HG := Lib.hid hg
  clear h hxs hg
  go_enter Try.func34, Try.ntmps34
  go_wp2_with fail
  refine (iWinIndex_any A n c xs k g w H.out hn hk HX.out HG.out).mono ?_
  rintro e w2 ⟨⟨i, rfl, hi⟩, rfl⟩
  have HI := Lib.hid hi
  clear hi
  go_wp2_with fail
  go_ret
  exact ⟨by rw [← HI.out]; rfl, rfl⟩

set_option maxHeartbeats 4000000 in
theorem iWindowOk_any (A : Option Addr) (n c : Nat) (hs : List Hd) (xss : List (List Int)) (w : World) (h : RdSS w A n hs (iss xss)) (hb : totI xss ≤ 1048576) (hn : n ≤ 1048576) (hw : ∀ xs ∈ xss, ∀ x ∈ xs, -9223372036854775808 ≤ x ∧ x ≤ 9223372036854775807) :
    Calls Try.prog 15 #[.agg #[.slice A n c]] w fun e w' => e = .returned (.bool (winB xss)) ∧ Below w.heap.size w w' := by
  have HW := Lib.hid hw
  clear hw
  have hlen : xss.length = n := by have := h.len; rwa [iss_len] at this
  have HL := Lib.hid hlen
  have HB := Lib.hid (row_le hb)
  have HB1 := Lib.hid (below_alloc1 (w := w) (.cells #[.slice A n c] 26))
  have H1 := Lib.hid (h.below (below_alloc1 (w := w) (.cells #[.slice A n c] 26)) (Nat.le_refl _))
  have C0 : Hid ((w.alloc (.cells #[.slice A n c] 26)).cell? ⟨w.heap.size, 0, none⟩ = some (.slice A n c)) := Lib.hid (by simp [go_sem])
  have hz : w.heap.size < (w.alloc (.cells #[.slice A n c] 26)).heap.size := by simp
  clear h hlen hb
  by_cases hn8 : n ≤ 8
  · go_enter Try.func15, Try.ntmps15
    go_wp2_with fail
    obtain ⟨W1, hW1⟩ : ∃ W1, W1 = w.alloc (.cells #[.slice A n c] 26) := ⟨_, rfl⟩
    rw [← hW1] at HB1 H1 C0 hz ⊢
    clear hW1
    go_loopw [12] (fun i wr => ∃ k : Nat, k ≤ n ∧ i = .int .i64 k ∧ Hid (∀ (j : Nat) (ys : List Int), j < k → xss[j]? = some ys → rowB j ys = true) ∧ Below W1.heap.size W1 wr) (fun i _ => n - (intOf i).toNat)
    case atStart => exact ⟨0, Nat.zero_le _, rfl, (fun j ys hj => absurd hj (by omega)), Below.refl _ _⟩
    case round =>
      obtain ⟨k, hk, rfl, hgood, hbel⟩ := hrel
      have c0 : wr.cell? ⟨w.heap.size, 0, none⟩ = some (.slice A n c) := (hbel.cell (p := ⟨w.heap.size, 0, none⟩) hz).trans C0.out
      by_cases hlt : k < n
      · obtain ⟨x, vs, hx, hv, hr, hvl⟩ := H1.out.get hlt
        obtain ⟨b, off, rfl, hbl, hcell0⟩ := H1.out.head hlt hx
        obtain ⟨xs, hxs, rfl⟩ := iss_get' hv
        obtain ⟨xa, xn, xc⟩ := x
        have hxl := HB.out k xs hxs
        simp only [List.length_map] at hvl hcell0 hr
        subst hvl
        have hcell : wr.cell? ⟨b, off + k, none⟩ = some (.slice xa xs.length xc) := (hbel.cell (p := ⟨b, off + k, none⟩) hbl).trans hcell0
        have HCell := Lib.hid hcell0
        have HXS := Lib.hid hxs
        have HRow := Lib.hid hr
        have HBel := Lib.hid hbel
        clear hbel hcell0 hr hx hv hxs
        have HX := Lib.hid (HW.out xs (List.mem_of_getElem? HXS.out))
        have hb2 := HBel.out.alloc HBel.out.size (.cells #[.int .i64 (k : Nat)] 3)
        have hg : (wr.alloc (.cells #[.int .i64 (k : Nat)] 3)).cell? ⟨wr.heap.size, 0, none⟩ = some (.int .i64 (k : Nat)) := by simp [go_sem]
        have HG := Lib.hid hg
        have HR2 := Lib.hid (HRow.out.below hb2 (Nat.le_refl _))
        have HB2 := Lib.hid (HB1.out.trans (hb2.mono HB1.out.size))
        have HBel2 := Lib.hid hb2
        clear hg hb2
        have hmf : ∀ (fn : Fn) (first cap : Array Value) (w : World), (Instr.makeFunc fn first cap).run Try.prog w = .ok (.func fn first cap) w := fun _ _ _ _ => rfl
        cases hin : inB xs.length 1 3
        · have HV := Lib.hid (winB_bad HXS.out (rowB_no1 (r := k) hin))
          go_wp2_with (first | (go_at_call 30; refine (within_any _ _ _ _).mono ?_; rw [hin]; rintro e w2 ⟨rfl, rfl⟩))
          go_ret
          exact ⟨by rw [HV.out]; rfl, HB2.out⟩
        · cases hbad : badB k xs
          · have HV := Lib.hid (show rowB k xs = true by rw [badB_row hin, hbad]; rfl)
            go_wp2_with (first | (go_at_call 30; refine (within_any _ _ _ _).mono ?_; rw [hin]; rintro e w2 ⟨rfl, rfl⟩) | (go_at_call 34; refine (iWinContains_any xa xs.length xc xs k wr.heap.size _ HR2.out (by omega) (by omega) HX.out HG.out).mono ?_; rw [hbad]; rintro e w2 ⟨rfl, rfl⟩))
            go_roundw
            case rel =>
              refine ⟨k + 1, by omega, by go_num, (fun j y hj hy => ?_), HBel2.out⟩
              rcases Nat.lt_or_ge j k with h1 | h1
              · exact hgood.out j y h1 hy
              · obtain rfl : j = k := by omega
                rw [HXS.out] at hy
                obtain rfl := Option.some.inj hy
                exact HV.out
            case measure => simp [intOf]; omega
          · have HV := Lib.hid (winB_bad HXS.out (show rowB k xs = false by rw [badB_row hin, hbad]; rfl))
            go_wp2_with (first | (go_at_call 30; refine (within_any _ _ _ _).mono ?_; rw [hin]; rintro e w2 ⟨rfl, rfl⟩) | (go_at_call 34; refine (iWinContains_any xa xs.length xc xs k wr.heap.size _ HR2.out (by omega) (by omega) HX.out HG.out).mono ?_; rw [hbad]; rintro e w2 ⟨rfl, rfl⟩))
            go_ret
            exact ⟨by rw [HV.out]; rfl, HB2.out⟩
      · obtain rfl : k = n := by omega
        have HV := Lib.hid (winB_good (xss := xss) (by rw [HL.out]; exact hn8) (fun r ys hy => hgood.out r ys (by have := (List.getElem?_eq_some_iff.1 hy).1; rw [HL.out] at this; exact this) hy))
        have HBel := Lib.hid hbel
        clear hbel
        go_wp2_with fail
        go_ret
        exact ⟨by rw [HV.out]; rfl, HB1.out.trans (HBel.out.mono HB1.out.size)⟩
  · have HV := Lib.hid (winB_long (xss := xss) (by rw [HL.out]; exact hn8))
    go_enter Try.func15, Try.ntmps15
    go_wp2_with fail
    go_ret
    exact ⟨by rw [HV.out]; rfl, HB1.out⟩

end Go.Proofs.Ytnljlehbjdambaa
