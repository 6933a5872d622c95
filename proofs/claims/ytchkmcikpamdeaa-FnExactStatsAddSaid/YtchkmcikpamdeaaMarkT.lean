/-
  Marks as texts.
-/
import Derived.Test.YtchkmcikpamdeaaSchW
import Derived.Laws.BytesArg
namespace Go.Proofs.Ytchkmcikpamdeaa
open Go.RowKit
set_option linter.unusedSimpArgs false
set_option linter.unusedVariables false

set_option maxRecDepth 20000 in
set_option maxHeartbeats 1000000 in
theorem markText_any (k : Nat) (hk : k ≤ 1152921504606846976) (w : World) :
    Calls Try.prog 96 #[.int .i64 (k : Nat)] w fun e w' => (∃ s, e = .returned (.string s)) ∧ Below w.heap.size w w' := by
  by_cases h0 : k = 0
  · subst h0
    go_enter Try.func96, Try.ntmps96
    go_wp2_with fail
    go_ret
    exact ⟨⟨_, rfl⟩, Below.refl _ _⟩
  · have h1 : ¬ (k : Int) ≤ 0 := by omega
    go_enter Try.func96, Try.ntmps96
    go_wp2_with fail
    clear h1
    go_loopw [0, 3] (fun kk ss wr => ∃ (q : Int) (s : ByteArray), 0 ≤ q ∧ (s.size : Int) + q ≤ 1152921504606846976 ∧ kk = .int .i64 q ∧ ss = .string s ∧ Below w.heap.size w wr) (fun kk _ _ => (intOf kk).toNat)
    case atStart => exact ⟨(k : Nat), _, by omega, by simp [ByteArray.size]; omega, rfl, rfl, Below.refl _ _⟩
    case round =>
      obtain ⟨q, s, hq0, hq, rfl, rfl, hbel⟩ := hrel
      have HB := Lib.hid hbel
      clear hbel
      by_cases hp : 0 < q
      · obtain ⟨r, hr⟩ : ∃ r, q % 10 = r := ⟨_, rfl⟩
        obtain ⟨u, hu⟩ : ∃ u, q / 10 = u := ⟨_, rfl⟩
        have huq : 0 ≤ u ∧ u < q := by omega
        have hr9 : 0 ≤ r ∧ r ≤ 9 := by omega
        have m0 : Int.tmod q 10 = r := by rw [Int.tmod_eq_emod_of_nonneg hq0]; omega
        have m1 : IntKind.i64.wrap r = r := IntWalk.i64_in _ (by omega)
        have m2 : IntKind.i64.wrap (48 + r) = 48 + r := IntWalk.i64_in _ (by omega)
        have m3 : IntKind.u8.wrap (48 + r) = 48 + r := IntWalk.u8_in _ (by omega)
        have d0 : Int.tdiv q 10 = u := by rw [Int.tdiv_eq_ediv_of_nonneg hq0]; omega
        have d1 : IntKind.i64.wrap u = u := IntWalk.i64_in _ (by omega)
        have HB2 := Lib.hid (HB.out.alloc HB.out.size (.cells #[.int .u8 (48 + r)] 5))
        have hcv := run_convert_bytes_arg (P := Try.prog) (wr.alloc (.cells #[.int .u8 (48 + r)] 5)) 52 5 Try.underlying52 Try.underlying5 wr.heap.size 0 1 1 [48 + r] rfl (fun i hi => by
          obtain rfl : i = 0 := by omega
          exact (Bx.new wr 5 #[.int .u8 (48 + r)]).cells 0) 9 Try.underlying9
        obtain ⟨S, hS⟩ : ∃ S, strOfNums [48 + r] = S := ⟨_, rfl⟩
        rw [hS] at hcv
        have hs1 : S.size = 1 := by rw [← hS, strOfNums_size]; rfl
        have hsz : ¬ 9223372036854775807 < S.size + s.size := by omega
        clear hr hu hS
        go_wp2_with fail
        clear m0 m1 m2 m3 d0 d1 hcv
        go_roundw
        case rel => exact ⟨u, _, by omega, by rw [ByteArray.size_append]; omega, rfl, rfl, HB2.out⟩
        case measure => simp [intOf]; omega
      · obtain rfl : q = 0 := by omega
        have hsz : ¬ 9223372036854775807 < 1 + s.size := by omega
        go_wp2_with fail
        go_ret
        exact ⟨⟨_, rfl⟩, HB.out⟩

set_option maxHeartbeats 1000000 in
theorem markStringS_any (lo hi n c k : Nat) (A : Option Addr) (xs : List Value) (w : World) (h : Ow 9 lo hi w A n c xs) (hhi : hi ≤ w.heap.size) (hn : n ≤ 1073741824) (hk : k ≤ 1099511627776) :
    Calls Try.prog 63 #[.slice A n c, .int .i64 k] w fun e w' => e = .returned (.int .i64 ((k + n : Nat) : Int)) ∧ Only lo hi w w' ∧ ∃ ys, Ow 9 lo hi w' A n c ys := by
  have H := Lib.hid h
  clear h
  go_enter Try.func63, Try.ntmps63
  go_wp2_with fail
  go_loopw [1, 5] (fun kk i wr => ∃ (q : Nat) (ys : List Value), q ≤ n ∧ i = .int .i64 q ∧ kk = .int .i64 ((k + q : Nat) : Int) ∧ Ow 9 lo hi wr A n c ys ∧ Only lo hi w wr) (fun _ i _ => n - (intOf i).toNat)
  case atStart => exact ⟨0, xs, Nat.zero_le _, rfl, rfl, H.out, Only.refl _ _ _⟩
  case round =>
    obtain ⟨q, ys, hq, rfl, rfl, hown, ho⟩ := hrel
    have HO := Lib.hid ho
    have hsz := ho.size
    clear ho
    by_cases hlt : q < n
    · obtain ⟨g, cap, hv, _, hgl, _, _⟩ := own_form hown.own (by omega)
      simp only [Value.slice.injEq, true_and] at hv
      obtain ⟨rfl, rfl⟩ := hv
      have HOwn := Lib.hid hown
      clear hown
      have n0 : (q : Int) < (n : Int) := by omega
      obtain ⟨kq, hkq⟩ : ∃ kq, k + q = kq := ⟨_, rfl⟩
      rw [hkq]
      go_wp2_with fail
      refine (markText_any kq (by omega) wr).mono ?_
      rintro e w2 ⟨⟨s, rfl⟩, b⟩
      have hown2 := HOwn.out.same (same_below b (by omega))
      have hfr : w2.frozen? ⟨g, q, none⟩ = false := hown2.own.frozenAt q
      obtain ⟨old, hold⟩ : ∃ old, w2.cell? ⟨g, q, none⟩ = some old := ⟨_, by rw [hown2.own.cellAt q (by omega)]; exact List.getElem?_eq_getElem (by have := hown2.own.1; omega)⟩
      obtain ⟨hs1, hs2⟩ := hown2.own.stored q (Value.string s)
      have HN := Lib.hid (HO.out.trans ((Only.of_below (l := lo) (h := hi) b (Nat.le_refl _)).trans (Ow.only hown2 hs2)))
      have HOw := Lib.hid (show Ow 9 lo hi (w2.setCell ⟨g, q, none⟩ (Value.string s)) (some ⟨g, 0, none⟩) n _ _ from ⟨hs1, hown2.top⟩)
      clear hs1 hs2 hown2 HO HOwn b
      go_wp2_with fail
      go_roundw
      case rel => exact ⟨q + 1, _, by omega, by go_num, by rw [← Nat.add_assoc, hkq]; go_num, HOw.out, HN.out⟩
      case measure => simp [intOf]; omega
    · obtain rfl : q = n := by omega
      have HOw := Lib.hid hown
      clear hown
      go_wp2_with fail
      go_ret
      exact ⟨rfl, HO.out, ys, HOw.out⟩

end Go.Proofs.Ytchkmcikpamdeaa
