/-
  The draws of the cut test, of weights and of subsets: each returns some numbers and leaves old memory as it was.
-/
import Derived.Test.YtfdpfeaegcfglaaDraw
import Derived.Test.YtfdpfeaegcfglaaBinom
namespace Go.Proofs.Ytfdpfeaegcfglaa
open Go.RowKit
set_option linter.unusedSimpArgs false
set_option linter.unusedVariables false

theorem l1Min_some (a b : Int) (w : World) : Calls Try.prog 58 #[.int .i64 a, .int .i64 b] w fun e w' => (∃ x : Int, e = .returned (.int .i64 x)) ∧ w = w' := (l1Min_any a b w).mono fun _ _ ⟨h1, h2⟩ => ⟨⟨_, h1⟩, h2⟩
theorem l1Max_some (a b : Int) (w : World) : Calls Try.prog 60 #[.int .i64 a, .int .i64 b] w fun e w' => (∃ x : Int, e = .returned (.int .i64 x)) ∧ w = w' := (l1Max_any a b w).mono fun _ _ ⟨h1, h2⟩ => ⟨⟨_, h1⟩, h2⟩
/-- A pick from a list that is written out. -/
theorem pickLit (g : Nat) (A : Option Addr) (n c m : Nat) (bs xs : List Int) (w : World) (cs : Array Value) (T : TypeId) (hcs : cs.toList = xs.map (Value.int .i64)) (hm : xs.length = m) (h0 : 0 < m) (h1 : m ≤ 1000)
    (hu : ∀ z ∈ bs, 0 ≤ z ∧ z ≤ 255) (hn : n ≤ 1073741824) (h : Cur w g A n c bs) :
    Calls Try.prog 57 #[.pointer (some ⟨g, 0, none⟩), .slice (some ⟨w.heap.size, 0, none⟩) m m] (w.alloc (.cells cs T)) (PickR g A n c bs xs w) := by
  have hb := below_alloc1 (w := w) (.cells cs T)
  have hx : Rd (w.alloc (.cells cs T)) (some ⟨w.heap.size, 0, none⟩) m (xs.map (Value.int .i64)) := by
    refine ⟨by simpa using hm, fun _ => ⟨w.heap.size, 0, rfl, by simp, fun j v hv => ?_⟩⟩
    rw [← hcs] at hv
    have := (Bx.new w T cs).cells j
    rw [Nat.zero_add, this]
    simpa using hv
  have hlt := h.lt
  refine (l1PickInt_any g A _ n c m m bs xs _ hu hn (h.below hb (Nat.le_refl _)) hx (fun a ha => ?_) h0 h1).mono ?_
  · obtain rfl : (⟨w.heap.size, 0, none⟩ : Addr) = a := by simpa using ha
    simp only
    omega
  · rintro e w' ⟨x, rfl, hx, hc, ho⟩
    exact ⟨x, rfl, hx, hc, (Only.of_below hb (Nat.le_refl _)).trans ho⟩

theorem l17Sure_any (g : Nat) (A : Option Addr) (n c : Nat) (bs : List Int) (w : World) (hu : ∀ z ∈ bs, 0 ≤ z ∧ z ≤ 255) (hn : n ≤ 1073741824) (h : Cur w g A n c bs) :
    Calls Try.prog 61 #[.pointer (some ⟨g, 0, none⟩)] w (PickR g A n c bs [1, 1, 2, 3, 5, 9, 0, 10] w) := by
  have HC := Lib.hid h
  have HU := Lib.hid hu
  clear h hu
  go_enter Try.func61, Try.ntmps61
  go_wp2_with fail
  refine (pickLit g A n c 8 bs [1, 1, 2, 3, 5, 9, 0, 10] _ _ _ rfl rfl (by omega) (by omega) HU.out hn HC.out).mono ?_
  rintro e w1 ⟨x, rfl, hx, hc1, ho1⟩
  have HC1 := Lib.hid hc1; have HO1 := Lib.hid ho1; have HX := Lib.hid hx
  clear hc1 ho1 hx
  go_wp2_with fail
  go_ret
  exact ⟨x, rfl, HX.out, HC1.out, HO1.out⟩

theorem l14Lambda_any (g : Nat) (A : Option Addr) (n c : Nat) (bs : List Int) (w : World) (hu : ∀ z ∈ bs, 0 ≤ z ∧ z ≤ 255) (hn : n ≤ 1073741824) (h : Cur w g A n c bs) :
    Calls Try.prog 67 #[.pointer (some ⟨g, 0, none⟩)] w (PickR g A n c bs [1, 6, 1, 6, 1, 6, 0, 2, -1] w) := by
  have HC := Lib.hid h
  have HU := Lib.hid hu
  clear h hu
  go_enter Try.func67, Try.ntmps67
  go_wp2_with fail
  refine (pickLit g A n c 9 bs [1, 6, 1, 6, 1, 6, 0, 2, -1] _ _ _ rfl rfl (by omega) (by omega) HU.out hn HC.out).mono ?_
  rintro e w1 ⟨x, rfl, hx, hc1, ho1⟩
  have HC1 := Lib.hid hc1; have HO1 := Lib.hid ho1; have HX := Lib.hid hx
  clear hc1 ho1 hx
  go_wp2_with fail
  go_ret
  exact ⟨x, rfl, HX.out, HC1.out, HO1.out⟩

set_option maxRecDepth 20000 in
set_option maxHeartbeats 4000000 in
theorem sDrawCutHere_any (A : Option Addr) (n c : Nat) (bs : List Int) (w : World) (h : Rd w A n (bs.map (Value.int .u8))) (hu : ∀ z ∈ bs, 0 ≤ z ∧ z ≤ 255) (hn : n ≤ 1073741824) :
    Calls Try.prog 16 #[.slice A n c] w fun e w' => ∃ a b m d k : Int, e = .returned (.tuple #[.int .i64 a, .int .i64 b, .int .i64 m, .int .i64 d, .int .i64 k]) ∧ Below w.heap.size w w' := by
  have HR := Lib.hid h
  have HU := Lib.hid hu
  clear h hu
  go_enter Try.func16, Try.ntmps16
  go_wp2_with fail
  refine (l1New_any A n c bs _ HR.out HU.out hn).mono ?_
  rintro e v0 ⟨g, rfl, hg, hc, hb⟩
  have HB := Lib.hid hb
  have HC := Lib.hid hc
  clear hb hc
  go_wp2_with fail
  refine (pickLit g A n c 8 bs [5, 4, 20, 300, 1000, 1001, -1, 9223372036854775807] _ _ _ rfl rfl (by omega) (by omega) HU.out hn HC.out).mono ?_
  rintro e v1 ⟨x1, rfl, _, hc, ho⟩
  have HO1 := Lib.hid ho
  have HC1 := Lib.hid hc
  clear hc ho HC
  go_wp2_with fail
  refine (pickLit g A n c 6 bs [5, 4, 12, 300, 1000, 1001] _ _ _ rfl rfl (by omega) (by omega) HU.out hn HC1.out).mono ?_
  rintro e v2 ⟨x2, rfl, _, hc, ho⟩
  have HO2 := Lib.hid (HO1.out.trans ho)
  clear HO1
  have HC2 := Lib.hid hc
  clear hc ho HC1
  go_wp2_with fail
  refine (l1Min_some x1 1000 _).mono ?_
  rintro e _ ⟨⟨m1, rfl⟩, rfl⟩
  go_wp2_with fail
  refine (l1Max_some x1 1 _).mono ?_
  rintro e _ ⟨⟨m2, rfl⟩, rfl⟩
  go_wp2_with fail
  refine (l1Min_some m2 1000 _).mono ?_
  rintro e _ ⟨⟨m3, rfl⟩, rfl⟩
  go_wp2_with fail
  refine (l1Below_any g A n c bs _ _ HU.out hn HC2.out).mono ?_
  rintro e v3 ⟨x3, rfl, _, hc, ho⟩
  have HO3 := Lib.hid (HO2.out.trans ho)
  clear HO2
  have HC3 := Lib.hid hc
  clear hc ho HC2
  go_wp2_with fail
  refine (pickLit g A n c 5 bs [0, _, -1, 3, x3] _ _ _ rfl rfl (by omega) (by omega) HU.out hn HC3.out).mono ?_
  rintro e v4 ⟨x4, rfl, _, hc, ho⟩
  have HO4 := Lib.hid (HO3.out.trans ho)
  clear HO3
  have HC4 := Lib.hid hc
  clear hc ho HC3
  go_wp2_with fail
  refine (l1Below_any g A n c bs _ _ HU.out hn HC4.out).mono ?_
  rintro e v5 ⟨x5, rfl, _, hc, ho⟩
  have HO5 := Lib.hid (HO4.out.trans ho)
  clear HO4
  have HC5 := Lib.hid hc
  clear hc ho HC4
  go_wp2_with fail
  refine (pickLit g A n c 5 bs [0, x2, _, 5, x5] _ _ _ rfl rfl (by omega) (by omega) HU.out hn HC5.out).mono ?_
  rintro e v6 ⟨x6, rfl, _, hc, ho⟩
  have HO6 := Lib.hid (HO5.out.trans ho)
  clear HO5
  have HC6 := Lib.hid hc
  clear hc ho HC5
  go_wp2_with fail
  refine (l17Sure_any g A n c bs _ HU.out hn HC6.out).mono ?_
  rintro e v7 ⟨x7, rfl, _, hc, ho⟩
  have HO7 := Lib.hid (HO6.out.trans ho)
  clear HO6
  have HC7 := Lib.hid hc
  clear hc ho HC6
  go_wp2_with fail
  refine bodyPost_ret (v := .tuple #[.int .i64 x1, .int .i64 x4, .int .i64 x2, .int .i64 x6, .int .i64 x7]) (by simp [results, Try.results16, go_sem]) rfl ⟨x1, x4, x2, x6, x7, rfl, HB.out.trans (HO7.out.below hg HB.out.size)⟩

set_option maxRecDepth 20000 in
set_option maxHeartbeats 4000000 in
theorem sDrawWeightOf_any (A : Option Addr) (n c : Nat) (bs : List Int) (w : World) (h : Rd w A n (bs.map (Value.int .u8))) (hu : ∀ z ∈ bs, 0 ≤ z ∧ z ≤ 255) (hn : n ≤ 1073741824) :
    Calls Try.prog 30 #[.slice A n c] w fun e w' => ∃ a b : Int, e = .returned (.tuple #[.int .i64 a, .int .i64 b]) ∧ Below w.heap.size w w' := by
  have HR := Lib.hid h
  have HU := Lib.hid hu
  clear h hu
  go_enter Try.func30, Try.ntmps30
  go_wp2_with fail
  refine (l1New_any A n c bs _ HR.out HU.out hn).mono ?_
  rintro e v0 ⟨g, rfl, hg, hc, hb⟩
  have HB := Lib.hid hb
  have HC := Lib.hid hc
  clear hb hc
  go_wp2_with fail
  refine (l14Lambda_any g A n c bs _ HU.out hn HC.out).mono ?_
  rintro e v1 ⟨x1, rfl, _, hc, ho⟩
  have HO1 := Lib.hid ho
  have HC1 := Lib.hid hc
  clear hc ho HC
  go_wp2_with fail
  refine (l1Below_any g A n c bs 65536 _ HU.out hn HC1.out).mono ?_
  rintro e v2 ⟨x2, rfl, _, hc, ho⟩
  have HO2 := Lib.hid (HO1.out.trans ho)
  clear HO1
  have HC2 := Lib.hid hc
  clear hc ho HC1
  go_wp2_with fail
  refine (l1Below_any g A n c bs 65536 _ HU.out hn HC2.out).mono ?_
  rintro e v3 ⟨x3, rfl, _, hc, ho⟩
  have HO3 := Lib.hid (HO2.out.trans ho)
  clear HO2
  have HC3 := Lib.hid hc
  clear hc ho HC2
  go_wp2_with fail
  refine (pickLit g A n c 12 bs [0, 161, 162, 24108, 24109, 65529, 65530, 65535, 65536, -1, x2, x3] _ _ _ rfl rfl (by omega) (by omega) HU.out hn HC3.out).mono ?_
  rintro e v4 ⟨x4, rfl, _, hc, ho⟩
  have HO4 := Lib.hid (HO3.out.trans ho)
  clear HO3
  have HC4 := Lib.hid hc
  clear hc ho HC3
  go_wp2_with fail
  refine bodyPost_ret (v := .tuple #[.int .i64 x1, .int .i64 x4]) (by simp [results, Try.results30, go_sem]) rfl ⟨x1, x4, rfl, HB.out.trans (HO4.out.below hg HB.out.size)⟩

set_option maxRecDepth 20000 in
set_option maxHeartbeats 4000000 in
theorem sDrawSubsetAt_any (A : Option Addr) (n c : Nat) (bs : List Int) (w : World) (h : Rd w A n (bs.map (Value.int .u8))) (hu : ∀ z ∈ bs, 0 ≤ z ∧ z ≤ 255) (hn : n ≤ 1073741824) :
    Calls Try.prog 27 #[.slice A n c] w fun e w' => ∃ a b d : Int, e = .returned (.tuple #[.int .i64 a, .int .i64 b, .int .i64 d]) ∧ Below w.heap.size w w' := by
  have HR := Lib.hid h
  have HU := Lib.hid hu
  clear h hu
  go_enter Try.func27, Try.ntmps27
  go_wp2_with fail
  refine (l1New_any A n c bs _ HR.out HU.out hn).mono ?_
  rintro e v0 ⟨g, rfl, hg, hc, hb⟩
  have HB := Lib.hid hb
  have HC := Lib.hid hc
  clear hb hc
  go_wp2_with fail
  refine (l1Below_any g A n c bs 21 _ HU.out hn HC.out).mono ?_
  rintro e v1 ⟨x1, rfl, _, hc, ho⟩
  have HO1 := Lib.hid ho
  have HC1 := Lib.hid hc
  clear hc ho HC
  go_wp2_with fail
  refine (l1Below_any g A n c bs 9 _ HU.out hn HC1.out).mono ?_
  rintro e v2 ⟨x2, rfl, _, hc, ho⟩
  have HO2 := Lib.hid (HO1.out.trans ho)
  clear HO1
  have HC2 := Lib.hid hc
  clear hc ho HC1
  go_wp2_with fail
  refine (pickLit g A n c 6 bs [1, 5, 20, 21, x1, x2] _ _ _ rfl rfl (by omega) (by omega) HU.out hn HC2.out).mono ?_
  rintro e v3 ⟨x3, rfl, _, hc, ho⟩
  have HO3 := Lib.hid (HO2.out.trans ho)
  clear HO2
  have HC3 := Lib.hid hc
  clear hc ho HC2
  go_wp2_with fail
  refine (l1Below_any g A n c bs 21 _ HU.out hn HC3.out).mono ?_
  rintro e v4 ⟨x4, rfl, _, hc, ho⟩
  have HO4 := Lib.hid (HO3.out.trans ho)
  clear HO3
  have HC4 := Lib.hid hc
  clear hc ho HC3
  go_wp2_with fail
  refine (pickLit g A n c 6 bs [0, 1, 2, _, x3, x4] _ _ _ rfl rfl (by omega) (by omega) HU.out hn HC4.out).mono ?_
  rintro e v5 ⟨x5, rfl, _, hc, ho⟩
  have HO5 := Lib.hid (HO4.out.trans ho)
  clear HO4
  have HC5 := Lib.hid hc
  clear hc ho HC4
  go_wp2_with fail
  refine (sBinomial_any x3 x5 _).mono ?_
  rintro e v ⟨rfl, hb⟩
  have ho := Only.of_below (l := g) (h := g + 1) hb (Nat.le_refl _)
  have hc := HC5.out.below hb (Nat.le_refl _)
  clear hb
  have HO6 := Lib.hid (HO5.out.trans ho)
  have HC6 := Lib.hid hc
  clear hc ho HO5 HC5
  go_wp2_with fail
  refine (l1Below_any g A n c bs _ _ HU.out hn HC6.out).mono ?_
  rintro e v7 ⟨y1, rfl, _, hc, ho⟩
  have HO7 := Lib.hid (HO6.out.trans ho)
  clear HO6
  have HC7 := Lib.hid hc
  clear hc ho HC6
  go_wp2_with fail
  refine (l1Below_any g A n c bs _ _ HU.out hn HC7.out).mono ?_
  rintro e v8 ⟨y2, rfl, _, hc, ho⟩
  have HO8 := Lib.hid (HO7.out.trans ho)
  clear HO7
  have HC8 := Lib.hid hc
  clear hc ho HC7
  go_wp2_with fail
  refine (l1Below_any g A n c bs _ _ HU.out hn HC8.out).mono ?_
  rintro e v9 ⟨y3, rfl, _, hc, ho⟩
  have HO9 := Lib.hid (HO8.out.trans ho)
  clear HO8
  have HC9 := Lib.hid hc
  clear hc ho HC8
  go_wp2_with fail
  refine (pickLit g A n c 7 bs [0, _, _, -1, y1, y2, y3] _ _ _ rfl rfl (by omega) (by omega) HU.out hn HC9.out).mono ?_
  rintro e v10 ⟨y4, rfl, _, hc, ho⟩
  have HO10 := Lib.hid (HO9.out.trans ho)
  clear HO9
  have HC10 := Lib.hid hc
  clear hc ho HC9
  go_wp2_with fail
  refine bodyPost_ret (v := .tuple #[.int .i64 x3, .int .i64 x5, .int .i64 y4]) (by simp [results, Try.results27, go_sem]) rfl ⟨x3, x5, y4, rfl, HB.out.trans (HO10.out.below hg HB.out.size)⟩

end Go.Proofs.Ytfdpfeaegcfglaa
