/-
  Proved: laws.FnExactTapeLeft returns true for every tape. Conditions: none.
-/
import Derived.Test.YtccohhhnfaidhaaTapeLeft
import Derived.Test.YtccohhhnfaidhaaOpen
namespace Go.Proofs.Ytccohhhnfaidhaa
open Go.ChangeShapes Go.WideShapes Go.ChangeAt Go.RowKit Go.Deep
namespace LawTapeLeft
set_option linter.unusedSimpArgs false
set_option linter.unusedVariables false
/-- toTape, read from an earlier world on. -/
theorem to (A : Option Addr) (n c : Nat) (xs : List Int) (i : Int) (w W0 : World) (B : Nat) (h : Rd w A n (xs.map (Value.int .u8))) (hn : n ≤ 1073741824) (hB : Below B W0 w) (hs : B ≤ W0.heap.size) :
    Calls Try.prog 34 #[.agg #[.slice A n c, .int .i64 i]] w fun e w' => (∃ g, e = .returned (.agg #[.slice (some ⟨g, 0, none⟩) n n, .int .i64 i]) ∧ w'.ownsRow w.heap.size 5 1 (.slice (some ⟨g, 0, none⟩) n n) n (xs.map (Value.int .u8))) ∧ Below B W0 w' :=
  lift ((toTape_any A n c xs i w h hn).mono fun _ _ ⟨g, h1, h2, h3⟩ => ⟨⟨g, h1, h2⟩, h3⟩) hB hs

set_option maxHeartbeats 1000000 in
theorem walk (w : World) (A : Option Addr) (n c : Nat) (xs : List Int) (i : Int) (hl : n ≤ c) (hm : c ≤ maxLen) (hr : Rd w A n (xs.map (Value.int .u8))) (_ : ∀ z ∈ xs, (Lit.int .u8 z).wf = true) (_ : (Lit.int .i64 i).wf = true) :
    Calls Try.prog 12 #[.agg #[.slice A n c, .int .i64 i]] w fun e w' => e = .returned (.bool true) ∧ Below w.heap.size w w' := by
  unfold maxLen at hm
  have HR := Lib.hid hr
  clear hr
  have HB := Lib.hid (Below.refl (w.heap.size + 1) (w.alloc (.cells #[.slice A n c, .int .i64 i] 40)))
  have HS := Lib.hid (show w.heap.size + 1 ≤ (w.alloc (.cells #[.slice A n c, .int .i64 i] 40)).heap.size by simp)
  by_cases hn : n ≤ 1048576
  · have HZ := Lib.hid (show szI 1048576 n = 1048576 - n by unfold szI; rw [if_neg (by omega)])
    go_enter Try.func12, Try.ntmps12
    go_wp2_with fail
    refine (lift (szTape_any A n c i 1048576 (by omega) (by omega) (by omega) _) HB.out HS.out).mono ?_
    rw [HZ.out]
    rintro e w1 ⟨rfl, b1⟩
    obtain ⟨bc1, bf1, bz1⟩ := bcell b1
    go_wp2_with fail
    refine (to A n c xs i w1 _ _ (HR.out.below (fin_below b1 (by go_grown) (by omega)) (Nat.le_refl _)) (by omega) b1 HS.out).mono ?_
    rintro e w2 ⟨⟨g, rfl, o2⟩, b2⟩
    clear bc1 bf1 b1
    obtain ⟨bc2, bf2, bz2⟩ := bcell b2
    go_wp2_with fail
    refine (lift (sTapeLeft_any _ _ _ _ _) b2 HS.out).mono ?_
    rintro e w3 ⟨rfl, b3⟩
    clear bc2 bf2 b2 o2
    obtain ⟨bc3, bf3, bz3⟩ := bcell b3
    go_wp2_with fail
    refine (to A n c xs i w3 _ _ (HR.out.below (fin_below b3 (by go_grown) (by omega)) (Nat.le_refl _)) (by omega) b3 HS.out).mono ?_
    rintro e w4 ⟨⟨g', rfl, o4⟩, b4⟩
    clear bc3 bf3 b3
    have HB4 := Lib.hid (Below.refl (w4.heap.size + 1) (w4.alloc (.cells #[.slice (some ⟨g', 0, none⟩) n n, .int .i64 i] 43)))
    go_wp2_with fail
    refine (lift (iTapeLeft_any _ _ _ _ _) HB4.out (by simp)).mono ?_
    rintro e w5 ⟨rfl, b5⟩
    obtain ⟨bc5, bf5, bz5⟩ := bcell b5
    simp only [World.size_alloc] at bz5
    have z4 := b4.size
    simp only [World.size_alloc] at z4
    have c00 : w5.cell? ⟨w.heap.size, 0, none⟩ = some (.slice A n c) := by
      rw [bc5 _ _ (by omega), World.cell?_alloc_lt _ _ _ (by show w.heap.size < _; omega), b4.cell (by show w.heap.size < _; omega)]; simp [go_sem]
    have c01 : w5.cell? ⟨w.heap.size, 1, none⟩ = some (.int .i64 i) := by
      rw [bc5 _ _ (by omega), World.cell?_alloc_lt _ _ _ (by show w.heap.size < _; omega), b4.cell (by show w.heap.size < _; omega)]; simp [go_sem]
    have c10 : w5.cell? ⟨w4.heap.size, 0, none⟩ = some (.slice (some ⟨g', 0, none⟩) n n) := by rw [bc5 _ _ (by omega)]; simp [go_sem]
    have c11 : w5.cell? ⟨w4.heap.size, 1, none⟩ = some (.int .i64 i) := by rw [bc5 _ _ (by omega)]; simp [go_sem]
    have R5 := Lib.hid (Rd.of_own (own_below (o4.alloc (.cells #[.slice (some ⟨g', 0, none⟩) n n, .int .i64 i] 43)) b5 (by simp)))
    have B5 := Lib.hid (fin_below (b4.trans (fin_below b5 ((Below.refl _ _).alloc (by omega) _) (by omega))) (B := w.heap.size) (w := w) (by go_grown) (by omega))
    have l0 := lt_of_cell c00
    have l1 := lt_of_cell c10
    clear bc5 bf5 b5 b4 o4
    go_wp2_with fail
    go_region_held3 (fun w' => w'.cell? ⟨w.heap.size, 0, none⟩ = some (.slice A n c) ∧ w'.cell? ⟨w.heap.size, 1, none⟩ = some (.int .i64 i) ∧ w'.cell? ⟨w4.heap.size, 0, none⟩ = some (.slice (some ⟨g', 0, none⟩) n n) ∧ w'.cell? ⟨w4.heap.size, 1, none⟩ = some (.int .i64 i) ∧ Below w5.heap.size w5 w')
      (first
        | exact ⟨c00, c01, c10, c11, (Below.refl _ _).drew⟩
        | exact ⟨(Below.cell (p := ⟨w.heap.size, 0, none⟩) b7 l0).trans c00, (Below.cell (p := ⟨w.heap.size, 1, none⟩) b7 l0).trans c01, (Below.cell (p := ⟨w4.heap.size, 0, none⟩) b7 l1).trans c10, (Below.cell (p := ⟨w4.heap.size, 1, none⟩) b7 l1).trans c11, b7⟩
        | exact ⟨(Below.cell (p := ⟨w.heap.size, 0, none⟩) b6 l0).trans c00, (Below.cell (p := ⟨w.heap.size, 1, none⟩) b6 l0).trans c01, (Below.cell (p := ⟨w4.heap.size, 0, none⟩) b6 l1).trans c10, (Below.cell (p := ⟨w4.heap.size, 1, none⟩) b6 l1).trans c11, b6⟩)
      (first
        | (go_at_call 34; go_split_ands; refine (to A n c xs i _ w5 w5.heap.size (HR.out.below (B5.out.trans (Below.mono (by assumption) B5.out.size)) (Nat.le_refl _)) (by omega) (by assumption) (Nat.le_refl _)).mono ?_; rintro e w' ⟨⟨g2, rfl, o6⟩, b6⟩)
        | (go_at_call 36; refine (lift (eqTape_same _ _ _ _ _ xs i _ (R5.out.below (by assumption) (Nat.le_refl _)) (Rd.of_own o6) (by omega)) (by assumption) (Nat.le_refl _)).mono ?_; rintro e w' ⟨rfl, b7⟩))
    go_wp2_with fail
    go_ret
    exact ⟨rfl, B5.out.trans (b7.mono B5.out.size)⟩
  · have HZ := Lib.hid (show szI 1048576 n = -1 by unfold szI; rw [if_pos (by omega)])
    go_enter Try.func12, Try.ntmps12
    go_wp2_with fail
    refine (lift (szTape_any A n c i 1048576 (by omega) (by omega) (by omega) _) HB.out HS.out).mono ?_
    rw [HZ.out]
    rintro e w1 ⟨rfl, b1⟩
    go_wp2_with fail
    go_ret
    exact ⟨rfl, fin_below b1 (by go_grown) (by omega)⟩

theorem walks : Walks 12 Try.f12 := by
  intro H enc W base args ds ps hval hA _
  rw [Try.params12] at hA hval
  obtain ⟨v0, vs0, d0, ds0, p0, q0, hargs, rfl, rfl, h0, r0⟩ := trodAll_cons hA
  obtain ⟨rfl, rfl, rfl⟩ := trodAll_nil r0
  obtain rfl : args = #[v0] := by cases args; simp_all
  obtain ⟨cs0, rfl, hl0, nn0, hf0⟩ := open_agg Try.underlying40 (by kernel_rfl) (by kernel_rfl) (hval 0 40 v0 rfl rfl) h0
  obtain ⟨c0_0, _, e0_0, y0_0⟩ := hf0 0 _ rfl
  obtain ⟨c0_1, _, e0_1, y0_1⟩ := hf0 1 _ rfl
  obtain ⟨a0_0, a0_1, rfl⟩ : ∃ a0_0 a0_1, cs0 = [a0_0, a0_1] := by
    match cs0, hl0 with
    | [a0, a1], _ => exact ⟨a0, a1, rfl⟩
  simp only [List.getElem?_cons_zero, List.getElem?_cons_succ, Option.some.injEq] at e0_0 e0_1
  subst e0_0 e0_1
  obtain ⟨A0_0, n0_0, c0_0, x0_0, rfl, hl0_0, hm0_0, hr0_0, w0_0⟩ := open_ints_rd Try.underlying38 (by kernel_rfl) Try.underlying5 y0_0
  obtain ⟨x0_1, rfl, w0_1⟩ := field_int Try.underlying3 y0_1
  exact walk (w := W) A0_0 n0_0 c0_0 x0_0 x0_1 hl0_0 hm0_0 hr0_0 w0_0 w0_1

set_option maxRecDepth 100000 in
theorem lifted (os : Os) (started : os.Started) (H : Type) (enc : TypeId × Value → H) :
    ReturnsInHanded {} Try.checked os 12 .any (Rows.fnExactTapeLeftSpec.pre6 enc Try.prog Try.f12 Rows.fnExactTapeLeftRow.domain false) (Rows.fnExactTapeLeftSpec.post enc Try.prog Try.f12 false true false false) :=
  law_lifted started (by kernel_rfl) Try.func12
    (ChangeSpec.witness6 (enc := enc) (C := Try.checked) false ⟨#[], #[.agg #[.slice none 0 0, .int .i64 0]], []⟩ 8 (by kernel_rfl) (by kernel_rfl) (by kernel_rfl) (by kernel_rfl))
    rfl rfl Try.underlying4 (fun ds h => match ds, h with | [_], _ => rfl) (by
      rw [Try.params12]
      intro t ht
      simp only [List.mem_cons, List.not_mem_nil, or_false] at ht
      subst ht
      exact ⟨by kernel_rfl, of_decide_eq_true (by kernel_rfl)⟩) walks

theorem over : Rows.fnExactTapeLeftRow.holds Try.pinned (OpenSpec.ofChange Rows.fnExactTapeLeftSpec) :=
  OpenClaim.holds_of_wide 12 Try.f12 rfl rfl rfl rfl rfl rfl rfl ⟨rfl, rfl, rfl, rfl, rfl⟩ rfl rfl rfl rfl rfl (by kernel_rfl) Try.func12 (by kernel_rfl)
    (of_decide_eq_true (by kernel_rfl)) (by unfold Func.isWrapper; first | (rw [if_pos (by decide +kernel)]; kernel_rfl) | (rw [if_neg (by decide +kernel)]; exact ⟨rfl, rfl⟩))
    (fun os started H enc _ => lifted os started H enc)

theorem proved : Rows.FnExactTapeLeftSaid := over
#print axioms proved

end LawTapeLeft
end Go.Proofs.Ytccohhhnfaidhaa
