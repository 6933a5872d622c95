/-
  Proved: laws.FnExactRankAt returns true for every number and list. Conditions: none.
-/
import Derived.Test.YtfdpfeaegcfglaaRank
import Derived.Test.YtfdpfeaegcfglaaInts
import Derived.Test.YtfdpfeaegcfglaaObj
import Derived.Test.YtfdpfeaegcfglaaOpen
namespace Go.Proofs.Ytfdpfeaegcfglaa
open Go.ChangeShapes Go.WideShapes Go.ChangeAt Go.RowKit Go.Deep
namespace LawRankAt
set_option linter.unusedSimpArgs false
set_option linter.unusedVariables false
set_option maxHeartbeats 2000000 in
theorem walk_yes (w : World) (m : Int) (A : Option Addr) (n c : Nat) (xs : List Int) (HR : Hid (Rd w A n (xs.map (Value.int .i64)))) (hs : n ≤ 1048576) (hN : n ≤ 1073741824) : Calls Try.prog 4 #[.int .i64 m, .slice A n c] w fun e w' => e = .returned (.bool true) ∧ Below w.heap.size w w' := by
  have B0 := Below.refl w.heap.size w
  have s0 : w.heap.size ≤ w.heap.size := Nat.le_refl _
  go_enter Try.func4, Try.ntmps4
  go_wp2_with fail
  refine (toIntS_any A n c xs _ (HR.out.below B0 (Nat.le_refl _)) hN).mono ?_
  rintro e w1 ⟨rfl, o, b⟩
  have t_1 := b.size
  have z_1 : w.heap.size ≤ w1.heap.size := by omega
  have B_1 := B0.trans (b.mono (by omega))
  clear B0 b
  have a_1 := Ow.of o
  clear o
  go_wp2_with fail
  refine (sRankAt_any m _ n _ xs _ a_1.rd hN).mono ?_
  rintro e w2 ⟨rfl, b⟩
  have t_3 := b.size
  have z_3 : w.heap.size ≤ w2.heap.size := by omega
  have a_4 := a_1.same (same_below b (by omega))
  clear a_1
  have B_3 := B_1.trans (b.mono (by omega))
  clear B_1 b
  clear a_4
  go_wp2_with fail
  refine (toIntS_any A n c xs _ (HR.out.below B_3 (Nat.le_refl _)) hN).mono ?_
  rintro e w3 ⟨rfl, o, b⟩
  have t_5 := b.size
  have z_5 : w.heap.size ≤ w3.heap.size := by omega
  have B_5 := B_3.trans (b.mono (by omega))
  clear B_3 b
  have x_5 := Ow.of o
  clear o
  go_wp2_with fail
  refine (iRankAt_any m _ n _ xs _ x_5.rd hN).mono ?_
  rintro e w4 ⟨rfl, b⟩
  have t_7 := b.size
  have z_7 : w.heap.size ≤ w4.heap.size := by omega
  have x_8 := x_5.same (same_below b (by omega))
  clear x_5
  have B_7 := B_5.trans (b.mono (by omega))
  clear B_5 b
  go_wp2_with fail
  refine (toIntS_any A n c xs _ (HR.out.below B_7 (Nat.le_refl _)) hN).mono ?_
  rintro e w5 ⟨rfl, o, b⟩
  have t_9 := b.size
  have z_9 : w.heap.size ≤ w5.heap.size := by omega
  have x_10 := x_8.same (same_below b (by omega))
  clear x_8
  have B_9 := B_7.trans (b.mono (by omega))
  clear B_7 b
  have a_9 := Ow.of o
  clear o
  go_wp2_with fail
  refine (eqIntS_same _ _ n _ _ xs _ x_10.rd a_9.rd hN).mono ?_
  rintro e w6 ⟨rfl, b⟩
  have t_11 := b.size
  have z_11 : w.heap.size ≤ w6.heap.size := by omega
  have x_12 := x_10.same (same_below b (by omega))
  clear x_10
  have a_12 := a_9.same (same_below b (by omega))
  clear a_9
  have B_11 := B_9.trans (b.mono (by omega))
  clear B_9 b
  go_wp2_with fail
  go_ret
  exact ⟨rfl, B_11⟩

theorem walk (w : World) (m : Int) (A : Option Addr) (n c : Nat) (xs : List Int) (_ : (Lit.int .i64 m).wf = true) (hl : n ≤ c) (hm : c ≤ maxLen) (hr : Rd w A n (xs.map (Value.int .i64))) (_ : ∀ z ∈ xs, (Lit.int .i64 z).wf = true) : Calls Try.prog 4 #[.int .i64 m, .slice A n c] w fun e w' => e = .returned (.bool true) ∧ Below w.heap.size w w' := by
  unfold maxLen at hm
  have HR := Lib.hid hr
  clear hr
  have hs : n ≤ 9223372036854775807 := by omega
  clear hm hl
  by_cases hn : n ≤ 1048576
  · exact walk_yes w m A n c xs HR hn (by omega)
  · go_enter Try.func4, Try.ntmps4
    go_wp2_with fail
    go_ret
    exact ⟨rfl, Below.refl _ _⟩

theorem walks : Walks 4 Try.f4 := by
  intro H enc W base args ds ps hval hA _
  rw [Try.params4] at hA hval
  obtain ⟨v0, vs0, d0, ds0, p0, q0, hargs, rfl, rfl, h0, r0⟩ := trodAll_cons hA
  obtain ⟨v1, vs1, d1, ds1, p1, q1, rfl, rfl, rfl, h1, r1⟩ := trodAll_cons r0
  obtain ⟨rfl, rfl, rfl⟩ := trodAll_nil r1
  obtain rfl : args = #[v0, v1] := by cases args; simp_all
  obtain ⟨a0, rfl, rfl, rfl, w0⟩ := open_int Try.underlying3 (hval 0 3 v0 rfl rfl) h0
  obtain ⟨f1, y1, z1⟩ := slice_cell Try.underlying27 (hval 1 27 v1 rfl rfl) h1
  obtain ⟨A1, n1, c1, a1, rfl, hl1, hm1, hr1, w1⟩ := open_ints_rd Try.underlying27 (by kernel_rfl) Try.underlying3 z1
  exact walk (w := W) a0 A1 n1 c1 a1 w0 hl1 hm1 hr1 w1

set_option maxRecDepth 100000 in
theorem lifted (os : Os) (started : os.Started) (H : Type) (enc : TypeId × Value → H) :
    ReturnsInHanded {} Try.checked os 4 .any (Rows.fnExactRankAtSpec.pre6 enc Try.prog Try.f4 Rows.fnExactRankAtRow.domain false) (Rows.fnExactRankAtSpec.post enc Try.prog Try.f4 false true false false) :=
  law_lifted started (by kernel_rfl) Try.func4
    (ChangeSpec.witness6 (enc := enc) (C := Try.checked) false ⟨#[], #[.int .i64 0, .slice none 0 0], []⟩ 8 (by kernel_rfl) (by kernel_rfl) (by kernel_rfl) (by kernel_rfl))
    rfl rfl Try.underlying4 (fun ds h => match ds, h with | [_, _], _ => rfl) (by
      rw [Try.params4]
      intro t ht
      simp only [List.mem_cons, List.not_mem_nil, or_false] at ht
      rcases ht with rfl | rfl <;> exact ⟨by kernel_rfl, of_decide_eq_true (by kernel_rfl)⟩) walks

theorem over : Rows.fnExactRankAtRow.holds Try.pinned (OpenSpec.ofChange Rows.fnExactRankAtSpec) :=
  OpenClaim.holds_of_wide 4 Try.f4 rfl rfl rfl rfl rfl rfl rfl ⟨rfl, rfl, rfl, rfl, rfl⟩ rfl rfl rfl rfl rfl (by kernel_rfl) Try.func4 (by kernel_rfl)
    (of_decide_eq_true (by kernel_rfl)) (by unfold Func.isWrapper; first | (rw [if_pos (by decide +kernel)]; kernel_rfl) | (rw [if_neg (by decide +kernel)]; exact ⟨rfl, rfl⟩))
    (fun os started H enc _ => lifted os started H enc)

theorem proved : Rows.FnExactRankAtSaid := over
#print axioms proved

end LawRankAt
end Go.Proofs.Ytfdpfeaegcfglaa
