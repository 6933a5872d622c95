/-
  Proved: laws.FnExactGini returns true for every list. Conditions: none.
-/
import Derived.Test.YtfdpfeaegcfglaaGini
import Derived.Test.YtfdpfeaegcfglaaInts
import Derived.Test.YtfdpfeaegcfglaaObj
import Derived.Test.YtfdpfeaegcfglaaOpen
namespace Go.Proofs.Ytfdpfeaegcfglaa
open Go.ChangeShapes Go.WideShapes Go.ChangeAt Go.RowKit Go.Deep
namespace LawGini
set_option linter.unusedSimpArgs false
set_option linter.unusedVariables false
set_option maxHeartbeats 2000000 in
theorem walk_yes (w : World) (A : Option Addr) (n c : Nat) (xs : List Int) (HR : Hid (Rd w A n (xs.map (Value.int .i64)))) (hs : n ≤ 1048576) (hN : n ≤ 1073741824) : Calls Try.prog 12 #[.slice A n c] w fun e w' => e = .returned (.bool true) ∧ Below w.heap.size w w' := by
  have B0 := Below.refl w.heap.size w
  have s0 : w.heap.size ≤ w.heap.size := Nat.le_refl _
  go_enter Try.func12, Try.ntmps12
  go_wp2_with fail
  refine (toIntS_any A n c xs _ (HR.out.below B0 (Nat.le_refl _)) hN).mono ?_
  rintro e w1 ⟨rfl, o, b⟩
  have t_1 := b.size
  have z_1 : w.heap.size ≤ w1.heap.size := by omega
  have B_1 := B0.trans (b.mono (by omega))
  clear B0 b
  have a_1 := Ow.of o
  clear o
  go_wp2_with fail
  refine (sGini_any _ n _ xs _ a_1.rd hN).mono ?_
  rintro e w2 ⟨rfl, b⟩
  have t_3 := b.size
  have z_3 : w.heap.size ≤ w2.heap.size := by omega
  have a_4 := a_1.same (same_below b (by omega))
  clear a_1
  have B_3 := B_1.trans (b.mono (by omega))
  clear B_1 b
  clear a_4
  have w0_6 : Bx (w2.alloc (.cells #[.int .i64 (giniN xs), .int .i64 (giniD xs)] 43)) (w2.heap.size) 43 #[.int .i64 (giniN xs), .int .i64 (giniD xs)] := Bx.new _ _ _
  have B_6 := B_3.alloc z_3 (.cells #[.int .i64 (giniN xs), .int .i64 (giniD xs)] 43)
  clear B_3
  have cw0_7 := w0_6.cells
  have fw0_7 := w0_6.free
  go_wp2_with fail
  refine (toIntS_any A n c xs _ (HR.out.below B_6 (Nat.le_refl _)) hN).mono ?_
  rintro e w3 ⟨rfl, o, b⟩
  clear cw0_7 fw0_7
  simp only [World.size_alloc] at b o
  have t_8 := b.size
  simp only [World.size_alloc] at t_8
  have z_8 : w.heap.size ≤ w3.heap.size := by omega
  have w0_9 := w0_6.same (same_below b (by omega))
  clear w0_6
  have B_8 := B_6.trans (b.mono (by omega))
  clear B_6 b
  have x_8 := Ow.of o
  clear o
  have cw0_10 := w0_9.cells
  have fw0_10 := w0_9.free
  go_wp2_with fail
  refine (iGini_any _ n _ xs _ x_8.rd hN).mono ?_
  rintro e w4 ⟨rfl, b⟩
  clear cw0_10 fw0_10
  have t_11 := b.size
  have z_11 : w.heap.size ≤ w4.heap.size := by omega
  have w0_12 := w0_9.same (same_below b (by omega))
  clear w0_9
  have x_12 := x_8.same (same_below b (by omega))
  clear x_8
  have B_11 := B_8.trans (b.mono (by omega))
  clear B_8 b
  have cw0_13 := w0_12.cells
  have fw0_13 := w0_12.free
  clear cw0_13 fw0_13
  have w0_14 := w0_12.same (same_alloc (.cells #[.int .i64 (giniN xs), .int .i64 (giniD xs)] 43) (by omega))
  clear w0_12
  have x_14 := x_12.same (same_alloc (.cells #[.int .i64 (giniN xs), .int .i64 (giniD xs)] 43) (by omega))
  clear x_12
  have g0_15 : Bx (w4.alloc (.cells #[.int .i64 (giniN xs), .int .i64 (giniD xs)] 43)) (w4.heap.size) 43 #[.int .i64 (giniN xs), .int .i64 (giniD xs)] := Bx.new _ _ _
  have B_15 := B_11.alloc z_11 (.cells #[.int .i64 (giniN xs), .int .i64 (giniD xs)] 43)
  clear B_11
  have cw0_16 := w0_14.cells
  have fw0_16 := w0_14.free
  have cg0_17 := g0_15.cells
  have fg0_17 := g0_15.free
  go_wp2_with fail
  refine (eqFrac_same _ _ _).mono ?_
  rintro e w5 ⟨rfl, b⟩
  clear cw0_16 fw0_16
  clear cg0_17 fg0_17
  simp only [World.size_alloc] at b
  have t_18 := b.size
  simp only [World.size_alloc] at t_18
  have z_18 : w.heap.size ≤ w5.heap.size := by omega
  have w0_19 := w0_14.same (same_below b (by omega))
  clear w0_14
  have x_19 := x_14.same (same_below b (by omega))
  clear x_14
  have g0_19 := g0_15.same (same_below b (by omega))
  clear g0_15
  have B_18 := B_15.trans (b.mono (by omega))
  clear B_15 b
  have cw0_20 := w0_19.cells
  have fw0_20 := w0_19.free
  have cg0_21 := g0_19.cells
  have fg0_21 := g0_19.free
  clear cw0_20 fw0_20
  clear w0_19
  clear cg0_21 fg0_21
  clear g0_19
  go_wp2_with fail
  refine (toIntS_any A n c xs _ (HR.out.below B_18 (Nat.le_refl _)) hN).mono ?_
  rintro e w6 ⟨rfl, o, b⟩
  have t_22 := b.size
  have z_22 : w.heap.size ≤ w6.heap.size := by omega
  have x_23 := x_19.same (same_below b (by omega))
  clear x_19
  have B_22 := B_18.trans (b.mono (by omega))
  clear B_18 b
  have a_22 := Ow.of o
  clear o
  go_wp2_with fail
  refine (eqIntS_same _ _ n _ _ xs _ x_23.rd a_22.rd hN).mono ?_
  rintro e w7 ⟨rfl, b⟩
  have t_24 := b.size
  have z_24 : w.heap.size ≤ w7.heap.size := by omega
  have x_25 := x_23.same (same_below b (by omega))
  clear x_23
  have a_25 := a_22.same (same_below b (by omega))
  clear a_22
  have B_24 := B_22.trans (b.mono (by omega))
  clear B_22 b
  go_wp2_with fail
  go_ret
  exact ⟨rfl, B_24⟩

theorem walk (w : World) (A : Option Addr) (n c : Nat) (xs : List Int) (hl : n ≤ c) (hm : c ≤ maxLen) (hr : Rd w A n (xs.map (Value.int .i64))) (_ : ∀ z ∈ xs, (Lit.int .i64 z).wf = true) : Calls Try.prog 12 #[.slice A n c] w fun e w' => e = .returned (.bool true) ∧ Below w.heap.size w w' := by
  unfold maxLen at hm
  have HR := Lib.hid hr
  clear hr
  have hs : n ≤ 9223372036854775807 := by omega
  clear hm hl
  by_cases hn : n ≤ 1048576
  · exact walk_yes w A n c xs HR hn (by omega)
  · go_enter Try.func12, Try.ntmps12
    go_wp2_with fail
    go_ret
    exact ⟨rfl, Below.refl _ _⟩

theorem walks : Walks 12 Try.f12 := by
  intro H enc W base args ds ps hval hA _
  rw [Try.params12] at hA hval
  obtain ⟨v0, vs0, d0, ds0, p0, q0, hargs, rfl, rfl, h0, r0⟩ := trodAll_cons hA
  obtain ⟨rfl, rfl, rfl⟩ := trodAll_nil r0
  obtain rfl : args = #[v0] := by cases args; simp_all
  obtain ⟨f0, y0, z0⟩ := slice_cell Try.underlying27 (hval 0 27 v0 rfl rfl) h0
  obtain ⟨A0, n0, c0, a0, rfl, hl0, hm0, hr0, w0⟩ := open_ints_rd Try.underlying27 (by kernel_rfl) Try.underlying3 z0
  exact walk (w := W) A0 n0 c0 a0 hl0 hm0 hr0 w0

set_option maxRecDepth 100000 in
theorem lifted (os : Os) (started : os.Started) (H : Type) (enc : TypeId × Value → H) :
    ReturnsInHanded {} Try.checked os 12 .any (Rows.fnExactGiniSpec.pre6 enc Try.prog Try.f12 Rows.fnExactGiniRow.domain false) (Rows.fnExactGiniSpec.post enc Try.prog Try.f12 false true false false) :=
  law_lifted started (by kernel_rfl) Try.func12
    (ChangeSpec.witness6 (enc := enc) (C := Try.checked) false ⟨#[], #[.slice none 0 0], []⟩ 8 (by kernel_rfl) (by kernel_rfl) (by kernel_rfl) (by kernel_rfl))
    rfl rfl Try.underlying4 (fun ds h => match ds, h with | [_], _ => rfl) (by
      rw [Try.params12]
      intro t ht
      simp only [List.mem_cons, List.not_mem_nil, or_false] at ht
      subst ht
      exact ⟨by kernel_rfl, of_decide_eq_true (by kernel_rfl)⟩) walks

theorem over : Rows.fnExactGiniRow.holds Try.pinned (OpenSpec.ofChange Rows.fnExactGiniSpec) :=
  OpenClaim.holds_of_wide 12 Try.f12 rfl rfl rfl rfl rfl rfl rfl ⟨rfl, rfl, rfl, rfl, rfl⟩ rfl rfl rfl rfl rfl (by kernel_rfl) Try.func12 (by kernel_rfl)
    (of_decide_eq_true (by kernel_rfl)) (by unfold Func.isWrapper; first | (rw [if_pos (by decide +kernel)]; kernel_rfl) | (rw [if_neg (by decide +kernel)]; exact ⟨rfl, rfl⟩))
    (fun os started H enc _ => lifted os started H enc)

theorem proved : Rows.FnExactGiniSaid := over
#print axioms proved

end LawGini
end Go.Proofs.Ytfdpfeaegcfglaa
