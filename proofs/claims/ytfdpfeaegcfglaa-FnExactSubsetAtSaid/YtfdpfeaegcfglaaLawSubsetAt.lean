/-
  Proved: laws.FnExactSubsetAt returns true for all three numbers. Conditions: none.
-/
import Derived.Test.YtfdpfeaegcfglaaSubset
import Derived.Test.YtfdpfeaegcfglaaInts
import Derived.Test.YtfdpfeaegcfglaaOpen
namespace Go.Proofs.Ytfdpfeaegcfglaa
open Go.ChangeShapes Go.WideShapes Go.ChangeAt Go.RowKit Go.Deep
namespace LawSubsetAt
set_option linter.unusedSimpArgs false
set_option linter.unusedVariables false
theorem markIntS_nil (k : Nat) (w : World) (hk : k ≤ 1099511627776) : Calls Try.prog 25 #[.slice none 0 0, .int .i64 k] w fun e w' => e = .returned (.int .i64 ((k + 0 : Nat) : Int)) ∧ Below w.heap.size w w' :=
  (markIntS_any 0 0 0 k none [] w (World.ownsRow_nil _ _ _ _) (by omega) hk).mono fun e w' ⟨h1, _, h3, _⟩ => ⟨h1, (Below.refl _ _).grown h3 (Nat.le_refl _) (fun k hk => by simp [Value.ownBlock] at hk)⟩

set_option maxHeartbeats 2000000 in
theorem walk_yes (w : World) (n k r : Int) (h : subOk n k r = true) : Calls Try.prog 5 #[.int .i64 n, .int .i64 k, .int .i64 r] w fun e w' => e = .returned (.bool true) ∧ Below w.heap.size w w' := by
  have hN : k.toNat ≤ 1073741824 := by
    obtain ⟨N, K, R, rfl, rfl, rfl, h1, h2, h3, _⟩ := subOk_nat h
    simp only [Int.toNat_natCast]; omega
  have B0 := Below.refl w.heap.size w
  have s0 : w.heap.size ≤ w.heap.size := Nat.le_refl _
  go_enter Try.func5, Try.ntmps5
  go_wp2_with fail
  refine (sSubsetAt_yes n k r _ h).mono ?_
  rintro e w1 ⟨A1, c1, rfl, o, b⟩
  have t_1 := b.size
  have z_1 : w.heap.size ≤ w1.heap.size := by omega
  have B_1 := B0.trans (b.mono (by omega))
  clear B0 b
  have wr_1 := Ow.of o
  clear o
  go_wp2_with fail
  refine (iSubsetAt_yes n k r _ h).mono ?_
  rintro e w2 ⟨A2, c2, rfl, o, b⟩
  have t_3 := b.size
  have z_3 : w.heap.size ≤ w2.heap.size := by omega
  have wr_4 := wr_1.same (same_below b (by omega))
  clear wr_1
  have B_3 := B_1.trans (b.mono (by omega))
  clear B_1 b
  have gr_3 := Ow.of o
  clear o
  go_wp2_with fail
  refine (eqIntS_same _ _ k.toNat _ _ (subI n k r) _ gr_3.rd wr_4.rd hN).mono ?_
  rintro e w3 ⟨rfl, b⟩
  have t_5 := b.size
  have z_5 : w.heap.size ≤ w3.heap.size := by omega
  have wr_6 := wr_4.same (same_below b (by omega))
  clear wr_4
  have gr_6 := gr_3.same (same_below b (by omega))
  clear gr_3
  have B_5 := B_3.trans (b.mono (by omega))
  clear B_3 b
  go_wp2_with fail
  refine (markIntS_any _ k.toNat _ 1 _ _ _ gr_6.own hN (by omega)).mono ?_
  rintro e w4 ⟨rfl, o, gg, zz⟩
  have n_7 := Ow.only gr_6 gg
  have t_7 := n_7.size
  have z_7 : w.heap.size ≤ w4.heap.size := by omega
  have wr_8 := wr_6.same (same_only n_7 (by omega) (by omega))
  clear wr_6
  have gr_7 : Ow _ _ _ w4 _ _ _ _ := ⟨o, gr_6.top⟩
  clear gr_6 o gg
  have B_7 := B_5.trans (n_7.below (by omega) (by omega))
  clear B_5 n_7
  clear zz
  go_wp2_with fail
  refine (heldIntS_any _ k.toNat _ 1 _ gr_7.rd hN (by omega)).mono ?_
  rintro e w5 ⟨rfl, rfl⟩
  go_wp2_with fail
  refine (iSubsetAt_yes n k r _ h).mono ?_
  rintro e w5 ⟨A3, c3, rfl, o, b⟩
  have t_9 := b.size
  have z_9 : w.heap.size ≤ w5.heap.size := by omega
  have wr_10 := wr_8.same (same_below b (by omega))
  clear wr_8
  have gr_10 := gr_7.same (same_below b (by omega))
  clear gr_7
  have B_9 := B_7.trans (b.mono (by omega))
  clear B_7 b
  have hr_9 := Ow.of o
  clear o
  go_wp2_with fail
  refine (eqIntS_same _ _ k.toNat _ _ (subI n k r) _ hr_9.rd wr_10.rd hN).mono ?_
  rintro e w6 ⟨rfl, b⟩
  have t_11 := b.size
  have z_11 : w.heap.size ≤ w6.heap.size := by omega
  have wr_12 := wr_10.same (same_below b (by omega))
  clear wr_10
  have gr_12 := gr_10.same (same_below b (by omega))
  clear gr_10
  have hr_12 := hr_9.same (same_below b (by omega))
  clear hr_9
  have B_11 := B_9.trans (b.mono (by omega))
  clear B_9 b
  clear hr_12
  clear wr_12
  go_wp2_with fail
  refine (heldIntS_any _ k.toNat _ 1 _ gr_12.rd hN (by omega)).mono ?_
  rintro e w7 ⟨rfl, rfl⟩
  go_wp2_with fail
  go_ret
  exact ⟨rfl, B_11⟩

set_option maxHeartbeats 2000000 in
theorem walk_no (w : World) (n k r : Int) (h : subOk n k r = false) : Calls Try.prog 5 #[.int .i64 n, .int .i64 k, .int .i64 r] w fun e w' => e = .returned (.bool true) ∧ Below w.heap.size w w' := by
  have rn : ∀ (W : World) (A : Option Addr), Rd W A 0 (([] : List Int).map (Value.int .i64)) := fun W A => Rd.none_ W A
  have rm : ∀ (W : World) (A : Option Addr), Rd W A 0 (marksIntS 1 0) := fun W A => Rd.none_ W A
  have B0 := Below.refl w.heap.size w
  have s0 : w.heap.size ≤ w.heap.size := Nat.le_refl _
  go_enter Try.func5, Try.ntmps5
  go_wp2_with fail
  refine (sSubsetAt_no n k r _ h).mono ?_
  rintro e w1 ⟨rfl, b⟩
  have t_1 := b.size
  have z_1 : w.heap.size ≤ w1.heap.size := by omega
  have B_1 := B0.trans (b.mono (by omega))
  clear B0 b
  go_wp2_with fail
  refine (iSubsetAt_no n k r _ h).mono ?_
  rintro e w2 ⟨rfl, rfl⟩
  go_wp2_with fail
  refine (eqIntS_same _ _ 0 _ _ [] _ (rn _ _) (rn _ _) (by omega)).mono ?_
  rintro e w2 ⟨rfl, b⟩
  have t_3 := b.size
  have z_3 : w.heap.size ≤ w2.heap.size := by omega
  have B_3 := B_1.trans (b.mono (by omega))
  clear B_1 b
  go_wp2_with fail
  refine (markIntS_nil 1 _ (by omega)).mono ?_
  rintro e w3 ⟨rfl, b⟩
  have t_5 := b.size
  have z_5 : w.heap.size ≤ w3.heap.size := by omega
  have B_5 := B_3.trans (b.mono (by omega))
  clear B_3 b
  go_wp2_with fail
  refine (heldIntS_any _ 0 _ 1 _ (rm _ _) (by omega) (by omega)).mono ?_
  rintro e w4 ⟨rfl, rfl⟩
  go_wp2_with fail
  refine (iSubsetAt_no n k r _ h).mono ?_
  rintro e w4 ⟨rfl, rfl⟩
  go_wp2_with fail
  refine (eqIntS_same _ _ 0 _ _ [] _ (rn _ _) (rn _ _) (by omega)).mono ?_
  rintro e w4 ⟨rfl, b⟩
  have t_7 := b.size
  have z_7 : w.heap.size ≤ w4.heap.size := by omega
  have B_7 := B_5.trans (b.mono (by omega))
  clear B_5 b
  go_wp2_with fail
  refine (heldIntS_any _ 0 _ 1 _ (rm _ _) (by omega) (by omega)).mono ?_
  rintro e w5 ⟨rfl, rfl⟩
  go_wp2_with fail
  go_ret
  exact ⟨rfl, B_7⟩

theorem walk (w : World) (n k r : Int) (_ : (Lit.int .i64 n).wf = true) (_ : (Lit.int .i64 k).wf = true) (_ : (Lit.int .i64 r).wf = true) : Calls Try.prog 5 #[.int .i64 n, .int .i64 k, .int .i64 r] w fun e w' => e = .returned (.bool true) ∧ Below w.heap.size w w' := by
  cases h : subOk n k r
  · exact walk_no w n k r h
  · exact walk_yes w n k r h

theorem walks : Walks 5 Try.f5 := by
  intro H enc W base args ds ps hval hA _
  rw [Try.params5] at hA hval
  obtain ⟨v0, vs0, d0, ds0, p0, q0, hargs, rfl, rfl, h0, r0⟩ := trodAll_cons hA
  obtain ⟨v1, vs1, d1, ds1, p1, q1, rfl, rfl, rfl, h1, r1⟩ := trodAll_cons r0
  obtain ⟨v2, vs2, d2, ds2, p2, q2, rfl, rfl, rfl, h2, r2⟩ := trodAll_cons r1
  obtain ⟨rfl, rfl, rfl⟩ := trodAll_nil r2
  obtain rfl : args = #[v0, v1, v2] := by cases args; simp_all
  obtain ⟨a0, rfl, rfl, rfl, w0⟩ := open_int Try.underlying3 (hval 0 3 v0 rfl rfl) h0
  obtain ⟨a1, rfl, rfl, rfl, w1⟩ := open_int Try.underlying3 (hval 1 3 v1 rfl rfl) h1
  obtain ⟨a2, rfl, rfl, rfl, w2⟩ := open_int Try.underlying3 (hval 2 3 v2 rfl rfl) h2
  exact walk (w := W) a0 a1 a2 w0 w1 w2

set_option maxRecDepth 100000 in
theorem lifted (os : Os) (started : os.Started) (H : Type) (enc : TypeId × Value → H) :
    ReturnsInHanded {} Try.checked os 5 .any (Rows.fnExactSubsetAtSpec.pre6 enc Try.prog Try.f5 Rows.fnExactSubsetAtRow.domain false) (Rows.fnExactSubsetAtSpec.post enc Try.prog Try.f5 false true false false) :=
  law_lifted started (by kernel_rfl) Try.func5
    (ChangeSpec.witness6 (enc := enc) (C := Try.checked) false ⟨#[], #[.int .i64 0, .int .i64 0, .int .i64 0], []⟩ 8 (by kernel_rfl) (by kernel_rfl) (by kernel_rfl) (by kernel_rfl))
    rfl rfl Try.underlying4 (fun ds h => match ds, h with | [_, _, _], _ => rfl) (by
      rw [Try.params5]
      intro t ht
      simp only [List.mem_cons, List.not_mem_nil, or_false] at ht
      rcases ht with rfl | rfl | rfl <;> exact ⟨by kernel_rfl, of_decide_eq_true (by kernel_rfl)⟩) walks

theorem over : Rows.fnExactSubsetAtRow.holds Try.pinned (OpenSpec.ofChange Rows.fnExactSubsetAtSpec) :=
  OpenClaim.holds_of_wide 5 Try.f5 rfl rfl rfl rfl rfl rfl rfl ⟨rfl, rfl, rfl, rfl, rfl⟩ rfl rfl rfl rfl rfl (by kernel_rfl) Try.func5 (by kernel_rfl)
    (of_decide_eq_true (by kernel_rfl)) (by unfold Func.isWrapper; first | (rw [if_pos (by decide +kernel)]; kernel_rfl) | (rw [if_neg (by decide +kernel)]; exact ⟨rfl, rfl⟩))
    (fun os started H enc _ => lifted os started H enc)

theorem proved : Rows.FnExactSubsetAtSaid := over
#print axioms proved

end LawSubsetAt
end Go.Proofs.Ytfdpfeaegcfglaa
