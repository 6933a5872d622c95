/-
  Proved: laws.FnExactThresholds returns true for every number. Conditions: none.
-/
import Derived.Test.YtccohhhnfaidhaaThr
import Derived.Test.YtccohhhnfaidhaaOpen
namespace Go.Proofs.Ytccohhhnfaidhaa
open Go.ChangeShapes Go.WideShapes Go.ChangeAt Go.RowKit Go.Deep
namespace LawThresholds
set_option maxHeartbeats 1000000 in
theorem walk_yes (l : Int) (hl : l = 1 ∨ l = 6) (w : World) : Calls Try.prog 8 #[.int .i64 l] w fun e w' => e = .returned (.bool true) ∧ Below w.heap.size w w' := by
  have HL := Lib.hid hl
  have HLen := Lib.hid (thrL_len hl)
  clear hl
  go_enter Try.func8, Try.ntmps8
  go_wp2_with fail
  refine (sThr_yes l HL.out _).mono ?_
  rintro e w1 ⟨rfl, o1, b1⟩
  go_wp2_with fail
  refine (iThr_yes l HL.out _).mono ?_
  rintro e w2 ⟨rfl, o2, b2⟩
  have o12 := own_below o1 b2 (Nat.le_refl _)
  have b02 : Below w.heap.size w w2 := b1.trans (b2.mono b1.size)
  go_wp2_with fail
  refine (eqIntS_same _ _ 7 7 7 (thrL l) _ (Rd.of_own o2) (Rd.of_own o12) (by omega)).mono ?_
  rintro e w3 ⟨rfl, b3⟩
  have o13 := own_below o12 b3 (Nat.le_refl _)
  have o23 := own_below o2 b3 (Nat.le_refl _)
  have b03 : Below w.heap.size w w3 := b02.trans (b3.mono b02.size)
  have lt1 := (o1.lt _ rfl).2
  go_wp2_with fail
  refine (markIntS_any _ 7 7 1 _ _ _ o23 (by omega) (by omega)).mono ?_
  rintro e w4 ⟨rfl, o24, g4, z4⟩
  clear z4
  have o14 := o13.kept g4 (.inr (by simp [Value.ownBlock]; omega))
  have b04 : Below w.heap.size w w4 := b03.grown g4 b03.size (fun k hk => by simp [Value.ownBlock] at hk; have := b1.size; omega)
  go_wp2_with fail
  refine (heldIntS_any _ 7 7 1 _ (Rd.of_own o24) (by omega) (by omega)).mono ?_
  rintro e w5 ⟨rfl, rfl⟩
  go_wp2_with fail
  refine (iThr_yes l HL.out _).mono ?_
  rintro e w5 ⟨rfl, o5, b5⟩
  have o15 := own_below o14 b5 (Nat.le_refl _)
  have o25 := own_below o24 b5 (Nat.le_refl _)
  have b05 : Below w.heap.size w w5 := b04.trans (b5.mono b04.size)
  go_wp2_with fail
  refine (eqIntS_same _ _ 7 7 7 (thrL l) _ (Rd.of_own o5) (Rd.of_own o15) (by omega)).mono ?_
  rintro e w6 ⟨rfl, b6⟩
  have o26 := own_below o25 b6 (Nat.le_refl _)
  have b06 : Below w.heap.size w w6 := b05.trans (b6.mono b05.size)
  go_wp2_with fail
  refine (heldIntS_any _ 7 7 1 _ (Rd.of_own o26) (by omega) (by omega)).mono ?_
  rintro e w7 ⟨rfl, rfl⟩
  go_wp2_with fail
  go_ret
  exact ⟨rfl, b06⟩

set_option maxHeartbeats 1000000 in
theorem walk_no (l : Int) (hl : ¬ (l = 1 ∨ l = 6)) (w : World) : Calls Try.prog 8 #[.int .i64 l] w fun e w' => e = .returned (.bool true) ∧ Below w.heap.size w w' := by
  have HL := Lib.hid hl
  clear hl
  have rn : ∀ (W : World) (A : Option Addr), Rd W A 0 (([] : List Int).map (Value.int .i64)) := fun W A => Rd.none_ W A
  have rm : ∀ (W : World) (A : Option Addr), Rd W A 0 (marksIntS 1 0) := fun W A => Rd.none_ W A
  go_enter Try.func8, Try.ntmps8
  go_wp2_with fail
  refine (sThr_no l HL.out _).mono ?_
  rintro e w1 ⟨rfl, b1⟩
  go_wp2_with fail
  refine (iThr_no l HL.out _).mono ?_
  rintro e w2 ⟨rfl, rfl⟩
  go_wp2_with fail
  refine (eqIntS_same _ _ 0 _ _ [] _ (rn _ _) (rn _ _) (by omega)).mono ?_
  rintro e w3 ⟨rfl, b3⟩
  have b03 : Below w.heap.size w w3 := b1.trans (b3.mono b1.size)
  go_wp2_with fail
  refine (markIntS_any 0 0 0 1 _ [] _ (World.ownsRow_nil _ _ _ _) (by omega) (by omega)).mono ?_
  rintro e w4 ⟨rfl, _, g4, z4⟩
  clear z4
  have b04 : Below w.heap.size w w4 := b03.grown g4 b03.size (fun k hk => by simp [Value.ownBlock] at hk)
  go_wp2_with fail
  refine (heldIntS_any _ 0 0 1 _ (rm _ _) (by omega) (by omega)).mono ?_
  rintro e w5 ⟨rfl, rfl⟩
  go_wp2_with fail
  refine (iThr_no l HL.out _).mono ?_
  rintro e w5 ⟨rfl, rfl⟩
  go_wp2_with fail
  refine (eqIntS_same _ _ 0 _ _ [] _ (rn _ _) (rn _ _) (by omega)).mono ?_
  rintro e w6 ⟨rfl, b6⟩
  have b06 : Below w.heap.size w w6 := b04.trans (b6.mono b04.size)
  go_wp2_with fail
  refine (heldIntS_any _ 0 0 1 _ (rm _ _) (by omega) (by omega)).mono ?_
  rintro e w7 ⟨rfl, rfl⟩
  go_wp2_with fail
  go_ret
  exact ⟨rfl, b06⟩

theorem walk (l : Int) (_ : (Lit.int .i64 l).wf = true) (w : World) : Calls Try.prog 8 #[.int .i64 l] w fun e w' => e = .returned (.bool true) ∧ Below w.heap.size w w' := by
  by_cases hl : l = 1 ∨ l = 6
  · exact walk_yes l hl w
  · exact walk_no l hl w

theorem walks : Walks 8 Try.f8 := by
  intro H enc W base args ds ps hval hA _
  rw [Try.params8] at hA hval
  obtain ⟨v0, vs0, d0, ds0, p0, q0, hargs, rfl, rfl, h0, r0⟩ := trodAll_cons hA
  obtain ⟨rfl, rfl, rfl⟩ := trodAll_nil r0
  obtain rfl : args = #[v0] := by cases args; simp_all
  obtain ⟨a0, rfl, rfl, rfl, w0⟩ := open_int Try.underlying3 (hval 0 3 v0 rfl rfl) h0
  exact walk a0 w0 W

set_option maxRecDepth 100000 in
theorem lifted (os : Os) (started : os.Started) (H : Type) (enc : TypeId × Value → H) :
    ReturnsInHanded {} Try.checked os 8 .any (Rows.fnExactThresholdsSpec.pre6 enc Try.prog Try.f8 Rows.fnExactThresholdsRow.domain false) (Rows.fnExactThresholdsSpec.post enc Try.prog Try.f8 false true false false) :=
  law_lifted started (by kernel_rfl) Try.func8
    (ChangeSpec.witness6 (enc := enc) (C := Try.checked) false ⟨#[], #[.int .i64 0], []⟩ 8 (by kernel_rfl) (by kernel_rfl) (by kernel_rfl) (by kernel_rfl))
    rfl rfl Try.underlying4 (fun ds h => match ds, h with | [_], _ => rfl) (by
      rw [Try.params8]
      intro t ht
      simp only [List.mem_cons, List.not_mem_nil, or_false] at ht
      subst ht
      exact ⟨by kernel_rfl, of_decide_eq_true (by kernel_rfl)⟩) walks

theorem over : Rows.fnExactThresholdsRow.holds Try.pinned (OpenSpec.ofChange Rows.fnExactThresholdsSpec) :=
  OpenClaim.holds_of_wide 8 Try.f8 rfl rfl rfl rfl rfl rfl rfl ⟨rfl, rfl, rfl, rfl, rfl⟩ rfl rfl rfl rfl rfl (by kernel_rfl) Try.func8 (by kernel_rfl)
    (of_decide_eq_true (by kernel_rfl)) (by unfold Func.isWrapper; first | (rw [if_pos (by decide +kernel)]; kernel_rfl) | (rw [if_neg (by decide +kernel)]; exact ⟨rfl, rfl⟩))
    (fun os started H enc _ => lifted os started H enc)

theorem proved : Rows.FnExactThresholdsSaid := over
#print axioms proved

end LawThresholds
end Go.Proofs.Ytccohhhnfaidhaa
