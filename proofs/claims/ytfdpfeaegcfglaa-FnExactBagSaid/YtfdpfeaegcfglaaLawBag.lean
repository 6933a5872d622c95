/-
  Proved: laws.FnExactBag returns true for every number and list. Conditions: none.
-/
import Derived.Test.YtfdpfeaegcfglaaBag
import Derived.Test.YtfdpfeaegcfglaaInts
import Derived.Test.YtfdpfeaegcfglaaObj
import Derived.Test.YtfdpfeaegcfglaaOpen
namespace Go.Proofs.Ytfdpfeaegcfglaa
open Go.ChangeShapes Go.WideShapes Go.ChangeAt Go.RowKit Go.Deep
namespace LawBag
set_option linter.unusedSimpArgs false
set_option linter.unusedVariables false
theorem markIntS_nil (k : Nat) (w : World) (hk : k ≤ 1099511627776) : Calls Try.prog 25 #[.slice none 0 0, .int .i64 k] w fun e w' => e = .returned (.int .i64 ((k + 0 : Nat) : Int)) ∧ Below w.heap.size w w' :=
  (markIntS_any 0 0 0 k none [] w (World.ownsRow_nil _ _ _ _) (by omega) hk).mono fun e w' ⟨h1, _, h3, _⟩ => ⟨h1, (Below.refl _ _).grown h3 (Nat.le_refl _) (fun k hk => by simp [Value.ownBlock] at hk)⟩

set_option maxHeartbeats 2000000 in
theorem walk_yes (w : World) (l : Int) (A : Option Addr) (n c : Nat) (xs : List Int) (HR : Hid (Rd w A n (xs.map (Value.int .i64)))) (hs : n ≤ 1048576) (hN : n ≤ 1073741824) (h : bagOk l xs) : Calls Try.prog 8 #[.int .i64 l, .slice A n c] w fun e w' => e = .returned (.bool true) ∧ Below w.heap.size w w' := by
  have B0 := Below.refl w.heap.size w
  have s0 : w.heap.size ≤ w.heap.size := Nat.le_refl _
  go_enter Try.func8, Try.ntmps8
  go_wp2_with fail
  refine (toIntS_any A n c xs _ (HR.out.below B0 (Nat.le_refl _)) hN).mono ?_
  rintro e w1 ⟨rfl, o, b⟩
  have t_1 := b.size
  have z_1 : w.heap.size ≤ w1.heap.size := by omega
  have B_1 := B0.trans (b.mono (by omega))
  clear B0 b
  have a_1 := Ow.of o
  clear o
  go_wp2_with fail
  refine (sBag_yes l _ n _ xs _ a_1.rd hN h).mono ?_
  rintro e w2 ⟨A1, c1, rfl, o, b⟩
  have t_3 := b.size
  have z_3 : w.heap.size ≤ w2.heap.size := by omega
  have a_4 := a_1.same (same_below b (by omega))
  clear a_1
  have B_3 := B_1.trans (b.mono (by omega))
  clear B_1 b
  have wr_3 := Ow.of o
  clear o
  clear a_4
  go_wp2_with fail
  refine (toIntS_any A n c xs _ (HR.out.below B_3 (Nat.le_refl _)) hN).mono ?_
  rintro e w3 ⟨rfl, o, b⟩
  have t_5 := b.size
  have z_5 : w.heap.size ≤ w3.heap.size := by omega
  have wr_6 := wr_3.same (same_below b (by omega))
  clear wr_3
  have B_5 := B_3.trans (b.mono (by omega))
  clear B_3 b
  have x_5 := Ow.of o
  clear o
  go_wp2_with fail
  refine (iBag_yes l _ n _ xs _ x_5.rd hN h).mono ?_
  rintro e w4 ⟨A2, c2, rfl, o, b⟩
  have t_7 := b.size
  have z_7 : w.heap.size ≤ w4.heap.size := by omega
  have wr_8 := wr_6.same (same_below b (by omega))
  clear wr_6
  have x_8 := x_5.same (same_below b (by omega))
  clear x_5
  have B_7 := B_5.trans (b.mono (by omega))
  clear B_5 b
  have gr_7 := Ow.of o
  clear o
  go_wp2_with fail
  refine (eqIntS_same _ _ n _ _ (bagL l xs) _ gr_7.rd wr_8.rd hN).mono ?_
  rintro e w5 ⟨rfl, b⟩
  have t_9 := b.size
  have z_9 : w.heap.size ≤ w5.heap.size := by omega
  have wr_10 := wr_8.same (same_below b (by omega))
  clear wr_8
  have x_10 := x_8.same (same_below b (by omega))
  clear x_8
  have gr_10 := gr_7.same (same_below b (by omega))
  clear gr_7
  have B_9 := B_7.trans (b.mono (by omega))
  clear B_7 b
  go_wp2_with fail
  refine (toIntS_any A n c xs _ (HR.out.below B_9 (Nat.le_refl _)) hN).mono ?_
  rintro e w6 ⟨rfl, o, b⟩
  have t_11 := b.size
  have z_11 : w.heap.size ≤ w6.heap.size := by omega
  have wr_12 := wr_10.same (same_below b (by omega))
  clear wr_10
  have x_12 := x_10.same (same_below b (by omega))
  clear x_10
  have gr_12 := gr_10.same (same_below b (by omega))
  clear gr_10
  have B_11 := B_9.trans (b.mono (by omega))
  clear B_9 b
  have a_11 := Ow.of o
  clear o
  go_wp2_with fail
  refine (eqIntS_same _ _ n _ _ xs _ x_12.rd a_11.rd hN).mono ?_
  rintro e w7 ⟨rfl, b⟩
  have t_13 := b.size
  have z_13 : w.heap.size ≤ w7.heap.size := by omega
  have wr_14 := wr_12.same (same_below b (by omega))
  clear wr_12
  have x_14 := x_12.same (same_below b (by omega))
  clear x_12
  have gr_14 := gr_12.same (same_below b (by omega))
  clear gr_12
  have a_14 := a_11.same (same_below b (by omega))
  clear a_11
  have B_13 := B_11.trans (b.mono (by omega))
  clear B_11 b
  clear a_14
  go_wp2_with fail
  refine (markIntS_any _ n _ 1 _ _ _ x_14.own hN (by omega)).mono ?_
  rintro e w8 ⟨rfl, o, gg, zz⟩
  have n_15 := Ow.only x_14 gg
  have t_15 := n_15.size
  have z_15 : w.heap.size ≤ w8.heap.size := by omega
  have wr_16 := wr_14.same (same_only n_15 (by omega) (by omega))
  clear wr_14
  have gr_16 := gr_14.same (same_only n_15 (by omega) (by omega))
  clear gr_14
  have x_15 : Ow _ _ _ w8 _ _ _ _ := ⟨o, x_14.top⟩
  clear x_14 o gg
  have B_15 := B_13.trans (n_15.below (by omega) (by omega))
  clear B_13 n_15
  clear zz
  clear x_15
  go_wp2_with fail
  refine (eqIntS_same _ _ n _ _ (bagL l xs) _ gr_16.rd wr_16.rd hN).mono ?_
  rintro e w9 ⟨rfl, b⟩
  have t_17 := b.size
  have z_17 : w.heap.size ≤ w9.heap.size := by omega
  have wr_18 := wr_16.same (same_below b (by omega))
  clear wr_16
  have gr_18 := gr_16.same (same_below b (by omega))
  clear gr_16
  have B_17 := B_15.trans (b.mono (by omega))
  clear B_15 b
  go_wp2_with fail
  refine (markIntS_any _ n _ 1 _ _ _ gr_18.own hN (by omega)).mono ?_
  rintro e w10 ⟨rfl, o, gg, zz⟩
  have n_19 := Ow.only gr_18 gg
  have t_19 := n_19.size
  have z_19 : w.heap.size ≤ w10.heap.size := by omega
  have wr_20 := wr_18.same (same_only n_19 (by omega) (by omega))
  clear wr_18
  have gr_19 : Ow _ _ _ w10 _ _ _ _ := ⟨o, gr_18.top⟩
  clear gr_18 o gg
  have B_19 := B_17.trans (n_19.below (by omega) (by omega))
  clear B_17 n_19
  clear zz
  go_wp2_with fail
  refine (heldIntS_any _ n _ 1 _ gr_19.rd hN (by omega)).mono ?_
  rintro e w11 ⟨rfl, rfl⟩
  go_wp2_with fail
  refine (toIntS_any A n c xs _ (HR.out.below B_19 (Nat.le_refl _)) hN).mono ?_
  rintro e w11 ⟨rfl, o, b⟩
  have t_21 := b.size
  have z_21 : w.heap.size ≤ w11.heap.size := by omega
  have wr_22 := wr_20.same (same_below b (by omega))
  clear wr_20
  have gr_22 := gr_19.same (same_below b (by omega))
  clear gr_19
  have B_21 := B_19.trans (b.mono (by omega))
  clear B_19 b
  have a_21 := Ow.of o
  clear o
  go_wp2_with fail
  refine (iBag_yes l _ n _ xs _ a_21.rd hN h).mono ?_
  rintro e w12 ⟨A3, c3, rfl, o, b⟩
  have t_23 := b.size
  have z_23 : w.heap.size ≤ w12.heap.size := by omega
  have wr_24 := wr_22.same (same_below b (by omega))
  clear wr_22
  have gr_24 := gr_22.same (same_below b (by omega))
  clear gr_22
  have a_24 := a_21.same (same_below b (by omega))
  clear a_21
  have B_23 := B_21.trans (b.mono (by omega))
  clear B_21 b
  have hr_23 := Ow.of o
  clear o
  clear a_24
  go_wp2_with fail
  refine (eqIntS_same _ _ n _ _ (bagL l xs) _ hr_23.rd wr_24.rd hN).mono ?_
  rintro e w13 ⟨rfl, b⟩
  have t_25 := b.size
  have z_25 : w.heap.size ≤ w13.heap.size := by omega
  have wr_26 := wr_24.same (same_below b (by omega))
  clear wr_24
  have gr_26 := gr_24.same (same_below b (by omega))
  clear gr_24
  have hr_26 := hr_23.same (same_below b (by omega))
  clear hr_23
  have B_25 := B_23.trans (b.mono (by omega))
  clear B_23 b
  go_wp2_with fail
  refine (heldIntS_any _ n _ 1 _ gr_26.rd hN (by omega)).mono ?_
  rintro e w14 ⟨rfl, rfl⟩
  go_wp2_with fail
  go_ret
  exact ⟨rfl, B_25⟩

set_option maxHeartbeats 2000000 in
theorem walk_no (w : World) (l : Int) (A : Option Addr) (n c : Nat) (xs : List Int) (HR : Hid (Rd w A n (xs.map (Value.int .i64)))) (hs : n ≤ 1048576) (hN : n ≤ 1073741824) (h : ¬ bagOk l xs) : Calls Try.prog 8 #[.int .i64 l, .slice A n c] w fun e w' => e = .returned (.bool true) ∧ Below w.heap.size w w' := by
  have rn : ∀ (W : World) (A : Option Addr), Rd W A 0 (([] : List Int).map (Value.int .i64)) := fun W A => Rd.none_ W A
  have rm : ∀ (W : World) (A : Option Addr), Rd W A 0 (marksIntS 1 0) := fun W A => Rd.none_ W A
  have B0 := Below.refl w.heap.size w
  have s0 : w.heap.size ≤ w.heap.size := Nat.le_refl _
  go_enter Try.func8, Try.ntmps8
  go_wp2_with fail
  refine (toIntS_any A n c xs _ (HR.out.below B0 (Nat.le_refl _)) hN).mono ?_
  rintro e w1 ⟨rfl, o, b⟩
  have t_1 := b.size
  have z_1 : w.heap.size ≤ w1.heap.size := by omega
  have B_1 := B0.trans (b.mono (by omega))
  clear B0 b
  have a_1 := Ow.of o
  clear o
  go_wp2_with fail
  refine (sBag_no l _ n _ xs _ a_1.rd hN h).mono ?_
  rintro e w2 ⟨A1, rfl, b⟩
  have t_3 := b.size
  have z_3 : w.heap.size ≤ w2.heap.size := by omega
  have a_4 := a_1.same (same_below b (by omega))
  clear a_1
  have B_3 := B_1.trans (b.mono (by omega))
  clear B_1 b
  clear a_4
  go_wp2_with fail
  refine (toIntS_any A n c xs _ (HR.out.below B_3 (Nat.le_refl _)) hN).mono ?_
  rintro e w3 ⟨rfl, o, b⟩
  have t_5 := b.size
  have z_5 : w.heap.size ≤ w3.heap.size := by omega
  have B_5 := B_3.trans (b.mono (by omega))
  clear B_3 b
  have x_5 := Ow.of o
  clear o
  go_wp2_with fail
  refine (iBag_no l _ n _ xs _ x_5.rd hN h).mono ?_
  rintro e w4 ⟨rfl, b⟩
  have t_7 := b.size
  have z_7 : w.heap.size ≤ w4.heap.size := by omega
  have x_8 := x_5.same (same_below b (by omega))
  clear x_5
  have B_7 := B_5.trans (b.mono (by omega))
  clear B_5 b
  go_wp2_with fail
  refine (eqIntS_same _ _ 0 _ _ [] _ (rn _ _) (rn _ _) (by omega)).mono ?_
  rintro e w5 ⟨rfl, b⟩
  have t_9 := b.size
  have z_9 : w.heap.size ≤ w5.heap.size := by omega
  have x_10 := x_8.same (same_below b (by omega))
  clear x_8
  have B_9 := B_7.trans (b.mono (by omega))
  clear B_7 b
  go_wp2_with fail
  refine (toIntS_any A n c xs _ (HR.out.below B_9 (Nat.le_refl _)) hN).mono ?_
  rintro e w6 ⟨rfl, o, b⟩
  have t_11 := b.size
  have z_11 : w.heap.size ≤ w6.heap.size := by omega
  have x_12 := x_10.same (same_below b (by omega))
  clear x_10
  have B_11 := B_9.trans (b.mono (by omega))
  clear B_9 b
  have a_11 := Ow.of o
  clear o
  go_wp2_with fail
  refine (eqIntS_same _ _ n _ _ xs _ x_12.rd a_11.rd hN).mono ?_
  rintro e w7 ⟨rfl, b⟩
  have t_13 := b.size
  have z_13 : w.heap.size ≤ w7.heap.size := by omega
  have x_14 := x_12.same (same_below b (by omega))
  clear x_12
  have a_14 := a_11.same (same_below b (by omega))
  clear a_11
  have B_13 := B_11.trans (b.mono (by omega))
  clear B_11 b
  clear a_14
  go_wp2_with fail
  refine (markIntS_any _ n _ 1 _ _ _ x_14.own hN (by omega)).mono ?_
  rintro e w8 ⟨rfl, o, gg, zz⟩
  have n_15 := Ow.only x_14 gg
  have t_15 := n_15.size
  have z_15 : w.heap.size ≤ w8.heap.size := by omega
  have x_15 : Ow _ _ _ w8 _ _ _ _ := ⟨o, x_14.top⟩
  clear x_14 o gg
  have B_15 := B_13.trans (n_15.below (by omega) (by omega))
  clear B_13 n_15
  clear zz
  clear x_15
  go_wp2_with fail
  refine (eqIntS_same _ _ 0 _ _ [] _ (rn _ _) (rn _ _) (by omega)).mono ?_
  rintro e w9 ⟨rfl, b⟩
  have t_17 := b.size
  have z_17 : w.heap.size ≤ w9.heap.size := by omega
  have B_17 := B_15.trans (b.mono (by omega))
  clear B_15 b
  go_wp2_with fail
  refine (markIntS_nil 1 _ (by omega)).mono ?_
  rintro e w10 ⟨rfl, b⟩
  have t_19 := b.size
  have z_19 : w.heap.size ≤ w10.heap.size := by omega
  have B_19 := B_17.trans (b.mono (by omega))
  clear B_17 b
  go_wp2_with fail
  refine (heldIntS_any _ 0 _ 1 _ (rm _ _) (by omega) (by omega)).mono ?_
  rintro e w11 ⟨rfl, rfl⟩
  go_wp2_with fail
  refine (toIntS_any A n c xs _ (HR.out.below B_19 (Nat.le_refl _)) hN).mono ?_
  rintro e w11 ⟨rfl, o, b⟩
  have t_21 := b.size
  have z_21 : w.heap.size ≤ w11.heap.size := by omega
  have B_21 := B_19.trans (b.mono (by omega))
  clear B_19 b
  have a_21 := Ow.of o
  clear o
  go_wp2_with fail
  refine (iBag_no l _ n _ xs _ a_21.rd hN h).mono ?_
  rintro e w12 ⟨rfl, b⟩
  have t_23 := b.size
  have z_23 : w.heap.size ≤ w12.heap.size := by omega
  have a_24 := a_21.same (same_below b (by omega))
  clear a_21
  have B_23 := B_21.trans (b.mono (by omega))
  clear B_21 b
  clear a_24
  go_wp2_with fail
  refine (eqIntS_same _ _ 0 _ _ [] _ (rn _ _) (rn _ _) (by omega)).mono ?_
  rintro e w13 ⟨rfl, b⟩
  have t_25 := b.size
  have z_25 : w.heap.size ≤ w13.heap.size := by omega
  have B_25 := B_23.trans (b.mono (by omega))
  clear B_23 b
  go_wp2_with fail
  refine (heldIntS_any _ 0 _ 1 _ (rm _ _) (by omega) (by omega)).mono ?_
  rintro e w14 ⟨rfl, rfl⟩
  go_wp2_with fail
  go_ret
  exact ⟨rfl, B_25⟩

theorem walk (w : World) (l : Int) (A : Option Addr) (n c : Nat) (xs : List Int) (_ : (Lit.int .i64 l).wf = true) (hl : n ≤ c) (hm : c ≤ maxLen) (hr : Rd w A n (xs.map (Value.int .i64))) (_ : ∀ z ∈ xs, (Lit.int .i64 z).wf = true) : Calls Try.prog 8 #[.int .i64 l, .slice A n c] w fun e w' => e = .returned (.bool true) ∧ Below w.heap.size w w' := by
  unfold maxLen at hm
  have HR := Lib.hid hr
  clear hr
  have hs : n ≤ 9223372036854775807 := by omega
  clear hm hl
  by_cases hn : n ≤ 1048576
  · by_cases h : bagOk l xs
    · exact walk_yes w l A n c xs HR hn (by omega) h
    · exact walk_no w l A n c xs HR hn (by omega) h
  · go_enter Try.func8, Try.ntmps8
    go_wp2_with fail
    go_ret
    exact ⟨rfl, Below.refl _ _⟩

theorem walks : Walks 8 Try.f8 := by
  intro H enc W base args ds ps hval hA _
  rw [Try.params8] at hA hval
  obtain ⟨v0, vs0, d0, ds0, p0, q0, hargs, rfl, rfl, h0, r0⟩ := trodAll_cons hA
  obtain ⟨v1, vs1, d1, ds1, p1, q1, rfl, rfl, rfl, h1, r1⟩ := trodAll_cons r0
  obtain ⟨rfl, rfl, rfl⟩ := trodAll_nil r1
  obtain rfl : args = #[v0, v1] := by cases args; simp_all
  obtain ⟨a0, rfl, rfl, rfl, w0⟩ := open_int Try.underlying3 (hval 0 3 v0 rfl rfl) h0
  obtain ⟨f1, y1, z1⟩ := slice_cell Try.underlying27 (hval 1 27 v1 rfl rfl) h1
  obtain ⟨A1, n1, c1, a1, rfl, hl1, hm1, hr1, w1⟩ := open_ints_rd Try.underlying27 (by kernel_rfl) Try.underlying3 z1
  exact walk (w := W) a0 A1 n1 c1 a1 w0 hl1 hm1 hr1 w1

set_option maxRecDepth 100000 in
theorem lifted (os : Os) (started : os.Started) (H : Type) (enc : TypeId × Value → H) :
    ReturnsInHanded {} Try.checked os 8 .any (Rows.fnExactBagSpec.pre6 enc Try.prog Try.f8 Rows.fnExactBagRow.domain false) (Rows.fnExactBagSpec.post enc Try.prog Try.f8 false true false false) :=
  law_lifted started (by kernel_rfl) Try.func8
    (ChangeSpec.witness6 (enc := enc) (C := Try.checked) false ⟨#[], #[.int .i64 0, .slice none 0 0], []⟩ 8 (by kernel_rfl) (by kernel_rfl) (by kernel_rfl) (by kernel_rfl))
    rfl rfl Try.underlying4 (fun ds h => match ds, h with | [_, _], _ => rfl) (by
      rw [Try.params8]
      intro t ht
      simp only [List.mem_cons, List.not_mem_nil, or_false] at ht
      rcases ht with rfl | rfl <;> exact ⟨by kernel_rfl, of_decide_eq_true (by kernel_rfl)⟩) walks

theorem over : Rows.fnExactBagRow.holds Try.pinned (OpenSpec.ofChange Rows.fnExactBagSpec) :=
  OpenClaim.holds_of_wide 8 Try.f8 rfl rfl rfl rfl rfl rfl rfl ⟨rfl, rfl, rfl, rfl, rfl⟩ rfl rfl rfl rfl rfl (by kernel_rfl) Try.func8 (by kernel_rfl)
    (of_decide_eq_true (by kernel_rfl)) (by unfold Func.isWrapper; first | (rw [if_pos (by decide +kernel)]; kernel_rfl) | (rw [if_neg (by decide +kernel)]; exact ⟨rfl, rfl⟩))
    (fun os started H enc _ => lifted os started H enc)

theorem proved : Rows.FnExactBagSaid := over
#print axioms proved

end LawBag
end Go.Proofs.Ytfdpfeaegcfglaa
