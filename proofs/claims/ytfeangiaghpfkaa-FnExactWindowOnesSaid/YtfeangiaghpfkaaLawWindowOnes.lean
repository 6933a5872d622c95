/-
  Proved: laws.FnExactWindowOnes returns true for every window. Conditions: none.
-/
import Derived.Test.YtfeangiaghpfkaaSum
import Derived.Test.YtfeangiaghpfkaaOpenSS
import Derived.Test.YtfeangiaghpfkaaObj
namespace Go.Proofs.Ytfeangiaghpfkaa
open Go.ChangeShapes Go.WideShapes Go.ChangeAt Go.RowKit Go.Deep
namespace LawWindowOnes
set_option linter.unusedSimpArgs false
set_option linter.unusedVariables false

theorem i64wf {z : Int} (h : (Lit.int .i64 z).wf = true) : -9223372036854775808 ≤ z ∧ z ≤ 9223372036854775807 := by
  simp [Lit.wf, IntKind.min, IntKind.max, IntKind.bits, IntKind.signed] at h
  omega
/-- toWindow, read from an earlier world on. -/
theorem to (A : Option Addr) (n c : Nat) (hs : List Hd) (xss : List (List Int)) (w W0 : World) (B : Nat) (h : RdSS w A n hs (iss xss)) (hn : n ≤ 1048576) (hb : totI xss ≤ 1048576) (hB : Below B W0 w) (hs' : B ≤ W0.heap.size) :
    Calls Try.prog 15 #[.agg #[.slice A n c]] w fun e w' => (∃ g gs, e = .returned (.agg #[.slice (some ⟨g, 0, none⟩) n n]) ∧ OwSS w.heap.size w'.heap.size w' (some ⟨g, 0, none⟩) n n gs (iss xss)) ∧ Below B W0 w' :=
  lift ((toWindow_any A n c hs xss w h hn hb).mono fun _ _ ⟨g, gs, h1, h2, h3⟩ => ⟨⟨g, gs, h1, h2⟩, h3⟩) hB hs'

set_option maxHeartbeats 4000000 in
theorem walk (w : World) (A : Option Addr) (n c : Nat) (hs : List Hd) (xss : List (List Int)) (hl : n ≤ c) (hm : c ≤ maxLen) (hr : RdSS w A n hs (iss xss)) (hb : ∀ x ∈ hs, x.2.1 ≤ x.2.2 ∧ x.2.2 ≤ maxLen) (hw : ∀ xs ∈ xss, ∀ z ∈ xs, (Lit.int .i64 z).wf = true) :
    Calls Try.prog 5 #[.agg #[.slice A n c]] w fun e w' => e = .returned (.bool true) ∧ Below w.heap.size w w' := by
  unfold maxLen at hm hb
  have HR := Lib.hid hr
  have HBd : Hid (∀ x ∈ hs, x.2.1 ≤ 9223372036854775807) := fun x hx => by have := hb x hx; omega
  have HW : Hid (∀ xs ∈ xss, ∀ x ∈ xs, -9223372036854775808 ≤ x ∧ x ≤ 9223372036854775807) := fun xs h1 x h2 => i64wf (hw xs h1 x h2)
  have HT := Lib.hid (tot_iss xss)
  clear hr hb hw
  by_cases hn : (n : Int) + (tot (iss xss) : Int) ≤ 1048576
  · have HZ := Lib.hid (szI_yes hn)
    have ht : totI xss = tot (iss xss) := HT.out.symm
    have B0 := Below.refl w.heap.size w
    have s0 : w.heap.size ≤ w.heap.size := Nat.le_refl _
    go_enter Try.func5, Try.ntmps5
    have p_2 : Bx (w.alloc (.cells #[.slice A n c] 24)) (w.heap.size) 24 #[.slice A n c] := Bx.new _ _ _
    have B_2 := B0.alloc s0 (.cells #[.slice A n c] 24)
    clear B0
    have cp_3 := p_2.cells
    have fp_3 := p_2.free
    go_wp2_with fail
    refine (szWindow_any A n c hs (iss xss) 1048576 _ (by omega) (by omega) (by omega) (HR.out.below B_2 (Nat.le_refl _)) HBd.out).mono ?_
    rw [HZ.out]
    rintro e w1 ⟨rfl, b⟩
    clear cp_3 fp_3
    simp only [World.size_alloc] at b
    have t_4 := b.size
    simp only [World.size_alloc] at t_4
    have z_4 : w.heap.size ≤ w1.heap.size := by omega
    have p_5 := p_2.same (same_below b (by omega))
    clear p_2
    have B_4 := B_2.trans (b.mono (by omega))
    clear B_2 b
    have cp_6 := p_5.cells
    have fp_6 := p_5.free
    go_wp2_with fail
    refine (toWindow_any A n c hs xss _ (HR.out.below B_4 (Nat.le_refl _)) (by omega) (by omega)).mono ?_
    rintro e w2 ⟨g1, gsd, rfl, o, b⟩
    clear cp_6 fp_6
    have t_7 := b.size
    have z_7 : w.heap.size ≤ w2.heap.size := by omega
    have p_8 := p_5.same (same_below b (by omega))
    clear p_5
    have B_7 := B_4.trans (b.mono (by omega))
    clear B_4 b
    have d_7 := o
    clear o
    have cp_9 := p_8.cells
    have fp_9 := p_8.free
    go_wp2_with fail
    refine (sWindowOnes_any _ _ _ _ xss _ d_7.rd (by omega) (by omega)).mono ?_
    rintro e w3 ⟨rfl, b⟩
    clear cp_9 fp_9
    have t_10 := b.size
    have z_10 : w.heap.size ≤ w3.heap.size := by omega
    have p_11 := p_8.same (same_below b (by omega))
    clear p_8
    have d_11 := d_7.same (same_below b (by omega))
    clear d_7
    have B_10 := B_7.trans (b.mono (by omega))
    clear B_7 b
    have cp_12 := p_11.cells
    have fp_12 := p_11.free
    clear d_11
    go_wp2_with fail
    refine (toWindow_any A n c hs xss _ (HR.out.below B_10 (Nat.le_refl _)) (by omega) (by omega)).mono ?_
    rintro e w4 ⟨g2, gsx, rfl, o, b⟩
    clear cp_12 fp_12
    have t_13 := b.size
    have z_13 : w.heap.size ≤ w4.heap.size := by omega
    have p_14 := p_11.same (same_below b (by omega))
    clear p_11
    have B_13 := B_10.trans (b.mono (by omega))
    clear B_10 b
    have x_13 := o
    clear o
    have cp_15 := p_14.cells
    have fp_15 := p_14.free
    clear cp_15 fp_15
    have p_16 := p_14.same (same_alloc (.cells #[.slice (some ⟨g2, 0, none⟩) n n] 27) (by omega))
    clear p_14
    have x_16 := x_13.same (same_alloc (.cells #[.slice (some ⟨g2, 0, none⟩) n n] 27) (by omega))
    clear x_13
    have x0_17 : Bx (w4.alloc (.cells #[.slice (some ⟨g2, 0, none⟩) n n] 27)) (w4.heap.size) 27 #[.slice (some ⟨g2, 0, none⟩) n n] := Bx.new _ _ _
    have B_17 := B_13.alloc z_13 (.cells #[.slice (some ⟨g2, 0, none⟩) n n] 27)
    clear B_13
    have cp_18 := p_16.cells
    have fp_18 := p_16.free
    have cx0_19 := x0_17.cells
    have fx0_19 := x0_17.free
    go_wp2_with fail
    refine (iWindowOnes_any _ _ _ _ xss _ x_16.rd (by omega) (by omega) HW.out).mono ?_
    rintro e w5 ⟨rfl, b⟩
    clear cp_18 fp_18
    clear cx0_19 fx0_19
    simp only [World.size_alloc] at b
    have t_20 := b.size
    simp only [World.size_alloc] at t_20
    have z_20 : w.heap.size ≤ w5.heap.size := by omega
    have p_21 := p_16.same (same_below b (by omega))
    clear p_16
    have x_21 := x_16.same (same_below b (by omega))
    clear x_16
    have x0_21 := x0_17.same (same_below b (by omega))
    clear x0_17
    have B_20 := B_17.trans (b.mono (by omega))
    clear B_17 b
    have cp_22 := p_21.cells
    have fp_22 := p_21.free
    have cx0_23 := x0_21.cells
    have fx0_23 := x0_21.free
    go_wp2_with fail
    have lp_24 := p_21.lt
    have dp0_24 : w5.cell? ⟨w.heap.size, 0, none⟩ = some (.slice A n c) := p_21.cells 0
    have lx0_24 := x0_21.lt
    have dx00_24 : w5.cell? ⟨w4.heap.size, 0, none⟩ = some (.slice (some ⟨g2, 0, none⟩) n n) := x0_21.cells 0
    clear cp_22 fp_22
    clear cx0_23 fx0_23
    have HA_24 := Lib.hid B_20
    go_region_held3 (fun w' => w'.cell? ⟨w.heap.size, 0, none⟩ = some (.slice A n c) ∧ w'.cell? ⟨w4.heap.size, 0, none⟩ = some (.slice (some ⟨g2, 0, none⟩) n n) ∧ Below w5.heap.size w5 w')
      (first
        | exact ⟨dp0_24, dx00_24, (Below.refl _ _).drew⟩
        | exact ⟨(Below.cell (p := ⟨w.heap.size, 0, none⟩) b7 lp_24).trans dp0_24, (Below.cell (p := ⟨w4.heap.size, 0, none⟩) b7 lx0_24).trans dx00_24, b7⟩
        | exact ⟨(Below.cell (p := ⟨w.heap.size, 0, none⟩) b6 lp_24).trans dp0_24, (Below.cell (p := ⟨w4.heap.size, 0, none⟩) b6 lx0_24).trans dx00_24, b6⟩)
      (first
        | (go_at_call 15; go_split_ands; refine (to A n c hs xss _ w5 w5.heap.size (HR.out.below (HA_24.out.trans (Below.mono (by assumption) HA_24.out.size)) (Nat.le_refl _)) (by omega) (by omega) (by assumption) (Nat.le_refl _)).mono ?_; rintro e w' ⟨⟨g9, gs9, rfl, o6⟩, b6⟩)
        | (go_at_call 17; refine (lift (eqWindow_same _ _ _ _ _ _ _ xss _ (x_21.rd.below (by assumption) (Nat.le_refl _)) o6.rd (by omega) (by omega)) (by assumption) (Nat.le_refl _)).mono ?_; rintro e w6 ⟨rfl, b7⟩))
    have t_24 := b7.size
    have z_24 : w.heap.size ≤ w6.heap.size := by omega
    have p_25 := p_21.same (same_below b7 (by omega))
    clear p_21
    have x_25 := x_21.same (same_below b7 (by omega))
    clear x_21
    have x0_25 := x0_21.same (same_below b7 (by omega))
    clear x0_21
    have B_24 := B_20.trans (b7.mono (by omega))
    clear B_20 b7
    have cp_26 := p_25.cells
    have fp_26 := p_25.free
    have cx0_27 := x0_25.cells
    have fx0_27 := x0_25.free
    go_wp2_with fail
    go_ret
    exact ⟨rfl, B_24⟩
  · have HZ := Lib.hid (szI_no (left := 1048576) (n := (n : Int) + (tot (iss xss) : Int)) (by omega))
    have B0 := Below.refl w.heap.size w
    have s0 : w.heap.size ≤ w.heap.size := Nat.le_refl _
    go_enter Try.func5, Try.ntmps5
    have p_2 : Bx (w.alloc (.cells #[.slice A n c] 24)) (w.heap.size) 24 #[.slice A n c] := Bx.new _ _ _
    have B_2 := B0.alloc s0 (.cells #[.slice A n c] 24)
    clear B0
    have cp_3 := p_2.cells
    have fp_3 := p_2.free
    go_wp2_with fail
    refine (szWindow_any A n c hs (iss xss) 1048576 _ (by omega) (by omega) (by omega) (HR.out.below B_2 (Nat.le_refl _)) HBd.out).mono ?_
    rw [HZ.out]
    rintro e w1 ⟨rfl, b⟩
    clear cp_3 fp_3
    simp only [World.size_alloc] at b
    have t_4 := b.size
    simp only [World.size_alloc] at t_4
    have z_4 : w.heap.size ≤ w1.heap.size := by omega
    have p_5 := p_2.same (same_below b (by omega))
    clear p_2
    have B_4 := B_2.trans (b.mono (by omega))
    clear B_2 b
    have cp_6 := p_5.cells
    have fp_6 := p_5.free
    go_wp2_with fail
    go_ret
    exact ⟨rfl, B_4⟩

theorem walks : Walks 5 Try.f5 := by
  intro H enc W base args ds ps hval hA _
  rw [Try.params5] at hA hval
  obtain ⟨v0, vs0, d0, ds0, p0, q0, hargs, rfl, rfl, h0, r0⟩ := trodAll_cons hA
  obtain ⟨rfl, rfl, rfl⟩ := trodAll_nil r0
  obtain rfl : args = #[v0] := by cases args; simp_all
  obtain ⟨cs0, rfl, hl0, nn0, hf0⟩ := open_agg Try.underlying24 (by kernel_rfl) (by kernel_rfl) (hval 0 24 v0 rfl rfl) h0
  obtain ⟨c0_0, _, e0_0, y0_0⟩ := hf0 0 _ rfl
  obtain ⟨a0_0, rfl⟩ : ∃ a0_0, cs0 = [a0_0] := by
    match cs0, hl0 with
    | [a0], _ => exact ⟨a0, rfl⟩
  simp only [List.getElem?_cons_zero, List.getElem?_cons_succ, Option.some.injEq] at e0_0
  subst e0_0
  obtain ⟨A0_0, n0_0, c0_0, g0_0, x0_0, rfl, hl0_0, hm0_0, hr0_0, hb0_0, w0_0⟩ := open_rows Try.underlying22 (by kernel_rfl) Try.underlying55 (by kernel_rfl) Try.underlying3 y0_0
  exact walk (w := W) A0_0 n0_0 c0_0 g0_0 x0_0 hl0_0 hm0_0 hr0_0 hb0_0 w0_0

set_option maxRecDepth 100000 in
theorem lifted (os : Os) (started : os.Started) (H : Type) (enc : TypeId × Value → H) :
    ReturnsInHanded {} Try.checked os 5 .any (Rows.fnExactWindowOnesSpec.pre6 enc Try.prog Try.f5 Rows.fnExactWindowOnesRow.domain false) (Rows.fnExactWindowOnesSpec.post enc Try.prog Try.f5 false true false false) :=
  law_lifted started (by kernel_rfl) Try.func5
    (ChangeSpec.witness6 (enc := enc) (C := Try.checked) false ⟨#[], #[.agg #[.slice none 0 0]], []⟩ 8 (by kernel_rfl) (by kernel_rfl) (by kernel_rfl) (by kernel_rfl))
    rfl rfl Try.underlying4 (fun ds h => match ds, h with | [_], _ => rfl) (by
      rw [Try.params5]
      intro t ht
      simp only [List.mem_cons, List.not_mem_nil, or_false] at ht
      subst ht
      exact ⟨by kernel_rfl, of_decide_eq_true (by kernel_rfl)⟩) walks

theorem over : Rows.fnExactWindowOnesRow.holds Try.pinned (OpenSpec.ofChange Rows.fnExactWindowOnesSpec) :=
  OpenClaim.holds_of_wide 5 Try.f5 rfl rfl rfl rfl rfl rfl rfl ⟨rfl, rfl, rfl, rfl, rfl⟩ rfl rfl rfl rfl rfl (by kernel_rfl) Try.func5 (by kernel_rfl)
    (of_decide_eq_true (by kernel_rfl)) (by unfold Func.isWrapper; first | (rw [if_pos (by decide +kernel)]; kernel_rfl) | (rw [if_neg (by decide +kernel)]; exact ⟨rfl, rfl⟩))
    (fun os started H enc _ => lifted os started H enc)

theorem proved : Rows.FnExactWindowOnesSaid := over
#print axioms proved

end LawWindowOnes
end Go.Proofs.Ytfeangiaghpfkaa
