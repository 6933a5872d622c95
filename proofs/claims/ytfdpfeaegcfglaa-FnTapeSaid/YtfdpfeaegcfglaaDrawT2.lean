/-
  DrawTakeSubset.
-/
import Derived.Test.YtfdpfeaegcfglaaDrawT
namespace Go.Proofs.Ytfdpfeaegcfglaa
open Go.RowKit
set_option linter.unusedSimpArgs false
set_option linter.unusedVariables false
theorem Bx_drew {w : World} {b : Nat} {t : TypeId} {cs : Array Value} (h : Bx w b t cs) : Bx w.drew b t cs := h.same (fun _ _ _ => rfl)
/-- A pick from a list in a block of its own, whatever was written since. -/
theorem pickRow (g : Nat) (A : Option Addr) (n c : Nat) (bs : List Int) (w : World) (b : Nat) (T : TypeId) (hx : Bx w b T #[.int .i64 1, .int .i64 2, .int .i64 3, .int .i64 10, .int .i64 0, .int .i64 (-1)]) (hb : b ≠ g)
    (hu : ∀ z ∈ bs, 0 ≤ z ∧ z ≤ 255) (hn : n ≤ 1073741824) (h : Cur w g A n c bs) :
    Calls Try.prog 57 #[.pointer (some ⟨g, 0, none⟩), .slice (some ⟨b, 0, none⟩) 6 6] w (PickR g A n c bs [1, 2, 3, 10, 0, -1] w) := by
  refine l1PickInt_any g A (some ⟨b, 0, none⟩) n c 6 6 bs [1, 2, 3, 10, 0, -1] w hu hn h ⟨rfl, fun _ => ⟨b, 0, rfl, hx.lt, fun j v hv => ?_⟩⟩ (fun a ha => ?_) (by omega) (by omega)
  · rw [Nat.zero_add, hx.cells j, ← hv]
    rcases j with _ | _ | _ | _ | _ | _ | j <;> rfl
  · obtain rfl : (⟨b, 0, none⟩ : Addr) = a := by simpa using ha
    exact hb
set_option maxRecDepth 20000 in
set_option maxHeartbeats 2000000 in
theorem sDrawTakeSubset_any (A : Option Addr) (n c : Nat) (bs : List Int) (w : World) (h : Rd w A n (bs.map (Value.int .u8))) (hu : ∀ z ∈ bs, 0 ≤ z ∧ z ≤ 255) (hn : n ≤ 1073741824) :
    Calls Try.prog 51 #[.slice A n c] w fun e w' => ∃ (A' : Option Addr) (c' m : Nat) (ys : List Int) (i nn k : Int), e = .returned (.tuple #[.agg #[.slice A' m c', .int .i64 i], .int .i64 nn, .int .i64 k]) ∧ m ≤ 601 ∧ w'.ownsRow w.heap.size 5 1 (.slice A' m c') m (ys.map (Value.int .u8)) ∧ (∀ z ∈ ys, 0 ≤ z ∧ z ≤ 255) ∧ Below w.heap.size w w' := by
  have HU := Lib.hid hu
  have HR := Lib.hid (h.below (below_alloc1 (.cells #[.slice none 0 0, .int .i64 0] 49)) (Nat.le_refl _))
  have b1 : Bx (w.alloc (.cells #[.slice none 0 0, .int .i64 0] 49)) w.heap.size 49 #[.slice none 0 0, .int .i64 0] := Bx.new _ _ _
  have HX0 : Hid (Below w.heap.size w (w.alloc (.cells #[.slice none 0 0, .int .i64 0] 49))) := below_alloc1 _
  clear h hu
  go_enter Try.func51, Try.ntmps51
  go_wp2_with fail
  refine (l1New_any A n c bs _ HR.out HU.out hn).mono ?_
  rintro e v0 ⟨g, rfl, hg, hc, hb⟩
  simp only [World.size_alloc] at hg hb
  have s0 := hb.size
  simp only [World.size_alloc] at s0
  have HB := Lib.hid (HX0.out.trans (hb.mono (by omega))); have HC := Lib.hid hc
  have HR0 := Lib.hid (b1.same (same_below hb (by omega)))
  have hgw := hc.lt
  clear hb hc b1 HR HX0
  go_wp2_with fail
  refine (l15Draw_any g A n c bs _ HU.out hn HC.out).mono ?_
  rintro e v1 ⟨A1, c1, M, ys, i, rfl, hM, own, hy, hc, ho⟩
  have s1 := ho.size
  have HY := Lib.hid hy; have HC1 := Lib.hid (hc.below (below_alloc1 (.cells #[.slice A1 M c1, .int .i64 i] 49)) (Nat.le_refl _))
  have HW1 := Lib.hid ((Ow.of own).same (same_alloc (.cells #[.slice A1 M c1, .int .i64 i] 49) (Nat.le_refl _)))
  have HR1 := Lib.hid ((HR0.out.same (same_only ho (by omega) (by omega))).same (same_alloc (.cells #[.slice A1 M c1, .int .i64 i] 49) (by omega)))
  have HB1 := Lib.hid (((Only.of_below (l := g) (h := g + 1) (Below.refl v0.heap.size v0) (Nat.le_refl _)).trans ho).below_ (below_alloc1 (.cells #[.slice A1 M c1, .int .i64 i] 49)) s1)
  clear ho hc own hy HR0 HC
  go_wp2_with fail
  refine (pickLitAt g A n c 7 bs [1, 3, 5, 5, 20, 21, 0] _ _ _ _ (by simp only [World.size_alloc]) rfl rfl (by omega) (by omega) HU.out hn HC1.out).mono ?_
  rintro e v2 ⟨nn, rfl, _, hc, ho⟩
  have s2 := ho.size
  simp only [World.size_alloc] at s2
  have HC2 := Lib.hid hc
  have HT2 := Lib.hid ((Bx.new v1 49 #[.slice A1 M c1, .int .i64 i]).same (same_only ho (by omega) (by simp)))
  have HW2 := Lib.hid (HW1.out.same (same_only ho (by omega) (by simp)))
  have HR2 := Lib.hid (HR1.out.same (same_only ho (by omega) (by simp; omega)))
  have HB2 := Lib.hid (HB1.out.trans ho)
  have k0 : v2.cell? ⟨v1.heap.size, 0, none⟩ = some (.slice A1 M c1) := HT2.out.cells 0
  have k1 : v2.cell? ⟨v1.heap.size, 1, none⟩ = some (.int .i64 i) := HT2.out.cells 1
  have r0 : v2.cell? ⟨w.heap.size, 0, none⟩ = some (.slice none 0 0) := HR2.out.cells 0
  have r1 : v2.cell? ⟨w.heap.size, 1, none⟩ = some (.int .i64 0) := HR2.out.cells 1
  have q0 := HR2.out.free 0; have q1 := HR2.out.free 1
  clear ho hc HC1 HW1 HR1 HB1
  go_wp2_with fail
  have hl2 : v1.heap.size < v2.heap.size := by omega
  have hne2 : v1.heap.size ≠ w.heap.size := by omega
  go_region_held3 (fun w' => w'.cell? ⟨v1.heap.size, 0, none⟩ = some (.slice A1 M c1) ∧ w'.cell? ⟨v1.heap.size, 1, none⟩ = some (.int .i64 i))
    (first
      | exact ⟨k30, k31⟩
      | exact ⟨k0, k1⟩
      | exact ⟨(Below.cell (p := ⟨v1.heap.size, 0, none⟩) (below_alloc1 (w := v2) _) hl2).trans k0, (Below.cell (p := ⟨v1.heap.size, 1, none⟩) (below_alloc1 (w := v2) _) hl2).trans k1⟩
      | exact ⟨(cell_far2 hne2).trans k30, (cell_far2 hne2).trans k31⟩)
    ((go_at_call 57; refine (pickRow g A n c bs _ v2.heap.size 3 ?hx ?hne HU.out hn ?hc).mono ?_; (case hx => first | exact Bx.new _ _ _ | exact Bx_drew (Bx.new _ _ _) | exact Bx.new v2.drew _ _); (case hne => omega); (case hc => exact HC2.out.below (B := v2.heap.size) (by first | exact below_alloc1 _ | exact (below_alloc1 _).drew | exact ((Below.refl _ _).drew).alloc (by simp) _) (Nat.le_refl _)); rintro e w3 ⟨kk, rfl, _, hc, ho⟩; have ho2 : Only g (g + 1) v2 w3 := (Only.of_below (B := v2.heap.size) (by first | exact below_alloc1 _ | exact (below_alloc1 _).drew | exact ((Below.refl _ _).drew).alloc (by simp) _) (Nat.le_refl _)).trans ho; have s3 := ho2.size; have HT3 := Lib.hid (HT2.out.same (same_only ho2 (by omega) (by omega))); have HR3 := Lib.hid (HR2.out.same (same_only ho2 (by omega) (by omega))); have k30 : w3.cell? ⟨v1.heap.size, 0, none⟩ = some (.slice A1 M c1) := HT3.out.cells 0; have k31 : w3.cell? ⟨v1.heap.size, 1, none⟩ = some (.int .i64 i) := HT3.out.cells 1; have r30 : w3.cell? ⟨w.heap.size, 0, none⟩ = some (.slice none 0 0) := HR3.out.cells 0; have r31 : w3.cell? ⟨w.heap.size, 1, none⟩ = some (.int .i64 0) := HR3.out.cells 1; have q30 := HR3.out.free 0; have q31 := HR3.out.free 1; have HO2 := Lib.hid ho2; clear hc ho ho2))
  all_goals (go_wp2_with fail)
  all_goals (refine bodyPost_ret (v := .tuple #[.agg #[.slice A1 M c1, .int .i64 i], .int .i64 nn, .int .i64 kk]) (by simp [results, Try.results51, go_sem, r30, r31, q30, q31]) rfl ⟨A1, c1, M, ys, i, nn, kk, rfl, hM, ?_, HY.out, ?_⟩)
  all_goals first
    | exact own_base (((HW2.out.same (same_only HO2.out (by omega) (by omega))).same (same_set (by omega))).same (same_set (by omega))).own (by omega)
    | exact (HB.out.trans ((HB2.out.trans HO2.out).below (B := w.heap.size) (by omega) (by omega))).trans (by have hb := Below.refl w.heap.size w3; go_grown)

end Go.Proofs.Ytfdpfeaegcfglaa
