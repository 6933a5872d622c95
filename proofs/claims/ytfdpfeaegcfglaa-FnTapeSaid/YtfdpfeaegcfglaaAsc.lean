/-
  impl.ascending: whether each number is greater than the one before.
-/
import Derived.Test.YtfdpfeaegcfglaaBase
namespace Go.Proofs.Ytfdpfeaegcfglaa
open Go.RowKit
set_option linter.unusedSimpArgs false

def ascB (xs : List Int) : Bool := (List.range (xs.length - 1)).all fun i => decide (xs.getD i 0 < xs.getD (i + 1) 0)
theorem ascB_iff (xs : List Int) : ascB xs = true ↔ ∀ i, i + 1 < xs.length → xs.getD i 0 < xs.getD (i + 1) 0 := by
  unfold ascB
  rw [List.all_eq_true]
  constructor
  · intro h i hi
    simpa using h i (List.mem_range.2 (by omega))
  · intro h i hi
    have := List.mem_range.1 hi
    simpa using h i (by omega)
theorem ascB_no {xs : List Int} {i : Nat} (hi : i + 1 < xs.length) (h : ¬ xs.getD i 0 < xs.getD (i + 1) 0) : ascB xs = false := by
  cases hc : ascB xs
  · rfl
  · exact absurd ((ascB_iff xs).1 hc i hi) h

theorem getCell {xs : List Int} {k : Nat} (hk : k < xs.length) : (xs.map (Value.int .i64))[k]? = some (.int .i64 (xs.getD k 0)) := by simp [List.getD, hk]

set_option maxHeartbeats 1000000 in
theorem iAscending_any (A : Option Addr) (n c : Nat) (xs : List Int) (w : World) (h : Rd w A n (xs.map (Value.int .i64))) (hn : n ≤ 1073741824) :
    Calls Try.prog 66 #[.slice A n c] w fun e w' => e = .returned (.bool (ascB xs)) ∧ Below w.heap.size w w' := by
  have hlen : xs.length = n := by simpa using h.len
  have HL := Lib.hid hlen
  have H := Lib.hid h
  clear h hlen
  go_enter Try.func66, Try.ntmps66
  go_wp2_with fail
  go_loopw [3] (fun i wr => ∃ k : Nat, (k + 1 ≤ n ∨ k = 0) ∧ i = .int .i64 ((k : Int) + 1) ∧ Hid (∀ j, j < k → xs.getD j 0 < xs.getD (j + 1) 0) ∧ Below w.heap.size w wr) (fun i _ => n + 1 - (intOf i).toNat)
  case atStart => exact ⟨0, .inr rfl, rfl, (fun j hj => absurd hj (by omega)), Below.refl _ _⟩
  case round =>
    obtain ⟨k, hk, rfl, hgood, hbel⟩ := hrel
    by_cases hlt : k + 1 < n
    · obtain ⟨b, off, rfl, hbl, hc⟩ := H.out.ex (by omega)
      have hcell : wr.cell? ⟨b, off + k, none⟩ = some (.int .i64 (xs.getD k 0)) := (hbel.cell (p := ⟨b, off + k, none⟩) hbl).trans (hc k _ (getCell (by rw [HL.out]; omega)))
      have hcell1 : wr.cell? ⟨b, off + (k + 1), none⟩ = some (.int .i64 (xs.getD (k + 1) 0)) := (hbel.cell (p := ⟨b, off + (k + 1), none⟩) hbl).trans (hc (k + 1) _ (getCell (by rw [HL.out]; omega)))
      have HBel := Lib.hid hbel
      have hle : ∀ x : Int, x = x := fun _ => rfl
      obtain ⟨x, hx⟩ : ∃ x, xs.getD k 0 = x := ⟨_, rfl⟩
      obtain ⟨y, hy⟩ : ∃ y, xs.getD (k + 1) 0 = y := ⟨_, rfl⟩
      rw [hx] at hcell; rw [hy] at hcell1
      have HX := Lib.hid hx; have HY := Lib.hid hy
      clear hc hx hy hbel hk hle
      have n0 : (0 : Int) ≤ (k : Int) := Int.natCast_nonneg _
      have n1 : (k : Int) < (n : Int) := by omega
      have n2 : (0 : Int) ≤ (k : Int) + 1 := by omega
      have n3 : (k : Int) + 1 < (n : Int) := by omega
      have n4 : ((k : Int) + 1).toNat = k + 1 := by omega
      have n5 : IntKind.i64.wrap (k : Int) = k := IntWalk.i64_in _ (by omega)
      by_cases hxy : x < y
      · go_wp2_with fail
        go_quiet (fail)
        clear n4 n5
        go_wp2_with fail
        go_roundw
        case rel =>
          refine ⟨k + 1, .inl (by omega), by go_num, (fun j hj => ?_), Below.trans HBel.out (by repeat (first | exact Below.refl _ _ | apply below_drewN | apply Below.drew))⟩
          rcases Nat.lt_or_ge j k with h1 | h1
          · exact hgood.out j h1
          · obtain rfl : j = k := by omega
            rw [HX.out, HY.out]; exact hxy
        case measure => simp [intOf]; omega
      · have HA := Lib.hid (show ascB xs = false from ascB_no (i := k) (by rw [HL.out]; omega) (by rw [HX.out, HY.out]; exact hxy))
        have hyx : y ≤ x := by omega
        clear hxy
        go_wp2_with fail
        go_quiet (fail)
        clear n4 n5
        go_wp2_with fail
        go_ret
        exact ⟨by rw [HA.out]; rfl, Below.trans HBel.out (by repeat (first | exact Below.refl _ _ | apply below_drewN | apply Below.drew))⟩
    · have HA := Lib.hid (show ascB xs = true from (ascB_iff xs).2 fun i hi => hgood.out i (by rw [HL.out] at hi; omega))
      have HBel := Lib.hid hbel
      clear hbel
      go_wp2_with fail
      go_ret
      exact ⟨by rw [HA.out]; rfl, HBel.out⟩

end Go.Proofs.Ytfdpfeaegcfglaa
