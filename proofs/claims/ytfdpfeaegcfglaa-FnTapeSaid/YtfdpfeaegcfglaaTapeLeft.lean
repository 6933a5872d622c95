/-
  TapeLeft of both packages.
-/
import Derived.Test.YtfdpfeaegcfglaaTape
namespace Go.Proofs.Ytfdpfeaegcfglaa
open Go.RowKit
set_option linter.unusedSimpArgs false

set_option maxHeartbeats 400000 in
theorem sTapeLeft_any (A : Option Addr) (n c : Nat) (i : Int) (w : World) : Calls Try.prog 52 #[.agg #[.slice A n c, .int .i64 i]] w fun e w' => e = .returned (.int .i64 (leftI n i)) ∧ Below w.heap.size w w' := by
  have HB := Lib.hid (Below.refl (w.heap.size + 1) (w.alloc (.cells #[.slice A n c, .int .i64 i] 49)))
  cases h : tapeB n i
  · have HT := Lib.hid (show leftI n i = 0 by simp [leftI, h])
    go_enter Try.func52, Try.ntmps52
    go_wp2_with fail
    refine (lift (sTapeOk_any A n c i _) HB.out (by simp)).mono ?_
    rw [h]
    rintro e w1 ⟨rfl, hb⟩
    have HB1 := Lib.hid hb
    clear hb
    go_wp2_with fail
    go_ret
    exact ⟨by rw [HT.out]; rfl, fin_below HB1.out (by go_grown) (by omega)⟩
  · have HT := Lib.hid (show leftI n i = n - i by simp [leftI, h])
    obtain ⟨h1, h2⟩ : n ≤ 600 ∧ inB i 0 n = true := by simpa [tapeB] using h
    obtain ⟨i1, i2⟩ := inB_iff.1 h2
    clear h2
    go_enter Try.func52, Try.ntmps52
    go_wp2_with fail
    refine (lift (sTapeOk_any A n c i _) HB.out (by simp)).mono ?_
    rw [h]
    rintro e w1 ⟨rfl, hb⟩
    obtain ⟨bc, bf, bz⟩ := bcell hb
    have c00 : w1.cell? ⟨w.heap.size, 0, none⟩ = some (.slice A n c) := by rw [bc _ _ (by omega)]; simp [go_sem]
    have c01 : w1.cell? ⟨w.heap.size, 1, none⟩ = some (.int .i64 i) := by rw [bc _ _ (by omega)]; simp [go_sem]
    have HB1 := Lib.hid hb
    clear hb bc bf
    go_wp2_with fail
    go_ret
    exact ⟨by rw [HT.out]; rfl, fin_below HB1.out (by go_grown) (by omega)⟩

set_option maxHeartbeats 400000 in
theorem iTapeLeft_any (A : Option Addr) (n c : Nat) (i : Int) (w : World) : Calls Try.prog 53 #[.agg #[.slice A n c, .int .i64 i]] w fun e w' => e = .returned (.int .i64 (leftI n i)) ∧ Below w.heap.size w w' := by
  have HB := Lib.hid (Below.refl (w.heap.size + 1) (w.alloc (.cells #[.slice A n c, .int .i64 i] 49)))
  cases h : tapeB n i
  · have HT := Lib.hid (show leftI n i = 0 by simp [leftI, h])
    go_enter Try.func53, Try.ntmps53
    go_wp2_with fail
    refine (lift (iTapeOk_any A n c i _) HB.out (by simp)).mono ?_
    rw [h]
    rintro e w1 ⟨rfl, hb⟩
    have HB1 := Lib.hid hb
    clear hb
    go_wp2_with fail
    go_ret
    exact ⟨by rw [HT.out]; rfl, fin_below HB1.out (by go_grown) (by omega)⟩
  · have HT := Lib.hid (show leftI n i = n - i by simp [leftI, h])
    obtain ⟨h1, h2⟩ : n ≤ 600 ∧ inB i 0 n = true := by simpa [tapeB] using h
    obtain ⟨i1, i2⟩ := inB_iff.1 h2
    clear h2
    go_enter Try.func53, Try.ntmps53
    go_wp2_with fail
    refine (lift (iTapeOk_any A n c i _) HB.out (by simp)).mono ?_
    rw [h]
    rintro e w1 ⟨rfl, hb⟩
    obtain ⟨bc, bf, bz⟩ := bcell hb
    have c00 : w1.cell? ⟨w.heap.size, 0, none⟩ = some (.slice A n c) := by rw [bc _ _ (by omega)]; simp [go_sem]
    have c01 : w1.cell? ⟨w.heap.size, 1, none⟩ = some (.int .i64 i) := by rw [bc _ _ (by omega)]; simp [go_sem]
    have HB1 := Lib.hid hb
    clear hb bc bf
    go_wp2_with fail
    go_ret
    exact ⟨by rw [HT.out]; rfl, fin_below HB1.out (by go_grown) (by omega)⟩

end Go.Proofs.Ytfdpfeaegcfglaa
