/-
  spec.LnOf and impl.LnOf: each answers lnI k; the world stays as it is.
-/
import Derived.Test.YtnljlehbjdambaaIn
namespace Go.Proofs.Ytnljlehbjdambaa
open Go.RowKit

def lnI (k : Int) : Int := if inB k 1 9 then (k * 2302585 + 999) / 1000 else 0
theorem lnI_bd (k : Int) : 0 ≤ lnI k ∧ lnI k ≤ 20724 := by
  unfold lnI
  split
  · rename_i h; have := inB_iff.1 h; omega
  · omega

theorem iLnOf_any (k : Int) (w : World) : Calls Try.prog 33 #[.int .i64 k] w fun e w' => e = .returned (.int .i64 (lnI k)) ∧ w = w' := by
  by_cases h : 1 ≤ k ∧ k ≤ 9
  · obtain ⟨h1, h2⟩ := h
    have hb := inB_yes h1 h2
    have HL := Lib.hid (show lnI k = (k * 2302585 + 999) / 1000 by simp [lnI, hb])
    go_enter Try.func33, Try.ntmps33
    go_wp2_with (go_at_call 30; refine (within_any _ _ _ _).mono ?_; rintro e w' ⟨rfl, rfl⟩)
    go_ret
    exact ⟨by rw [HL.out]; rfl, rfl⟩
  · have hb := inB_no h
    have HL := Lib.hid (show lnI k = 0 by simp [lnI, hb])
    clear h
    go_enter Try.func33, Try.ntmps33
    go_wp2_with (go_at_call 30; refine (within_any _ _ _ _).mono ?_; rintro e w' ⟨rfl, rfl⟩)
    go_ret
    exact ⟨by rw [HL.out]; rfl, rfl⟩

end Go.Proofs.Ytnljlehbjdambaa
