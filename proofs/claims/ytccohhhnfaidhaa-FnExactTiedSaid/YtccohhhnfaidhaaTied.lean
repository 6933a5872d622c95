/-
  spec.Tied and impl.Tied: each answers tiedB.
-/
import Derived.Test.YtccohhhnfaidhaaRule
import Derived.Test.YtccohhhnfaidhaaLn
import Derived.Test.YtccohhhnfaidhaaMul
import Derived.Lib.QuietBelow
namespace Go.Proofs.Ytccohhhnfaidhaa
open Go.RowKit Go.Sort

def tiedB (s t g d n u m : Int) : Bool := ruleB s t g d n u && inB m 1 999 && decide (1000 * lnI s < 2 * m * t * t)
theorem tied_ways (a b : Bool) : a = false ∨ (a = true ∧ b = false) ∨ (a = true ∧ b = true) := by cases a <;> cases b <;> simp
theorem rule_tie {s t g d n u : Int} (h : ruleB s t g d n u = true) : 0 ≤ t ∧ t ≤ 999 := by
  simp only [ruleB, Bool.and_eq_true] at h
  exact inB_iff.1 h.1.1.1.1.2

set_option maxHeartbeats 1000000 in
theorem sTied_any (s t g d n u m : Int) (two : Bool) (w : World) : Calls Try.prog 23 #[ruleV s t g d n u two, .int .i64 m] w fun e w' => e = .returned (.bool (tiedB s t g d n u m)) ∧ Below w.heap.size w w' := by
  rcases tied_ways (ruleB s t g d n u) (inB m 1 999) with h1 | ⟨h1, h2⟩ | ⟨h1, h2⟩
  · have HT := Lib.hid (show tiedB s t g d n u m = false by simp [tiedB, h1])
    have f0 := cell_regrown (w := (w.alloc (.cells #[.int .i64 s, .int .i64 t, .int .i64 g, .int .i64 d, .int .i64 n, .int .i64 u, .bool two] 25))) (a := ⟨w.heap.size, 0, none⟩) (v := Value.int .i64 s) (by simp)
    have f1 := cell_regrown (w := (w.alloc (.cells #[.int .i64 s, .int .i64 t, .int .i64 g, .int .i64 d, .int .i64 n, .int .i64 u, .bool two] 25))) (a := ⟨w.heap.size, 1, none⟩) (v := Value.int .i64 t) (by simp)
    have f2 := cell_regrown (w := (w.alloc (.cells #[.int .i64 s, .int .i64 t, .int .i64 g, .int .i64 d, .int .i64 n, .int .i64 u, .bool two] 25))) (a := ⟨w.heap.size, 2, none⟩) (v := Value.int .i64 g) (by simp)
    have f3 := cell_regrown (w := (w.alloc (.cells #[.int .i64 s, .int .i64 t, .int .i64 g, .int .i64 d, .int .i64 n, .int .i64 u, .bool two] 25))) (a := ⟨w.heap.size, 3, none⟩) (v := Value.int .i64 d) (by simp)
    have f4 := cell_regrown (w := (w.alloc (.cells #[.int .i64 s, .int .i64 t, .int .i64 g, .int .i64 d, .int .i64 n, .int .i64 u, .bool two] 25))) (a := ⟨w.heap.size, 4, none⟩) (v := Value.int .i64 n) (by simp)
    have f5 := cell_regrown (w := (w.alloc (.cells #[.int .i64 s, .int .i64 t, .int .i64 g, .int .i64 d, .int .i64 n, .int .i64 u, .bool two] 25))) (a := ⟨w.heap.size, 5, none⟩) (v := Value.int .i64 u) (by simp)
    have f6 := cell_regrown (w := (w.alloc (.cells #[.int .i64 s, .int .i64 t, .int .i64 g, .int .i64 d, .int .i64 n, .int .i64 u, .bool two] 25))) (a := ⟨w.heap.size, 6, none⟩) (v := Value.bool two) (by simp)
    have cR : ∀ d' os, Calls Try.prog 14 #[ruleV s t g d n u two] (grow (redrawn (w.alloc (.cells #[.int .i64 s, .int .i64 t, .int .i64 g, .int .i64 d, .int .i64 n, .int .i64 u, .bool two] 25)) d') os) fun e w'' => e = .returned (.bool false) ∧ ∃ p : Regrown, w'' = grow (redrawn (w.alloc (.cells #[.int .i64 s, .int .i64 t, .int .i64 g, .int .i64 d, .int .i64 n, .int .i64 u, .bool two] 25)) p.d) p.os :=
      fun d' os => Calls.regrown_of (by rw [← h1]; exact sRuleOk_any s t g d n u two _)
    go_enter Try.func23, Try.ntmps23
    go_wp2_with fail
    refine wp_region_quiet_below (by kernel_rfl) (by kernel_rfl) ?_
    repeat (first | go_big_quiet_step (first | exact cR _ _) | quiet_step (first | exact cR _ _))
    refine wpQuiet_nil ?_
    intro _ hw'
    obtain ⟨⟨dq, osq⟩, hw''⟩ := hw'
    subst hw''
    go_wp2
    go_ret
    exact ⟨by rw [HT.out]; rfl, ((Below.refl _ _).alloc (Nat.le_refl _) _).trans ((below_regrown _ dq osq).mono (by simp))⟩
  · have HT := Lib.hid (show tiedB s t g d n u m = false by simp [tiedB, h1, h2])
    have f0 := cell_regrown (w := (w.alloc (.cells #[.int .i64 s, .int .i64 t, .int .i64 g, .int .i64 d, .int .i64 n, .int .i64 u, .bool two] 25))) (a := ⟨w.heap.size, 0, none⟩) (v := Value.int .i64 s) (by simp)
    have f1 := cell_regrown (w := (w.alloc (.cells #[.int .i64 s, .int .i64 t, .int .i64 g, .int .i64 d, .int .i64 n, .int .i64 u, .bool two] 25))) (a := ⟨w.heap.size, 1, none⟩) (v := Value.int .i64 t) (by simp)
    have f2 := cell_regrown (w := (w.alloc (.cells #[.int .i64 s, .int .i64 t, .int .i64 g, .int .i64 d, .int .i64 n, .int .i64 u, .bool two] 25))) (a := ⟨w.heap.size, 2, none⟩) (v := Value.int .i64 g) (by simp)
    have f3 := cell_regrown (w := (w.alloc (.cells #[.int .i64 s, .int .i64 t, .int .i64 g, .int .i64 d, .int .i64 n, .int .i64 u, .bool two] 25))) (a := ⟨w.heap.size, 3, none⟩) (v := Value.int .i64 d) (by simp)
    have f4 := cell_regrown (w := (w.alloc (.cells #[.int .i64 s, .int .i64 t, .int .i64 g, .int .i64 d, .int .i64 n, .int .i64 u, .bool two] 25))) (a := ⟨w.heap.size, 4, none⟩) (v := Value.int .i64 n) (by simp)
    have f5 := cell_regrown (w := (w.alloc (.cells #[.int .i64 s, .int .i64 t, .int .i64 g, .int .i64 d, .int .i64 n, .int .i64 u, .bool two] 25))) (a := ⟨w.heap.size, 5, none⟩) (v := Value.int .i64 u) (by simp)
    have f6 := cell_regrown (w := (w.alloc (.cells #[.int .i64 s, .int .i64 t, .int .i64 g, .int .i64 d, .int .i64 n, .int .i64 u, .bool two] 25))) (a := ⟨w.heap.size, 6, none⟩) (v := Value.bool two) (by simp)
    have cR : ∀ d' os, Calls Try.prog 14 #[ruleV s t g d n u two] (grow (redrawn (w.alloc (.cells #[.int .i64 s, .int .i64 t, .int .i64 g, .int .i64 d, .int .i64 n, .int .i64 u, .bool two] 25)) d') os) fun e w'' => e = .returned (.bool true) ∧ ∃ p : Regrown, w'' = grow (redrawn (w.alloc (.cells #[.int .i64 s, .int .i64 t, .int .i64 g, .int .i64 d, .int .i64 n, .int .i64 u, .bool two] 25)) p.d) p.os :=
      fun d' os => Calls.regrown_of (by rw [← h1]; exact sRuleOk_any s t g d n u two _)
    have cW : ∀ d' os, Calls Try.prog 49 #[.int .i64 m, .int .i64 1, .int .i64 999] (grow (redrawn (w.alloc (.cells #[.int .i64 s, .int .i64 t, .int .i64 g, .int .i64 d, .int .i64 n, .int .i64 u, .bool two] 25)) d') os) fun e w'' => e = .returned (.bool false) ∧ ∃ p : Regrown, w'' = grow (redrawn (w.alloc (.cells #[.int .i64 s, .int .i64 t, .int .i64 g, .int .i64 d, .int .i64 n, .int .i64 u, .bool two] 25)) p.d) p.os :=
      fun d' os => Calls.regrown_of ((by rw [← h2]; exact l1In_any m 1 999 _ : Calls Try.prog 49 #[.int .i64 m, .int .i64 1, .int .i64 999] (grow (redrawn (w.alloc (.cells #[.int .i64 s, .int .i64 t, .int .i64 g, .int .i64 d, .int .i64 n, .int .i64 u, .bool two] 25)) d') os) fun e w' => e = .returned (.bool false) ∧ (grow (redrawn (w.alloc (.cells #[.int .i64 s, .int .i64 t, .int .i64 g, .int .i64 d, .int .i64 n, .int .i64 u, .bool two] 25)) d') os) = w').mono fun e w' ⟨he, hw⟩ => ⟨he, hw ▸ Below.refl _ _⟩)
    go_enter Try.func23, Try.ntmps23
    go_wp2_with fail
    refine wp_region_quiet_below (by kernel_rfl) (by kernel_rfl) ?_
    repeat (first | go_big_quiet_step (first | exact cR _ _ | exact cW _ _) | quiet_step (first | exact cR _ _ | exact cW _ _))
    refine wpQuiet_nil ?_
    intro _ hw'
    obtain ⟨⟨dq, osq⟩, hw''⟩ := hw'
    subst hw''
    go_wp2
    go_ret
    exact ⟨by rw [HT.out]; rfl, ((Below.refl _ _).alloc (Nat.le_refl _) _).trans ((below_regrown _ dq osq).mono (by simp))⟩
  · have HT := Lib.hid (show tiedB s t g d n u m = decide (1000 * lnI s < 2 * m * t * t) by simp [tiedB, h1, h2])
    obtain ⟨m1, m2⟩ := inB_iff.1 h2
    obtain ⟨t1, t2⟩ := rule_tie h1
    obtain ⟨k1, k2⟩ := lnI_bd s
    obtain ⟨a1, a2⟩ := mul_bd (by omega : 0 ≤ 2 * m) (by omega : 2 * m ≤ 1998) t1 t2
    obtain ⟨b1, b2⟩ := mul_bd a1 a2 t1 t2
    have n1 : IntKind.i64.wrap (1000 * lnI s) = 1000 * lnI s := IntWalk.i64_in _ (by omega)
    have n2 : IntKind.i64.wrap (2 * m) = 2 * m := IntWalk.i64_in _ (by omega)
    have n3 : IntKind.i64.wrap (2 * m * t) = 2 * m * t := IntWalk.i64_in _ (by omega)
    have n4 : IntKind.i64.wrap (2 * m * t * t) = 2 * m * t * t := IntWalk.i64_in _ (by omega)
    have f0 := cell_regrown (w := (w.alloc (.cells #[.int .i64 s, .int .i64 t, .int .i64 g, .int .i64 d, .int .i64 n, .int .i64 u, .bool two] 25))) (a := ⟨w.heap.size, 0, none⟩) (v := Value.int .i64 s) (by simp)
    have f1 := cell_regrown (w := (w.alloc (.cells #[.int .i64 s, .int .i64 t, .int .i64 g, .int .i64 d, .int .i64 n, .int .i64 u, .bool two] 25))) (a := ⟨w.heap.size, 1, none⟩) (v := Value.int .i64 t) (by simp)
    have f2 := cell_regrown (w := (w.alloc (.cells #[.int .i64 s, .int .i64 t, .int .i64 g, .int .i64 d, .int .i64 n, .int .i64 u, .bool two] 25))) (a := ⟨w.heap.size, 2, none⟩) (v := Value.int .i64 g) (by simp)
    have f3 := cell_regrown (w := (w.alloc (.cells #[.int .i64 s, .int .i64 t, .int .i64 g, .int .i64 d, .int .i64 n, .int .i64 u, .bool two] 25))) (a := ⟨w.heap.size, 3, none⟩) (v := Value.int .i64 d) (by simp)
    have f4 := cell_regrown (w := (w.alloc (.cells #[.int .i64 s, .int .i64 t, .int .i64 g, .int .i64 d, .int .i64 n, .int .i64 u, .bool two] 25))) (a := ⟨w.heap.size, 4, none⟩) (v := Value.int .i64 n) (by simp)
    have f5 := cell_regrown (w := (w.alloc (.cells #[.int .i64 s, .int .i64 t, .int .i64 g, .int .i64 d, .int .i64 n, .int .i64 u, .bool two] 25))) (a := ⟨w.heap.size, 5, none⟩) (v := Value.int .i64 u) (by simp)
    have f6 := cell_regrown (w := (w.alloc (.cells #[.int .i64 s, .int .i64 t, .int .i64 g, .int .i64 d, .int .i64 n, .int .i64 u, .bool two] 25))) (a := ⟨w.heap.size, 6, none⟩) (v := Value.bool two) (by simp)
    have cR : ∀ d' os, Calls Try.prog 14 #[ruleV s t g d n u two] (grow (redrawn (w.alloc (.cells #[.int .i64 s, .int .i64 t, .int .i64 g, .int .i64 d, .int .i64 n, .int .i64 u, .bool two] 25)) d') os) fun e w'' => e = .returned (.bool true) ∧ ∃ p : Regrown, w'' = grow (redrawn (w.alloc (.cells #[.int .i64 s, .int .i64 t, .int .i64 g, .int .i64 d, .int .i64 n, .int .i64 u, .bool two] 25)) p.d) p.os :=
      fun d' os => Calls.regrown_of (by rw [← h1]; exact sRuleOk_any s t g d n u two _)
    have cW : ∀ d' os, Calls Try.prog 49 #[.int .i64 m, .int .i64 1, .int .i64 999] (grow (redrawn (w.alloc (.cells #[.int .i64 s, .int .i64 t, .int .i64 g, .int .i64 d, .int .i64 n, .int .i64 u, .bool two] 25)) d') os) fun e w'' => e = .returned (.bool true) ∧ ∃ p : Regrown, w'' = grow (redrawn (w.alloc (.cells #[.int .i64 s, .int .i64 t, .int .i64 g, .int .i64 d, .int .i64 n, .int .i64 u, .bool two] 25)) p.d) p.os :=
      fun d' os => Calls.regrown_of ((by rw [← h2]; exact l1In_any m 1 999 _ : Calls Try.prog 49 #[.int .i64 m, .int .i64 1, .int .i64 999] (grow (redrawn (w.alloc (.cells #[.int .i64 s, .int .i64 t, .int .i64 g, .int .i64 d, .int .i64 n, .int .i64 u, .bool two] 25)) d') os) fun e w' => e = .returned (.bool true) ∧ (grow (redrawn (w.alloc (.cells #[.int .i64 s, .int .i64 t, .int .i64 g, .int .i64 d, .int .i64 n, .int .i64 u, .bool two] 25)) d') os) = w').mono fun e w' ⟨he, hw⟩ => ⟨he, hw ▸ Below.refl _ _⟩)
    have cL : ∀ d' os, Calls Try.prog 51 #[.int .i64 s] (grow (redrawn (w.alloc (.cells #[.int .i64 s, .int .i64 t, .int .i64 g, .int .i64 d, .int .i64 n, .int .i64 u, .bool two] 25)) d') os) fun e w'' => e = .returned (.int .i64 (lnI s)) ∧ ∃ p : Regrown, w'' = grow (redrawn (w.alloc (.cells #[.int .i64 s, .int .i64 t, .int .i64 g, .int .i64 d, .int .i64 n, .int .i64 u, .bool two] 25)) p.d) p.os :=
      fun d' os => Calls.regrown_of ((sLnOf_any s _).mono fun e w' ⟨he, hw⟩ => ⟨he, hw ▸ Below.refl _ _⟩)
    go_enter Try.func23, Try.ntmps23
    go_wp2_with fail
    refine wp_region_quiet_below (by kernel_rfl) (by kernel_rfl) ?_
    repeat (first | go_big_quiet_step (first | exact cR _ _ | exact cW _ _ | exact cL _ _) | quiet_step (first | exact cR _ _ | exact cW _ _ | exact cL _ _))
    refine wpQuiet_nil ?_
    intro _ hw'
    obtain ⟨⟨dq, osq⟩, hw''⟩ := hw'
    subst hw''
    go_wp2
    go_ret
    exact ⟨by rw [HT.out]; rfl, ((Below.refl _ _).alloc (Nat.le_refl _) _).trans ((below_regrown _ dq osq).mono (by simp))⟩

set_option maxHeartbeats 1000000 in
theorem iTied_any (s t g d n u m : Int) (two : Bool) (w : World) : Calls Try.prog 24 #[ruleV s t g d n u two, .int .i64 m] w fun e w' => e = .returned (.bool (tiedB s t g d n u m)) ∧ Below w.heap.size w w' := by
  rcases tied_ways (ruleB s t g d n u) (inB m 1 999) with h1 | ⟨h1, h2⟩ | ⟨h1, h2⟩
  · have HT := Lib.hid (show tiedB s t g d n u m = false by simp [tiedB, h1])
    have f0 := cell_regrown (w := (w.alloc (.cells #[.int .i64 s, .int .i64 t, .int .i64 g, .int .i64 d, .int .i64 n, .int .i64 u, .bool two] 25))) (a := ⟨w.heap.size, 0, none⟩) (v := Value.int .i64 s) (by simp)
    have f1 := cell_regrown (w := (w.alloc (.cells #[.int .i64 s, .int .i64 t, .int .i64 g, .int .i64 d, .int .i64 n, .int .i64 u, .bool two] 25))) (a := ⟨w.heap.size, 1, none⟩) (v := Value.int .i64 t) (by simp)
    have f2 := cell_regrown (w := (w.alloc (.cells #[.int .i64 s, .int .i64 t, .int .i64 g, .int .i64 d, .int .i64 n, .int .i64 u, .bool two] 25))) (a := ⟨w.heap.size, 2, none⟩) (v := Value.int .i64 g) (by simp)
    have f3 := cell_regrown (w := (w.alloc (.cells #[.int .i64 s, .int .i64 t, .int .i64 g, .int .i64 d, .int .i64 n, .int .i64 u, .bool two] 25))) (a := ⟨w.heap.size, 3, none⟩) (v := Value.int .i64 d) (by simp)
    have f4 := cell_regrown (w := (w.alloc (.cells #[.int .i64 s, .int .i64 t, .int .i64 g, .int .i64 d, .int .i64 n, .int .i64 u, .bool two] 25))) (a := ⟨w.heap.size, 4, none⟩) (v := Value.int .i64 n) (by simp)
    have f5 := cell_regrown (w := (w.alloc (.cells #[.int .i64 s, .int .i64 t, .int .i64 g, .int .i64 d, .int .i64 n, .int .i64 u, .bool two] 25))) (a := ⟨w.heap.size, 5, none⟩) (v := Value.int .i64 u) (by simp)
    have f6 := cell_regrown (w := (w.alloc (.cells #[.int .i64 s, .int .i64 t, .int .i64 g, .int .i64 d, .int .i64 n, .int .i64 u, .bool two] 25))) (a := ⟨w.heap.size, 6, none⟩) (v := Value.bool two) (by simp)
    have cR : ∀ d' os, Calls Try.prog 16 #[ruleV s t g d n u two] (grow (redrawn (w.alloc (.cells #[.int .i64 s, .int .i64 t, .int .i64 g, .int .i64 d, .int .i64 n, .int .i64 u, .bool two] 25)) d') os) fun e w'' => e = .returned (.bool false) ∧ ∃ p : Regrown, w'' = grow (redrawn (w.alloc (.cells #[.int .i64 s, .int .i64 t, .int .i64 g, .int .i64 d, .int .i64 n, .int .i64 u, .bool two] 25)) p.d) p.os :=
      fun d' os => Calls.regrown_of (by rw [← h1]; exact iRuleOk_any s t g d n u two _)
    go_enter Try.func24, Try.ntmps24
    go_wp2_with fail
    refine wp_region_quiet_below (by kernel_rfl) (by kernel_rfl) ?_
    repeat (first | go_big_quiet_step (first | exact cR _ _) | quiet_step (first | exact cR _ _))
    refine wpQuiet_nil ?_
    intro _ hw'
    obtain ⟨⟨dq, osq⟩, hw''⟩ := hw'
    subst hw''
    go_wp2
    go_ret
    exact ⟨by rw [HT.out]; rfl, ((Below.refl _ _).alloc (Nat.le_refl _) _).trans ((below_regrown _ dq osq).mono (by simp))⟩
  · have HT := Lib.hid (show tiedB s t g d n u m = false by simp [tiedB, h1, h2])
    have f0 := cell_regrown (w := (w.alloc (.cells #[.int .i64 s, .int .i64 t, .int .i64 g, .int .i64 d, .int .i64 n, .int .i64 u, .bool two] 25))) (a := ⟨w.heap.size, 0, none⟩) (v := Value.int .i64 s) (by simp)
    have f1 := cell_regrown (w := (w.alloc (.cells #[.int .i64 s, .int .i64 t, .int .i64 g, .int .i64 d, .int .i64 n, .int .i64 u, .bool two] 25))) (a := ⟨w.heap.size, 1, none⟩) (v := Value.int .i64 t) (by simp)
    have f2 := cell_regrown (w := (w.alloc (.cells #[.int .i64 s, .int .i64 t, .int .i64 g, .int .i64 d, .int .i64 n, .int .i64 u, .bool two] 25))) (a := ⟨w.heap.size, 2, none⟩) (v := Value.int .i64 g) (by simp)
    have f3 := cell_regrown (w := (w.alloc (.cells #[.int .i64 s, .int .i64 t, .int .i64 g, .int .i64 d, .int .i64 n, .int .i64 u, .bool two] 25))) (a := ⟨w.heap.size, 3, none⟩) (v := Value.int .i64 d) (by simp)
    have f4 := cell_regrown (w := (w.alloc (.cells #[.int .i64 s, .int .i64 t, .int .i64 g, .int .i64 d, .int .i64 n, .int .i64 u, .bool two] 25))) (a := ⟨w.heap.size, 4, none⟩) (v := Value.int .i64 n) (by simp)
    have f5 := cell_regrown (w := (w.alloc (.cells #[.int .i64 s, .int .i64 t, .int .i64 g, .int .i64 d, .int .i64 n, .int .i64 u, .bool two] 25))) (a := ⟨w.heap.size, 5, none⟩) (v := Value.int .i64 u) (by simp)
    have f6 := cell_regrown (w := (w.alloc (.cells #[.int .i64 s, .int .i64 t, .int .i64 g, .int .i64 d, .int .i64 n, .int .i64 u, .bool two] 25))) (a := ⟨w.heap.size, 6, none⟩) (v := Value.bool two) (by simp)
    have cR : ∀ d' os, Calls Try.prog 16 #[ruleV s t g d n u two] (grow (redrawn (w.alloc (.cells #[.int .i64 s, .int .i64 t, .int .i64 g, .int .i64 d, .int .i64 n, .int .i64 u, .bool two] 25)) d') os) fun e w'' => e = .returned (.bool true) ∧ ∃ p : Regrown, w'' = grow (redrawn (w.alloc (.cells #[.int .i64 s, .int .i64 t, .int .i64 g, .int .i64 d, .int .i64 n, .int .i64 u, .bool two] 25)) p.d) p.os :=
      fun d' os => Calls.regrown_of (by rw [← h1]; exact iRuleOk_any s t g d n u two _)
    have cW : ∀ d' os, Calls Try.prog 50 #[.int .i64 m, .int .i64 1, .int .i64 999] (grow (redrawn (w.alloc (.cells #[.int .i64 s, .int .i64 t, .int .i64 g, .int .i64 d, .int .i64 n, .int .i64 u, .bool two] 25)) d') os) fun e w'' => e = .returned (.bool false) ∧ ∃ p : Regrown, w'' = grow (redrawn (w.alloc (.cells #[.int .i64 s, .int .i64 t, .int .i64 g, .int .i64 d, .int .i64 n, .int .i64 u, .bool two] 25)) p.d) p.os :=
      fun d' os => Calls.regrown_of ((by rw [← h2]; exact within_any m 1 999 _ : Calls Try.prog 50 #[.int .i64 m, .int .i64 1, .int .i64 999] (grow (redrawn (w.alloc (.cells #[.int .i64 s, .int .i64 t, .int .i64 g, .int .i64 d, .int .i64 n, .int .i64 u, .bool two] 25)) d') os) fun e w' => e = .returned (.bool false) ∧ (grow (redrawn (w.alloc (.cells #[.int .i64 s, .int .i64 t, .int .i64 g, .int .i64 d, .int .i64 n, .int .i64 u, .bool two] 25)) d') os) = w').mono fun e w' ⟨he, hw⟩ => ⟨he, hw ▸ Below.refl _ _⟩)
    go_enter Try.func24, Try.ntmps24
    go_wp2_with fail
    refine wp_region_quiet_below (by kernel_rfl) (by kernel_rfl) ?_
    repeat (first | go_big_quiet_step (first | exact cR _ _ | exact cW _ _) | quiet_step (first | exact cR _ _ | exact cW _ _))
    refine wpQuiet_nil ?_
    intro _ hw'
    obtain ⟨⟨dq, osq⟩, hw''⟩ := hw'
    subst hw''
    go_wp2
    go_ret
    exact ⟨by rw [HT.out]; rfl, ((Below.refl _ _).alloc (Nat.le_refl _) _).trans ((below_regrown _ dq osq).mono (by simp))⟩
  · have HT := Lib.hid (show tiedB s t g d n u m = decide (1000 * lnI s < 2 * m * t * t) by simp [tiedB, h1, h2])
    obtain ⟨m1, m2⟩ := inB_iff.1 h2
    obtain ⟨t1, t2⟩ := rule_tie h1
    obtain ⟨k1, k2⟩ := lnI_bd s
    obtain ⟨a1, a2⟩ := mul_bd (by omega : 0 ≤ 2 * m) (by omega : 2 * m ≤ 1998) t1 t2
    obtain ⟨b1, b2⟩ := mul_bd a1 a2 t1 t2
    have n1 : IntKind.i64.wrap (1000 * lnI s) = 1000 * lnI s := IntWalk.i64_in _ (by omega)
    have n2 : IntKind.i64.wrap (2 * m) = 2 * m := IntWalk.i64_in _ (by omega)
    have n3 : IntKind.i64.wrap (2 * m * t) = 2 * m * t := IntWalk.i64_in _ (by omega)
    have n4 : IntKind.i64.wrap (2 * m * t * t) = 2 * m * t * t := IntWalk.i64_in _ (by omega)
    have f0 := cell_regrown (w := (w.alloc (.cells #[.int .i64 s, .int .i64 t, .int .i64 g, .int .i64 d, .int .i64 n, .int .i64 u, .bool two] 25))) (a := ⟨w.heap.size, 0, none⟩) (v := Value.int .i64 s) (by simp)
    have f1 := cell_regrown (w := (w.alloc (.cells #[.int .i64 s, .int .i64 t, .int .i64 g, .int .i64 d, .int .i64 n, .int .i64 u, .bool two] 25))) (a := ⟨w.heap.size, 1, none⟩) (v := Value.int .i64 t) (by simp)
    have f2 := cell_regrown (w := (w.alloc (.cells #[.int .i64 s, .int .i64 t, .int .i64 g, .int .i64 d, .int .i64 n, .int .i64 u, .bool two] 25))) (a := ⟨w.heap.size, 2, none⟩) (v := Value.int .i64 g) (by simp)
    have f3 := cell_regrown (w := (w.alloc (.cells #[.int .i64 s, .int .i64 t, .int .i64 g, .int .i64 d, .int .i64 n, .int .i64 u, .bool two] 25))) (a := ⟨w.heap.size, 3, none⟩) (v := Value.int .i64 d) (by simp)
    have f4 := cell_regrown (w := (w.alloc (.cells #[.int .i64 s, .int .i64 t, .int .i64 g, .int .i64 d, .int .i64 n, .int .i64 u, .bool two] 25))) (a := ⟨w.heap.size, 4, none⟩) (v := Value.int .i64 n) (by simp)
    have f5 := cell_regrown (w := (w.alloc (.cells #[.int .i64 s, .int .i64 t, .int .i64 g, .int .i64 d, .int .i64 n, .int .i64 u, .bool two] 25))) (a := ⟨w.heap.size, 5, none⟩) (v := Value.int .i64 u) (by simp)
    have f6 := cell_regrown (w := (w.alloc (.cells #[.int .i64 s, .int .i64 t, .int .i64 g, .int .i64 d, .int .i64 n, .int .i64 u, .bool two] 25))) (a := ⟨w.heap.size, 6, none⟩) (v := Value.bool two) (by simp)
    have cR : ∀ d' os, Calls Try.prog 16 #[ruleV s t g d n u two] (grow (redrawn (w.alloc (.cells #[.int .i64 s, .int .i64 t, .int .i64 g, .int .i64 d, .int .i64 n, .int .i64 u, .bool two] 25)) d') os) fun e w'' => e = .returned (.bool true) ∧ ∃ p : Regrown, w'' = grow (redrawn (w.alloc (.cells #[.int .i64 s, .int .i64 t, .int .i64 g, .int .i64 d, .int .i64 n, .int .i64 u, .bool two] 25)) p.d) p.os :=
      fun d' os => Calls.regrown_of (by rw [← h1]; exact iRuleOk_any s t g d n u two _)
    have cW : ∀ d' os, Calls Try.prog 50 #[.int .i64 m, .int .i64 1, .int .i64 999] (grow (redrawn (w.alloc (.cells #[.int .i64 s, .int .i64 t, .int .i64 g, .int .i64 d, .int .i64 n, .int .i64 u, .bool two] 25)) d') os) fun e w'' => e = .returned (.bool true) ∧ ∃ p : Regrown, w'' = grow (redrawn (w.alloc (.cells #[.int .i64 s, .int .i64 t, .int .i64 g, .int .i64 d, .int .i64 n, .int .i64 u, .bool two] 25)) p.d) p.os :=
      fun d' os => Calls.regrown_of ((by rw [← h2]; exact within_any m 1 999 _ : Calls Try.prog 50 #[.int .i64 m, .int .i64 1, .int .i64 999] (grow (redrawn (w.alloc (.cells #[.int .i64 s, .int .i64 t, .int .i64 g, .int .i64 d, .int .i64 n, .int .i64 u, .bool two] 25)) d') os) fun e w' => e = .returned (.bool true) ∧ (grow (redrawn (w.alloc (.cells #[.int .i64 s, .int .i64 t, .int .i64 g, .int .i64 d, .int .i64 n, .int .i64 u, .bool two] 25)) d') os) = w').mono fun e w' ⟨he, hw⟩ => ⟨he, hw ▸ Below.refl _ _⟩)
    have cL : ∀ d' os, Calls Try.prog 52 #[.int .i64 s] (grow (redrawn (w.alloc (.cells #[.int .i64 s, .int .i64 t, .int .i64 g, .int .i64 d, .int .i64 n, .int .i64 u, .bool two] 25)) d') os) fun e w'' => e = .returned (.int .i64 (lnI s)) ∧ ∃ p : Regrown, w'' = grow (redrawn (w.alloc (.cells #[.int .i64 s, .int .i64 t, .int .i64 g, .int .i64 d, .int .i64 n, .int .i64 u, .bool two] 25)) p.d) p.os :=
      fun d' os => Calls.regrown_of ((iLnOf_any s _).mono fun e w' ⟨he, hw⟩ => ⟨he, hw ▸ Below.refl _ _⟩)
    go_enter Try.func24, Try.ntmps24
    go_wp2_with fail
    refine wp_region_quiet_below (by kernel_rfl) (by kernel_rfl) ?_
    repeat (first | go_big_quiet_step (first | exact cR _ _ | exact cW _ _ | exact cL _ _) | quiet_step (first | exact cR _ _ | exact cW _ _ | exact cL _ _))
    refine wpQuiet_nil ?_
    intro _ hw'
    obtain ⟨⟨dq, osq⟩, hw''⟩ := hw'
    subst hw''
    go_wp2
    go_ret
    exact ⟨by rw [HT.out]; rfl, ((Below.refl _ _).alloc (Nat.le_refl _) _).trans ((below_regrown _ dq osq).mono (by simp))⟩

end Go.Proofs.Ytccohhhnfaidhaa
