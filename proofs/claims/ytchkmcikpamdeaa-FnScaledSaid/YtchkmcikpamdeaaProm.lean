/-
  StatsTotal, TopOf, slices.Max, Promise, StatsPure.
-/
import Derived.Test.YtchkmcikpamdeaaStatOk
import Derived.Test.YtchkmcikpamdeaaStatOkI
import Derived.Lib.QuietBelow
namespace Go.Proofs.Ytchkmcikpamdeaa
open Go.RowKit Go.Sort
set_option linter.unusedSimpArgs false
set_option linter.unusedVariables false

/-- The place of the first greatest of the first k + 1 numbers. -/
def topTo (ts : List Int) : Nat → Nat
  | 0 => 0
  | k + 1 => if ts.getD (topTo ts k) 0 < ts.getD (k + 1) 0 then k + 1 else topTo ts k
def topI (ts : List Int) : Nat := topTo ts (ts.length - 1)
def maxI (ts : List Int) : Int := ts.getD (topI ts) 0
theorem topTo_le (ts : List Int) : ∀ k, topTo ts k ≤ k
  | 0 => Nat.le_refl _
  | k + 1 => by unfold topTo; split; exact Nat.le_refl _; exact Nat.le_succ_of_le (topTo_le ts k)
def promI (ats : List AD) (cs : List ByteArray) (ts : List Int) (xss : List (List Int)) : Int := if statsB ats cs ts xss then ts.sum - maxI ts else 0
def pureB (ats : List AD) (cs : List ByteArray) (ts : List Int) (xss : List (List Int)) : Bool := statsB ats cs ts xss && decide (promI ats cs ts xss = 0)
theorem statsB_tot {ats : List AD} {cs : List ByteArray} {ts : List Int} {xss : List (List Int)} (h : statsB ats cs ts xss = true) : (ts.length = 2 ∨ ts.length = 3) ∧ badW ts = false ∧ 0 ≤ ts.sum ∧ ts.sum ≤ 999 := by
  unfold statsB at h
  simp only [Bool.and_eq_true] at h
  obtain ⟨⟨h1, h2⟩, _⟩ := h
  have hm := schB_m h1
  unfold totB at h2
  simp only [Bool.and_eq_true, decide_eq_true_eq, Bool.not_eq_true'] at h2
  have := sum_bd ts (fun z hz => badW_get h2.1.2 hz)
  exact ⟨by omega, h2.1.2, this.1, h2.2⟩
theorem maxI_bd {ts : List Int} (hl : ts.length = 2 ∨ ts.length = 3) (h : badW ts = false) : ts[topI ts]? = some (maxI ts) ∧ topI ts < ts.length ∧ 0 ≤ maxI ts ∧ maxI ts ≤ 999 := by
  have h1 : topI ts < ts.length := by have := topTo_le ts (ts.length - 1); unfold topI; omega
  have h2 : ts[topI ts]? = some (maxI ts) := by unfold maxI; simp [List.getD, h1]
  have := badW_get h (List.mem_of_getElem? h2)
  exact ⟨h2, h1, this.1, this.2⟩

set_option maxHeartbeats 2000000 in
theorem sStatsTotal_any (A C : Option Addr) (n c m d : Nat) (hs : List AH) (ats : List AD) (cs : List ByteArray) (T X : Option Addr) (q e0 p f0 : Nat) (gs : List Hd) (ts : List Int) (xss : List (List Int)) (w : World) (r : Sch w A C n m d hs ats cs) (s : Sta w T X q p gs ts xss) (h0 : statsB ats cs ts xss = true) :
    Calls Try.prog 28 #[.agg #[.slice A n c, .slice C m d], .agg #[.slice T q e0, .slice X p f0]] w fun e w' => e = .returned (.int .i64 ts.sum) ∧ Below w.heap.size w w' := by
  have R := Lib.hid r
  have S := Lib.hid s
  have HL := Lib.hid r.lenA; have HC := Lib.hid r.lenC
  have HT := Lib.hid s.lenT; have HX := Lib.hid s.lenX
  have hn := r.hn; have hq := s.hq; have hp := s.hp
  clear r s
  have H0 := Lib.hid h0
  obtain ⟨hl, hw, _, _⟩ := statsB_tot h0
  have HWt := Lib.hid hw
  rw [HT.out] at hl
  clear h0 hw
  have B0 := Below.refl w.heap.size w
  have s0 : w.heap.size ≤ w.heap.size := Nat.le_refl _
  go_enter Try.func28, Try.ntmps28
  have p_2 : Bx (w.alloc (.cells #[.slice A n c, .slice C m d] 40)) (w.heap.size) 40 #[.slice A n c, .slice C m d] := Bx.new _ _ _
  have B_2 := B0.alloc s0 (.cells #[.slice A n c, .slice C m d] 40)
  clear B0
  have cp_3 := p_2.cells
  have fp_3 := p_2.free
  clear cp_3 fp_3
  have p_4 := p_2.same (same_alloc (.cells #[.slice T q e0, .slice X p f0] 35) (by simp only [World.size_alloc]; omega))
  clear p_2
  have t_5 : Bx ((w.alloc (.cells #[.slice A n c, .slice C m d] 40)).alloc (.cells #[.slice T q e0, .slice X p f0] 35)) (w.heap.size + 1) 35 #[.slice T q e0, .slice X p f0] := by
    have h := Bx.new (w.alloc (.cells #[.slice A n c, .slice C m d] 40)) 35 #[.slice T q e0, .slice X p f0]
    simpa only [World.size_alloc] using h
  have B_5 := B_2.alloc (by simp only [World.size_alloc]; omega) (.cells #[.slice T q e0, .slice X p f0] 35)
  clear B_2
  have cp_6 := p_4.cells
  have fp_6 := p_4.free
  have ct_7 := t_5.cells
  have ft_7 := t_5.free
  go_wp2_with fail
  refine (sStatsOk_any _ _ _ _ _ _ _ ats cs _ _ _ _ _ _ _ ts xss _ (R.out.below B_5 (Nat.le_refl _)) (S.out.below B_5 (Nat.le_refl _))).mono ?_
  rw [H0.out]
  rintro e w1 ⟨rfl, b⟩
  clear cp_6 fp_6
  clear ct_7 ft_7
  simp only [World.size_alloc] at b
  have t_8 := b.size
  simp only [World.size_alloc] at t_8
  have z_8 : w.heap.size ≤ w1.heap.size := by omega
  have p_9 := p_4.same (same_below b (by omega))
  clear p_4
  have t_9 := t_5.same (same_below b (by omega))
  clear t_5
  have B_8 := B_5.trans (b.mono (by omega))
  clear B_5 b
  have cp_10 := p_9.cells
  have fp_10 := p_9.free
  have ct_11 := t_9.cells
  have ft_11 := t_9.free
  have HTb := Lib.hid t_9; have lt_ := t_9.lt
  obtain ⟨bt, ot, rfl, lbt, hct⟩ := (S.out.below B_8 (Nat.le_refl _)).tot.ex (by omega)
  have HCT := Lib.hid hct
  clear hct
  go_wp2_with fail
  have HAc := Lib.hid B_8
  have t0 : w1.cell? ⟨w.heap.size + 1, 0, none⟩ = some (.slice (some ⟨bt, ot, none⟩) q e0) := HTb.out.cells 0
  go_loop [5, 6] (fun sm i => ∃ k : Nat, k ≤ q ∧ i = .int .i64 k ∧ sm = .int .i64 ((ts.take k).sum)) (fun _ i => q - (intOf i).toNat)
  case atStart => exact ⟨0, Nat.zero_le _, rfl, by simp⟩
  case round =>
    obtain ⟨k, hk, rfl, rfl⟩ := hrel
    by_cases hlt : k < q
    · obtain ⟨x, hx⟩ : ∃ x, ts[k]? = some x := ⟨_, List.getElem?_eq_getElem (by rw [HT.out]; exact hlt)⟩
      have hcell := HCT.out k (.int .i64 x) (by simp [hx])
      have hb := sum_bd (ts.take k) (fun z hz => badW_get HWt.out (List.mem_of_mem_take hz))
      have hl2 : (ts.take k).length ≤ k := by simp; omega
      have hxb := badW_get HWt.out (List.mem_of_getElem? hx)
      have HSum := Lib.hid (take_sum hx)
      obtain ⟨sm, hsm⟩ : ∃ sm, (ts.take k).sum = sm := ⟨_, rfl⟩
      rw [hsm] at hb HSum ⊢
      have hb2 : 0 ≤ sm ∧ sm ≤ 2997 := by omega
      have n0 : (0 : Int) ≤ (k : Int) := Int.natCast_nonneg _
      have n1 : (k : Int) < (q : Int) := by omega
      clear hx hsm hb hl2
      go_wp2_with fail
      go_round
      case rel => exact ⟨k + 1, by omega, by go_num, by rw [HSum.out]⟩
      case measure => simp [intOf]; omega
    · obtain rfl : k = q := by omega
      have HV : Hid ((ts.take k).sum = ts.sum) := by unfold Hid; rw [List.take_of_length_le (Nat.le_of_eq HT.out)]
      rw [HV.out]
      go_wp2_with fail
      go_ret
      exact ⟨rfl, HAc.out⟩

end Go.Proofs.Ytchkmcikpamdeaa
