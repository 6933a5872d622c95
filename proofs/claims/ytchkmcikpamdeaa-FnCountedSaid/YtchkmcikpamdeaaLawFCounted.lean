/-
  Proved: laws.FnCounted returns true for every list of bytes. Conditions: none.
-/
import Derived.Test.YtchkmcikpamdeaaDrawN
import Derived.Test.YtchkmcikpamdeaaCntP
import Derived.Test.YtchkmcikpamdeaaSame
import Derived.Test.YtchkmcikpamdeaaRng
import Derived.Test.YtchkmcikpamdeaaStAddI
import Derived.Test.YtchkmcikpamdeaaOpen
import Derived.Deep.DeepCutAuto
import Derived.BigQuiet
import Derived.Lib.QuietBelow
namespace Go.Proofs.Ytchkmcikpamdeaa
open Go.ChangeShapes Go.WideShapes Go.ChangeAt Go.RowKit Go.Deep
namespace LawFCounted
set_option linter.unusedSimpArgs false
set_option linter.unusedVariables false
theorem u8wf {z : Int} (h : (Lit.int .u8 z).wf = true) : 0 ≤ z ∧ z ≤ 255 := by
  simp [Lit.wf, IntKind.min, IntKind.max, IntKind.bits, IntKind.signed] at h
  omega
theorem big_no (A : Option Addr) (n c : Nat) (w : World) (h : n ≤ 1048576) : Calls Try.prog 24 #[.slice A n c] w fun e w' => e = .returned (.bool false) ∧ w = w' := by
  go_enter Try.func24, Try.ntmps24
  go_wp2
  go_ret
  exact ⟨by simp; omega, rfl⟩
theorem big_yes (A : Option Addr) (n c : Nat) (w : World) (h : ¬ n ≤ 1048576) : Calls Try.prog 24 #[.slice A n c] w fun e w' => e = .returned (.bool true) ∧ w = w' := by
  go_enter Try.func24, Try.ntmps24
  go_wp2
  go_ret
  exact ⟨by simp; omega, rfl⟩
open Go.Sort

theorem sadd3 (A C : Option Addr) (n c m d : Nat) (hs : List AH) (ats : List AD) (cs : List ByteArray) (T X : Option Addr) (q e0 p f0 : Nat) (gs : List Hd) (ts : List Int) (xss : List (List Int)) (E : Option Addr) (r0n e1 : Nat) (bs : List Int) (cl u : Int) (w : World) (r : Sch w A C n m d hs ats cs) (s : Sta w T X q p gs ts xss) (x : Rd w E r0n (bs.map (Value.int .i64))) (hr0 : r0n ≤ 1048576) (z : Bool) (ts2 : List Int) (xss2 : List (List Int)) (hz : addStB ats cs ts xss bs cl u = z) (ht : addT ats cs ts xss bs cl u = ts2) (hx : addX ats cs ts xss bs cl u = xss2) :
    Calls Try.prog 12 #[.agg #[.slice A n c, .slice C m d], .agg #[.slice T q e0, .slice X p f0], .agg #[.slice E r0n e1, .int .i64 cl], .int .i64 u] w fun e w' => ∃ A' c' C' d' mid hs', e = .returned (.tuple #[.agg #[.slice A' q c', .slice C' p d'], .bool z]) ∧ OwSta w.heap.size w'.heap.size w' A' C' q c' p d' mid hs' ts2 xss2 ∧ Below w.heap.size w w' := by
  subst hz ht hx
  exact sStatsAdd_any A C n c m d hs ats cs T X q e0 p f0 gs ts xss E r0n e1 bs cl u w r s x hr0

theorem iadd3 (A C : Option Addr) (n c m d : Nat) (hs : List AH) (ats : List AD) (cs : List ByteArray) (T X : Option Addr) (q e0 p f0 : Nat) (gs : List Hd) (ts : List Int) (xss : List (List Int)) (E : Option Addr) (r0n e1 : Nat) (bs : List Int) (cl u : Int) (w : World) (r : Sch w A C n m d hs ats cs) (s : Sta w T X q p gs ts xss) (x : Rd w E r0n (bs.map (Value.int .i64))) (hr0 : r0n ≤ 1048576) (z : Bool) (ts2 : List Int) (xss2 : List (List Int)) (hz : addStB ats cs ts xss bs cl u = z) (ht : addT ats cs ts xss bs cl u = ts2) (hx : addX ats cs ts xss bs cl u = xss2) :
    Calls Try.prog 16 #[.agg #[.slice A n c, .slice C m d], .agg #[.slice T q e0, .slice X p f0], .agg #[.slice E r0n e1, .int .i64 cl], .int .i64 u] w fun e w' => ∃ A' c' C' d' mid hs', e = .returned (.tuple #[.agg #[.slice A' q c', .slice C' p d'], .bool z]) ∧ OwSta w.heap.size w'.heap.size w' A' C' q c' p d' mid hs' ts2 xss2 ∧ Below w.heap.size w w' := by
  subst hz ht hx
  exact iStatsAdd_any A C n c m d hs ats cs T X q e0 p f0 gs ts xss E r0n e1 bs cl u w r s x hr0

theorem addT_no {ats : List AD} {cs : List ByteArray} {ts : List Int} {xss : List (List Int)} {bs : List Int} {cl u : Int} (h : addStB ats cs ts xss bs cl u = false) : addT ats cs ts xss bs cl u = ts ∧ addX ats cs ts xss bs cl u = xss := by unfold addT addX; rw [h]; exact ⟨rfl, rfl⟩

set_option maxRecDepth 50000 in
set_option maxHeartbeats 16000000 in
theorem walkIn (w : World) (A : Option Addr) (n c : Nat) (xs : List Int) (hn : n ≤ 1048576) (HR : Hid (Rd w A n (xs.map (Value.int .u8)))) (HU : Hid (∀ z ∈ xs, 0 ≤ z ∧ z ≤ 255)) :
    Calls Try.prog 5 #[.slice A n c] w fun e w' => e = .returned (.bool true) ∧ Below w.heap.size w w' := by
  have B0 := Below.refl w.heap.size w
  have s0 : w.heap.size ≤ w.heap.size := Nat.le_refl _
  go_enter Try.func5, Try.ntmps5
  go_wp2_with fail
  refine (big_no A n c _ hn).mono ?_
  rintro e w1 ⟨rfl, rfl⟩
  go_wp2_with fail
  refine (sDrawStatsAdd_any A n c xs _ HR.out HU.out (by omega)).mono ?_
  rintro e w1 ⟨S1, sn, sc, S2, sm, sd, hs, ats, cs, T, q, qc, X, p, pc, gs, ts, xss, E, k_, c_, bl, cl, y, rfl, hsf, htf, hk17, hef, b⟩
  have t_0 := b.size
  have z_0 : w.heap.size ≤ w1.heap.size := by omega
  have B_0 := B0.trans (b.mono (by omega))
  clear B0 b
  have s_r := hsf.rng
  clear hsf
  have t_r := htf.rng
  clear htf
  have e_r := hef.rng
  clear hef
  have hq32 := t_r.hq; have hp16 := t_r.hp
  have htl : ts.length = q := by have := t_r.tot.rd.len; simpa using this
  have HX128 := Lib.hid t_r.hx
  have HXL := Lib.hid t_r.len
  have HTL := Lib.hid htl
  clear htl
  have s_1 := s_r.same (same_alloc (.cells #[.slice S1 sn sc, .slice S2 sm sd] 40) (by omega))
  clear s_r
  have t_1 := t_r.same (same_alloc (.cells #[.slice S1 sn sc, .slice S2 sm sd] 40) (by omega))
  clear t_r
  have e_1 := e_r.same (same_alloc (.cells #[.slice S1 sn sc, .slice S2 sm sd] 40) (by omega))
  clear e_r
  have sb_2 : Bx (w1.alloc (.cells #[.slice S1 sn sc, .slice S2 sm sd] 40)) (w1.heap.size) 40 #[.slice S1 sn sc, .slice S2 sm sd] := Bx.new _ _ _
  have B_2 := B_0.alloc z_0 (.cells #[.slice S1 sn sc, .slice S2 sm sd] 40)
  clear B_0
  have csb_3 := sb_2.cells
  have fsb_3 := sb_2.free
  clear csb_3 fsb_3
  have s_4 := s_1.same (same_alloc (.cells #[.slice T q qc, .slice X p pc] 35) (by simp only [World.size_alloc]; omega))
  clear s_1
  have t_4 := t_1.same (same_alloc (.cells #[.slice T q qc, .slice X p pc] 35) (by simp only [World.size_alloc]; omega))
  clear t_1
  have e_4 := e_1.same (same_alloc (.cells #[.slice T q qc, .slice X p pc] 35) (by simp only [World.size_alloc]; omega))
  clear e_1
  have sb_4 := sb_2.same (same_alloc (.cells #[.slice T q qc, .slice X p pc] 35) (by simp only [World.size_alloc]; omega))
  clear sb_2
  have tb_5 : Bx ((w1.alloc (.cells #[.slice S1 sn sc, .slice S2 sm sd] 40)).alloc (.cells #[.slice T q qc, .slice X p pc] 35)) (w1.heap.size + 1) 35 #[.slice T q qc, .slice X p pc] := by
    have h := Bx.new (w1.alloc (.cells #[.slice S1 sn sc, .slice S2 sm sd] 40)) 35 #[.slice T q qc, .slice X p pc]
    simpa only [World.size_alloc] using h
  have B_5 := B_2.alloc (by simp only [World.size_alloc]; omega) (.cells #[.slice T q qc, .slice X p pc] 35)
  clear B_2
  have csb_6 := sb_4.cells
  have fsb_6 := sb_4.free
  have ctb_7 := tb_5.cells
  have ftb_7 := tb_5.free
  clear csb_6 fsb_6
  clear ctb_7 ftb_7
  have s_8 := s_4.same (same_alloc (.cells #[.slice E k_ c_, .int .i64 cl] 43) (by simp only [World.size_alloc]; omega))
  clear s_4
  have t_8 := t_4.same (same_alloc (.cells #[.slice E k_ c_, .int .i64 cl] 43) (by simp only [World.size_alloc]; omega))
  clear t_4
  have e_8 := e_4.same (same_alloc (.cells #[.slice E k_ c_, .int .i64 cl] 43) (by simp only [World.size_alloc]; omega))
  clear e_4
  have sb_8 := sb_4.same (same_alloc (.cells #[.slice E k_ c_, .int .i64 cl] 43) (by simp only [World.size_alloc]; omega))
  clear sb_4
  have tb_8 := tb_5.same (same_alloc (.cells #[.slice E k_ c_, .int .i64 cl] 43) (by simp only [World.size_alloc]; omega))
  clear tb_5
  have eb_9 : Bx (((w1.alloc (.cells #[.slice S1 sn sc, .slice S2 sm sd] 40)).alloc (.cells #[.slice T q qc, .slice X p pc] 35)).alloc (.cells #[.slice E k_ c_, .int .i64 cl] 43)) (w1.heap.size + 1 + 1) 43 #[.slice E k_ c_, .int .i64 cl] := by
    have h := Bx.new ((w1.alloc (.cells #[.slice S1 sn sc, .slice S2 sm sd] 40)).alloc (.cells #[.slice T q qc, .slice X p pc] 35)) 43 #[.slice E k_ c_, .int .i64 cl]
    simpa only [World.size_alloc] using h
  have B_9 := B_5.alloc (by simp only [World.size_alloc]; omega) (.cells #[.slice E k_ c_, .int .i64 cl] 43)
  clear B_5
  have csb_10 := sb_8.cells
  have fsb_10 := sb_8.free
  have ctb_11 := tb_8.cells
  have ftb_11 := tb_8.free
  have ceb_12 := eb_9.cells
  have feb_12 := eb_9.free
  cases hz : addStB ats cs ts xss bl cl y
  · have HZ := Lib.hid hz; have HT2 := Lib.hid (addT_no hz).1; have HX2 := Lib.hid (addT_no hz).2
    have htot : totI xss ≤ 1048576 := (t_8.sta).hb
    clear hz
    go_wp2_with fail
    refine (iadd3 S1 S2 sn sc sm sd hs ats cs T X q qc p pc gs ts xss E k_ c_ bl cl y _ s_8.sch t_8.sta e_8.rd (by omega) false ts xss HZ.out HT2.out HX2.out).mono ?_
    rintro e w2 ⟨A3, c3, C3, d3, mida, ha, rfl, o, b⟩
    clear csb_10 fsb_10
    clear ctb_11 ftb_11
    clear ceb_12 feb_12
    simp only [World.size_alloc] at b o
    have t_13 := b.size
    simp only [World.size_alloc] at t_13
    have z_13 : w.heap.size ≤ w2.heap.size := by omega
    have s_14 := s_8.same (same_below b (by omega))
    clear s_8
    have t_14 := t_8.same (same_below b (by omega))
    clear t_8
    have e_14 := e_8.same (same_below b (by omega))
    clear e_8
    have sb_14 := sb_8.same (same_below b (by omega))
    clear sb_8
    have tb_14 := tb_8.same (same_below b (by omega))
    clear tb_8
    have eb_14 := eb_9.same (same_below b (by omega))
    clear eb_9
    have B_13 := B_9.trans (b.mono (by omega))
    clear B_9 b
    have a_13 := o
    clear o
    have csb_15 := sb_14.cells
    have fsb_15 := sb_14.free
    have ctb_16 := tb_14.cells
    have ftb_16 := tb_14.free
    have ceb_17 := eb_14.cells
    have feb_17 := eb_14.free
    clear csb_15 fsb_15
    clear ctb_16 ftb_16
    clear ceb_17 feb_17
    have s_18 := s_14.same (same_alloc (.cells #[.slice A3 q c3, .slice C3 p d3] 35) (by omega))
    clear s_14
    have t_18 := t_14.same (same_alloc (.cells #[.slice A3 q c3, .slice C3 p d3] 35) (by omega))
    clear t_14
    have e_18 := e_14.same (same_alloc (.cells #[.slice A3 q c3, .slice C3 p d3] 35) (by omega))
    clear e_14
    have sb_18 := sb_14.same (same_alloc (.cells #[.slice A3 q c3, .slice C3 p d3] 35) (by omega))
    clear sb_14
    have tb_18 := tb_14.same (same_alloc (.cells #[.slice A3 q c3, .slice C3 p d3] 35) (by omega))
    clear tb_14
    have eb_18 := eb_14.same (same_alloc (.cells #[.slice A3 q c3, .slice C3 p d3] 35) (by omega))
    clear eb_14
    have a_18 := a_13.same (same_alloc (.cells #[.slice A3 q c3, .slice C3 p d3] 35) (by omega))
    clear a_13
    have ab_19 : Bx (w2.alloc (.cells #[.slice A3 q c3, .slice C3 p d3] 35)) (w2.heap.size) 35 #[.slice A3 q c3, .slice C3 p d3] := Bx.new _ _ _
    have B_19 := B_13.alloc z_13 (.cells #[.slice A3 q c3, .slice C3 p d3] 35)
    clear B_13
    have csb_20 := sb_18.cells
    have fsb_20 := sb_18.free
    have ctb_21 := tb_18.cells
    have ftb_21 := tb_18.free
    have ceb_22 := eb_18.cells
    have feb_22 := eb_18.free
    have cab_23 := ab_19.cells
    have fab_23 := ab_19.free
    go_wp2_with fail
    refine (sadd3 S1 S2 sn sc sm sd hs ats cs T X q qc p pc gs ts xss E k_ c_ bl cl y _ s_18.sch t_18.sta e_18.rd (by omega) false ts xss HZ.out HT2.out HX2.out).mono ?_
    rintro e w3 ⟨A4, c4, C4, d4, midx, hx, rfl, o, b⟩
    clear csb_20 fsb_20
    clear ctb_21 ftb_21
    clear ceb_22 feb_22
    clear cab_23 fab_23
    simp only [World.size_alloc] at b o
    have t_24 := b.size
    simp only [World.size_alloc] at t_24
    have z_24 : w.heap.size ≤ w3.heap.size := by omega
    have s_25 := s_18.same (same_below b (by omega))
    clear s_18
    have t_25 := t_18.same (same_below b (by omega))
    clear t_18
    have e_25 := e_18.same (same_below b (by omega))
    clear e_18
    have sb_25 := sb_18.same (same_below b (by omega))
    clear sb_18
    have tb_25 := tb_18.same (same_below b (by omega))
    clear tb_18
    have eb_25 := eb_18.same (same_below b (by omega))
    clear eb_18
    have a_25 := a_18.same (same_below b (by omega))
    clear a_18
    have ab_25 := ab_19.same (same_below b (by omega))
    clear ab_19
    have B_24 := B_19.trans (b.mono (by omega))
    clear B_19 b
    have x_24 := o
    clear o
    have csb_26 := sb_25.cells
    have fsb_26 := sb_25.free
    have ctb_27 := tb_25.cells
    have ftb_27 := tb_25.free
    have ceb_28 := eb_25.cells
    have feb_28 := eb_25.free
    have cab_29 := ab_25.cells
    have fab_29 := ab_25.free
    clear csb_26 fsb_26
    clear ctb_27 ftb_27
    clear ceb_28 feb_28
    clear cab_29 fab_29
    have s_30 := s_25.same (same_alloc (.cells #[.slice A4 q c4, .slice C4 p d4] 35) (by omega))
    clear s_25
    have t_30 := t_25.same (same_alloc (.cells #[.slice A4 q c4, .slice C4 p d4] 35) (by omega))
    clear t_25
    have e_30 := e_25.same (same_alloc (.cells #[.slice A4 q c4, .slice C4 p d4] 35) (by omega))
    clear e_25
    have sb_30 := sb_25.same (same_alloc (.cells #[.slice A4 q c4, .slice C4 p d4] 35) (by omega))
    clear sb_25
    have tb_30 := tb_25.same (same_alloc (.cells #[.slice A4 q c4, .slice C4 p d4] 35) (by omega))
    clear tb_25
    have eb_30 := eb_25.same (same_alloc (.cells #[.slice A4 q c4, .slice C4 p d4] 35) (by omega))
    clear eb_25
    have a_30 := a_25.same (same_alloc (.cells #[.slice A4 q c4, .slice C4 p d4] 35) (by omega))
    clear a_25
    have ab_30 := ab_25.same (same_alloc (.cells #[.slice A4 q c4, .slice C4 p d4] 35) (by omega))
    clear ab_25
    have x_30 := x_24.same (same_alloc (.cells #[.slice A4 q c4, .slice C4 p d4] 35) (by omega))
    clear x_24
    have xb_31 : Bx (w3.alloc (.cells #[.slice A4 q c4, .slice C4 p d4] 35)) (w3.heap.size) 35 #[.slice A4 q c4, .slice C4 p d4] := Bx.new _ _ _
    have B_31 := B_24.alloc z_24 (.cells #[.slice A4 q c4, .slice C4 p d4] 35)
    clear B_24
    have csb_32 := sb_30.cells
    have fsb_32 := sb_30.free
    have ctb_33 := tb_30.cells
    have ftb_33 := tb_30.free
    have ceb_34 := eb_30.cells
    have feb_34 := eb_30.free
    have cab_35 := ab_30.cells
    have fab_35 := ab_30.free
    have cxb_36 := xb_31.cells
    have fxb_36 := xb_31.free
    go_wp2_with fail
    refine (sStatsSame_same _ _ _ _ q _ p _ _ _ _ _ ts xss _ (a_30.sta (by omega) (by omega) htot) t_30.sta).mono ?_
    rintro e w4 ⟨rfl, b⟩
    clear csb_32 fsb_32
    clear ctb_33 ftb_33
    clear ceb_34 feb_34
    clear cab_35 fab_35
    clear cxb_36 fxb_36
    simp only [World.size_alloc] at b
    have t_37 := b.size
    simp only [World.size_alloc] at t_37
    have z_37 : w.heap.size ≤ w4.heap.size := by omega
    have s_38 := s_30.same (same_below b (by omega))
    clear s_30
    have t_38 := t_30.same (same_below b (by omega))
    clear t_30
    have e_38 := e_30.same (same_below b (by omega))
    clear e_30
    have sb_38 := sb_30.same (same_below b (by omega))
    clear sb_30
    have tb_38 := tb_30.same (same_below b (by omega))
    clear tb_30
    have eb_38 := eb_30.same (same_below b (by omega))
    clear eb_30
    have a_38 := a_30.same (same_below b (by omega))
    clear a_30
    have ab_38 := ab_30.same (same_below b (by omega))
    clear ab_30
    have x_38 := x_30.same (same_below b (by omega))
    clear x_30
    have xb_38 := xb_31.same (same_below b (by omega))
    clear xb_31
    have B_37 := B_31.trans (b.mono (by omega))
    clear B_31 b
    have csb_39 := sb_38.cells
    have fsb_39 := sb_38.free
    have ctb_40 := tb_38.cells
    have ftb_40 := tb_38.free
    have ceb_41 := eb_38.cells
    have feb_41 := eb_38.free
    have cab_42 := ab_38.cells
    have fab_42 := ab_38.free
    have cxb_43 := xb_38.cells
    have fxb_43 := xb_38.free
    go_wp2_with fail
    go_ret
    exact ⟨rfl, B_37⟩
  · obtain ⟨cc, rfl, hcc, ht2, hx2, hs2⟩ := stats_add hz
    obtain ⟨hst, hex, hne, hyb, hsum⟩ := addStB_iff.1 hz
    have hlt := statsB_lenT hst
    have hcq : cc < q := by have := HTL.out; omega
    obtain ⟨ts2, e2⟩ : ∃ ts2, addAt ts cc y = ts2 := ⟨_, rfl⟩
    obtain ⟨xss2, e3⟩ : ∃ xss2, addK cs.length (cc : Nat) y bl xss xss.length = xss2 := ⟨_, rfl⟩
    have hsm := addAt_sum ts cc y (by have := HTL.out; omega)
    have hget : ∀ k, ts2.getD k 0 = if k = cc then ts.getD k 0 + y else ts.getD k 0 := fun k => by rw [← e2]; exact addAt_get ts cc y k (by have := HTL.out; omega)
    have hl2 : ts2.length = q := by rw [← e2, addAt_len]; exact HTL.out
    have hx128 : ∀ xs ∈ xss2, xs.length ≤ 128 := by rw [← e3, ← hx2]; exact addX_le8 HX128.out
    have hxl2 : xss2.length = p := by rw [← e3, addK_len]; exact HXL.out
    rw [e2] at ht2 hs2 hsm; rw [e3] at hx2 hs2
    obtain ⟨N1, hN1⟩ : ∃ N1, ts.sum = N1 := ⟨_, rfl⟩
    rw [hN1] at hsm hsum
    have htb : 0 ≤ N1 := by
      rw [← hN1]
      have h := hst
      unfold statsB totB at h
      simp only [Bool.and_eq_true, Bool.not_eq_true'] at h
      exact (sum_bd ts (fun z hz => badW_get h.1.2.1.2 hz)).1
    have hbd : ∀ k, k < q → 0 ≤ ts.getD k 0 ∧ ts.getD k 0 ≤ 999 := fun k hk => by
      have h := hst
      unfold statsB totB at h
      simp only [Bool.and_eq_true, Bool.not_eq_true'] at h
      exact badW_get h.1.2.1.2 (getD_mem (by have := HTL.out; omega))
    have htot : totI xss2 ≤ 1048576 := by
      have h1 := totI_le hx128
      rw [hxl2] at h1; omega
    have HZ := Lib.hid hz; have HT2 := Lib.hid ht2; have HX2 := Lib.hid hx2; have HS2 := Lib.hid hs2; have HSM := Lib.hid hsm; have HN1 := Lib.hid hN1; have HGet := Lib.hid hget; have HBd := Lib.hid hbd; have HST := Lib.hid hst; have HL2 := Lib.hid hl2
    clear hz ht2 hx2 hs2 hsm hget hbd hst hex hne hN1 e2 e3 hlt hx128 hxl2 hl2 hcc
    go_wp2_with fail
    refine (iadd3 S1 S2 sn sc sm sd hs ats cs T X q qc p pc gs ts xss E k_ c_ bl (cc : Nat) y _ s_8.sch t_8.sta e_8.rd (by omega) true ts2 xss2 HZ.out HT2.out HX2.out).mono ?_
    rintro e w2 ⟨A3, c3, C3, d3, mida, ha, rfl, o, b⟩
    clear csb_10 fsb_10
    clear ctb_11 ftb_11
    clear ceb_12 feb_12
    simp only [World.size_alloc] at b o
    have t_13 := b.size
    simp only [World.size_alloc] at t_13
    have z_13 : w.heap.size ≤ w2.heap.size := by omega
    have s_14 := s_8.same (same_below b (by omega))
    clear s_8
    have t_14 := t_8.same (same_below b (by omega))
    clear t_8
    have e_14 := e_8.same (same_below b (by omega))
    clear e_8
    have sb_14 := sb_8.same (same_below b (by omega))
    clear sb_8
    have tb_14 := tb_8.same (same_below b (by omega))
    clear tb_8
    have eb_14 := eb_9.same (same_below b (by omega))
    clear eb_9
    have B_13 := B_9.trans (b.mono (by omega))
    clear B_9 b
    have a_13 := o
    clear o
    have csb_15 := sb_14.cells
    have fsb_15 := sb_14.free
    have ctb_16 := tb_14.cells
    have ftb_16 := tb_14.free
    have ceb_17 := eb_14.cells
    have feb_17 := eb_14.free
    clear csb_15 fsb_15
    clear ctb_16 ftb_16
    clear ceb_17 feb_17
    have s_18 := s_14.same (same_alloc (.cells #[.slice A3 q c3, .slice C3 p d3] 35) (by omega))
    clear s_14
    have t_18 := t_14.same (same_alloc (.cells #[.slice A3 q c3, .slice C3 p d3] 35) (by omega))
    clear t_14
    have e_18 := e_14.same (same_alloc (.cells #[.slice A3 q c3, .slice C3 p d3] 35) (by omega))
    clear e_14
    have sb_18 := sb_14.same (same_alloc (.cells #[.slice A3 q c3, .slice C3 p d3] 35) (by omega))
    clear sb_14
    have tb_18 := tb_14.same (same_alloc (.cells #[.slice A3 q c3, .slice C3 p d3] 35) (by omega))
    clear tb_14
    have eb_18 := eb_14.same (same_alloc (.cells #[.slice A3 q c3, .slice C3 p d3] 35) (by omega))
    clear eb_14
    have a_18 := a_13.same (same_alloc (.cells #[.slice A3 q c3, .slice C3 p d3] 35) (by omega))
    clear a_13
    have ab_19 : Bx (w2.alloc (.cells #[.slice A3 q c3, .slice C3 p d3] 35)) (w2.heap.size) 35 #[.slice A3 q c3, .slice C3 p d3] := Bx.new _ _ _
    have B_19 := B_13.alloc z_13 (.cells #[.slice A3 q c3, .slice C3 p d3] 35)
    clear B_13
    have csb_20 := sb_18.cells
    have fsb_20 := sb_18.free
    have ctb_21 := tb_18.cells
    have ftb_21 := tb_18.free
    have ceb_22 := eb_18.cells
    have feb_22 := eb_18.free
    have cab_23 := ab_19.cells
    have fab_23 := ab_19.free
    go_wp2_with fail
    refine (sadd3 S1 S2 sn sc sm sd hs ats cs T X q qc p pc gs ts xss E k_ c_ bl (cc : Nat) y _ s_18.sch t_18.sta e_18.rd (by omega) true ts2 xss2 HZ.out HT2.out HX2.out).mono ?_
    rintro e w3 ⟨A4, c4, C4, d4, midx, hx, rfl, o, b⟩
    clear csb_20 fsb_20
    clear ctb_21 ftb_21
    clear ceb_22 feb_22
    clear cab_23 fab_23
    simp only [World.size_alloc] at b o
    have t_24 := b.size
    simp only [World.size_alloc] at t_24
    have z_24 : w.heap.size ≤ w3.heap.size := by omega
    have s_25 := s_18.same (same_below b (by omega))
    clear s_18
    have t_25 := t_18.same (same_below b (by omega))
    clear t_18
    have e_25 := e_18.same (same_below b (by omega))
    clear e_18
    have sb_25 := sb_18.same (same_below b (by omega))
    clear sb_18
    have tb_25 := tb_18.same (same_below b (by omega))
    clear tb_18
    have eb_25 := eb_18.same (same_below b (by omega))
    clear eb_18
    have a_25 := a_18.same (same_below b (by omega))
    clear a_18
    have ab_25 := ab_19.same (same_below b (by omega))
    clear ab_19
    have B_24 := B_19.trans (b.mono (by omega))
    clear B_19 b
    have x_24 := o
    clear o
    have csb_26 := sb_25.cells
    have fsb_26 := sb_25.free
    have ctb_27 := tb_25.cells
    have ftb_27 := tb_25.free
    have ceb_28 := eb_25.cells
    have feb_28 := eb_25.free
    have cab_29 := ab_25.cells
    have fab_29 := ab_25.free
    clear csb_26 fsb_26
    clear ctb_27 ftb_27
    clear ceb_28 feb_28
    clear cab_29 fab_29
    have s_30 := s_25.same (same_alloc (.cells #[.slice A4 q c4, .slice C4 p d4] 35) (by omega))
    clear s_25
    have t_30 := t_25.same (same_alloc (.cells #[.slice A4 q c4, .slice C4 p d4] 35) (by omega))
    clear t_25
    have e_30 := e_25.same (same_alloc (.cells #[.slice A4 q c4, .slice C4 p d4] 35) (by omega))
    clear e_25
    have sb_30 := sb_25.same (same_alloc (.cells #[.slice A4 q c4, .slice C4 p d4] 35) (by omega))
    clear sb_25
    have tb_30 := tb_25.same (same_alloc (.cells #[.slice A4 q c4, .slice C4 p d4] 35) (by omega))
    clear tb_25
    have eb_30 := eb_25.same (same_alloc (.cells #[.slice A4 q c4, .slice C4 p d4] 35) (by omega))
    clear eb_25
    have a_30 := a_25.same (same_alloc (.cells #[.slice A4 q c4, .slice C4 p d4] 35) (by omega))
    clear a_25
    have ab_30 := ab_25.same (same_alloc (.cells #[.slice A4 q c4, .slice C4 p d4] 35) (by omega))
    clear ab_25
    have x_30 := x_24.same (same_alloc (.cells #[.slice A4 q c4, .slice C4 p d4] 35) (by omega))
    clear x_24
    have xb_31 : Bx (w3.alloc (.cells #[.slice A4 q c4, .slice C4 p d4] 35)) (w3.heap.size) 35 #[.slice A4 q c4, .slice C4 p d4] := Bx.new _ _ _
    have B_31 := B_24.alloc z_24 (.cells #[.slice A4 q c4, .slice C4 p d4] 35)
    clear B_24
    have csb_32 := sb_30.cells
    have fsb_32 := sb_30.free
    have ctb_33 := tb_30.cells
    have ftb_33 := tb_30.free
    have ceb_34 := eb_30.cells
    have feb_34 := eb_30.free
    have cab_35 := ab_30.cells
    have fab_35 := ab_30.free
    have cxb_36 := xb_31.cells
    have fxb_36 := xb_31.free
    have Ha := Lib.hid (a_30.sta (by omega) (by omega) htot)
    have hw1 : IntKind.i64.wrap (N1 + y) = N1 + y := IntWalk.i64_in _ (by omega)
    clear Ha
    go_wp2_with fail
    clear csb_32 fsb_32
    clear ctb_33 ftb_33
    clear ceb_34 feb_34
    clear cab_35 fab_35
    clear cxb_36 fxb_36
    obtain ⟨v37, hv37⟩ : ∃ v37, v37 = (w3.alloc (.cells #[.slice A4 q c4, .slice C4 p d4] 35)) := ⟨_, rfl⟩
    have zv37 : w3.heap.size + 1 ≤ v37.heap.size := by rw [hv37]; simp
    rw [← hv37] at s_30 t_30 e_30 sb_30 tb_30 eb_30 a_30 ab_30 x_30 xb_31 B_31 ⊢
    clear hv37
    have z_38 : w.heap.size ≤ v37.heap.size := by omega
    have csb_39 := sb_30.cells
    have fsb_39 := sb_30.free
    have ctb_40 := tb_30.cells
    have ftb_40 := tb_30.free
    have ceb_41 := eb_30.cells
    have feb_41 := eb_30.free
    have cab_42 := ab_30.cells
    have fab_42 := ab_30.free
    have cxb_43 := xb_31.cells
    have fxb_43 := xb_31.free
    have clsb0_44 := cell_regrown (w := v37) (a := ⟨w1.heap.size, 0, none⟩) (v := .slice S1 sn sc) (sb_30.cells 0)
    have clsb1_44 := cell_regrown (w := v37) (a := ⟨w1.heap.size, 1, none⟩) (v := .slice S2 sm sd) (sb_30.cells 1)
    have cltb0_44 := cell_regrown (w := v37) (a := ⟨w1.heap.size + 1, 0, none⟩) (v := .slice T q qc) (tb_30.cells 0)
    have cltb1_44 := cell_regrown (w := v37) (a := ⟨w1.heap.size + 1, 1, none⟩) (v := .slice X p pc) (tb_30.cells 1)
    have clab0_44 := cell_regrown (w := v37) (a := ⟨w2.heap.size, 0, none⟩) (v := .slice A3 q c3) (ab_30.cells 0)
    have clab1_44 := cell_regrown (w := v37) (a := ⟨w2.heap.size, 1, none⟩) (v := .slice C3 p d3) (ab_30.cells 1)
    clear csb_39 fsb_39
    clear ctb_40 ftb_40
    clear ceb_41 feb_41
    clear cab_42 fab_42
    clear cxb_43 fxb_43
    have cA : ∀ d' os, Calls Try.prog 33 #[.agg #[.slice S1 sn sc, .slice S2 sm sd], .agg #[.slice A3 q c3, .slice C3 p d3]] (grow (redrawn v37 d') os) fun e w'' => e = .returned (.bool true) ∧ ∃ p : Regrown, w'' = grow (redrawn v37 p.d) p.os := fun d' os => Calls.regrown_of (by rw [← HS2.out]; exact iStatsOk_any S1 S2 sn sc sm sd hs ats cs A3 C3 q c3 p d3 ha ts2 xss2 _ (s_30.sch.below (below_regrown _ d' os) (Nat.le_refl _)) ((a_30.sta (by omega) (by omega) htot).below (below_regrown _ d' os) (Nat.le_refl _)))
    have cB : ∀ d' os, Calls Try.prog 34 #[.agg #[.slice S1 sn sc, .slice S2 sm sd], .agg #[.slice A3 q c3, .slice C3 p d3]] (grow (redrawn v37 d') os) fun e w'' => e = .returned (.int .i64 (N1 + y)) ∧ ∃ p : Regrown, w'' = grow (redrawn v37 p.d) p.os := fun d' os => Calls.regrown_of (by rw [← HSM.out]; exact iStatsTotal_any S1 S2 sn sc sm sd hs ats cs A3 C3 q c3 p d3 ha ts2 xss2 _ (s_30.sch.below (below_regrown _ d' os) (Nat.le_refl _)) ((a_30.sta (by omega) (by omega) htot).below (below_regrown _ d' os) (Nat.le_refl _)) HS2.out)
    have cC : ∀ d' os, Calls Try.prog 34 #[.agg #[.slice S1 sn sc, .slice S2 sm sd], .agg #[.slice T q qc, .slice X p pc]] (grow (redrawn v37 d') os) fun e w'' => e = .returned (.int .i64 N1) ∧ ∃ p : Regrown, w'' = grow (redrawn v37 p.d) p.os := fun d' os => Calls.regrown_of (by rw [← HN1.out]; exact iStatsTotal_any S1 S2 sn sc sm sd hs ats cs T X q qc p pc gs ts xss _ (s_30.sch.below (below_regrown _ d' os) (Nat.le_refl _)) (t_30.sta.below (below_regrown _ d' os) (Nat.le_refl _)) HST.out)
    have HA_44 := Lib.hid B_31
    refine wp_region_quiet_below (by kernel_rfl) (by kernel_rfl) ?_
    repeat (first | go_big_quiet_step (first | with_reducible exact cA _ _ | with_reducible exact cB _ _ | with_reducible exact cC _ _) | quiet_step (first | with_reducible exact cA _ _ | with_reducible exact cB _ _ | with_reducible exact cC _ _))
    refine wpQuiet_nil ?_
    intro _ hw'
    obtain ⟨⟨dq, osq⟩, hw''⟩ := hw'
    subst hw''
    have bq := below_regrown v37 dq osq
    clear cA cB cC clsb0_44 clsb1_44 cltb0_44 cltb1_44 clab0_44 clab1_44
    generalize grow (redrawn v37 dq) osq = w4 at bq ⊢
    have t_44 := bq.size
    have z_44 : w.heap.size ≤ w4.heap.size := by omega
    have s_45 := s_30.same (same_below bq (by omega))
    clear s_30
    have t_45 := t_30.same (same_below bq (by omega))
    clear t_30
    have e_45 := e_30.same (same_below bq (by omega))
    clear e_30
    have sb_45 := sb_30.same (same_below bq (by omega))
    clear sb_30
    have tb_45 := tb_30.same (same_below bq (by omega))
    clear tb_30
    have eb_45 := eb_30.same (same_below bq (by omega))
    clear eb_30
    have a_45 := a_30.same (same_below bq (by omega))
    clear a_30
    have ab_45 := ab_30.same (same_below bq (by omega))
    clear ab_30
    have x_45 := x_30.same (same_below bq (by omega))
    clear x_30
    have xb_45 := xb_31.same (same_below bq (by omega))
    clear xb_31
    have B_44 := B_31.trans (bq.mono (by omega))
    clear B_31 bq
    have csb_46 := sb_45.cells
    have fsb_46 := sb_45.free
    have ctb_47 := tb_45.cells
    have ftb_47 := tb_45.free
    have ceb_48 := eb_45.cells
    have feb_48 := eb_45.free
    have cab_49 := ab_45.cells
    have fab_49 := ab_45.free
    have cxb_50 := xb_45.cells
    have fxb_50 := xb_45.free
    have HEb := Lib.hid eb_45; have HTb := Lib.hid tb_45; have HAb := Lib.hid ab_45; have HTr := Lib.hid t_45.tot.rd; have HAr := Lib.hid a_45.tot.rd; have HAc := Lib.hid B_44
    have l1 := eb_45.lt; have l2 := tb_45.lt; have l3 := ab_45.lt
    go_wp2_with fail
    clear csb_46 fsb_46 ctb_47 ftb_47 ceb_48 feb_48 cab_49 fab_49 cxb_50 fxb_50 hw1
    go_loopw [11] (fun si wr => ∃ k : Nat, k ≤ q ∧ si = .int .i64 k ∧ Below w4.heap.size w4 wr) (fun si _ => q - (intOf si).toNat)
    case atStart => exact ⟨0, Nat.zero_le _, rfl, Below.refl _ _⟩
    case round =>
      obtain ⟨k, hk, rfl, hbel⟩ := hrel
      obtain ⟨wo, rfl⟩ : ∃ wo : World, wo = wr := ⟨_, rfl⟩
      have HBel := Lib.hid hbel
      have be := HEb.out.same (same_below hbel (Nat.succ_le_of_lt l1)); have bt := HTb.out.same (same_below hbel (Nat.succ_le_of_lt l2)); have ba := HAb.out.same (same_below hbel (Nat.succ_le_of_lt l3))
      have HTr2 := Lib.hid (HTr.out.below hbel (Nat.le_refl _)); have HAr2 := Lib.hid (HAr.out.below hbel (Nat.le_refl _))
      have ce := be.cells 1; have ct0 := bt.cells 0; have ca0 := ba.cells 0
      simp at ce ct0 ca0
      have hzo := hbel.size
      clear hbel be bt ba
      by_cases hlt : k < q
      · obtain ⟨b1, o1, rfl, hb1, hc1⟩ := HTr2.out.ex (by omega)
        obtain ⟨b2, o2, rfl, hb2, hc2⟩ := HAr2.out.ex (by omega)
        obtain ⟨x1, hx1⟩ : ∃ x1, ts.getD k 0 = x1 := ⟨_, rfl⟩
        have hxb := HBd.out k hlt
        have hg := HGet.out k
        rw [hx1] at hxb hg
        have q1 := hc1 k (.int .i64 x1) (by rw [List.getElem?_map, show ts[k]? = some x1 by rw [← hx1]; simp [List.getD, show k < ts.length by have := HTL.out; omega]]; rfl)
        have q2 := hc2 k (.int .i64 (ts2.getD k 0)) (by rw [List.getElem?_map, show ts2[k]? = some (ts2.getD k 0) by simp [List.getD, show k < ts2.length by have := HL2.out; omega]]; rfl)
        have k0 : (0 : Int) ≤ (k : Int) := Int.natCast_nonneg _
        have k1 : (k : Int) < (q : Int) := by omega
        clear hc1 hc2 hx1
        by_cases hkc : k = cc
        · subst hkc
          rw [if_pos rfl] at hg
          rw [hg] at q2
          have e1 : ((k : Int) != (k : Int)) = false := by simp
          have e2 : ((k : Int) == (k : Int)) = true := by simp
          have e3 : IntKind.i64.wrap (x1 + y) = x1 + y := IntWalk.i64_in _ (by omega)
          have e4 : ((x1 + y) != (x1 + y)) = false := by simp
          clear hg
          go_wp2_with fail
          go_quiet (fail)
          go_wp2_with fail
          go_roundw
          case rel => exact ⟨k + 1, by omega, by go_num, HBel.out.trans ⟨rfl, rfl, rfl, Nat.le_refl _, fun _ _ => rfl⟩⟩
          case measure => simp [intOf]; omega
        · rw [if_neg hkc] at hg
          rw [hg] at q2
          have hki : ¬ (k : Int) = (cc : Int) := by omega
          have e1 : ((k : Int) != (cc : Int)) = true := by simpa using hki
          have e2 : ((k : Int) == (cc : Int)) = false := beq_false_of_ne hki
          have e3 : decide ((k : Int) = (cc : Int)) = false := decide_eq_false hki
          have e4 : (x1 != x1) = false := by simp
          have e5 : (k == cc) = false := beq_false_of_ne hkc
          have e6 : (k != cc) = true := by simpa using hkc
          clear hg
          go_wp2_with fail
          go_quiet (fail)
          go_wp2_with fail
          go_roundw
          case rel => exact ⟨k + 1, by omega, by go_num, HBel.out.trans ⟨rfl, rfl, rfl, Nat.le_refl _, fun _ _ => rfl⟩⟩
          case measure => simp [intOf]; omega
      · obtain rfl : k = q := by omega
        have HB9 := Lib.hid (HAc.out.trans (HBel.out.mono (by omega)))
        go_wp2_with fail
        go_ret
        exact ⟨rfl, HB9.out⟩

theorem walk (w : World) (A : Option Addr) (n c : Nat) (xs : List Int) (hl : n ≤ c) (hm : c ≤ maxLen) (hr : Rd w A n (xs.map (Value.int .u8))) (hu : ∀ z ∈ xs, (Lit.int .u8 z).wf = true) :
    Calls Try.prog 5 #[.slice A n c] w fun e w' => e = .returned (.bool true) ∧ Below w.heap.size w w' := by
  unfold maxLen at hm
  have HR := Lib.hid hr
  have HU : Hid (∀ z ∈ xs, 0 ≤ z ∧ z ≤ 255) := fun z hz => u8wf (hu z hz)
  clear hr hu
  by_cases hn : n ≤ 1048576
  · exact walkIn w A n c xs hn HR HU
  · go_enter Try.func5, Try.ntmps5
    go_wp2_with fail
    refine (big_yes A n c w hn).mono ?_
    rintro e _ ⟨rfl, rfl⟩
    go_wp2_with fail
    go_ret
    exact ⟨rfl, Below.refl _ _⟩

set_option maxRecDepth 100000 in
theorem walks : Walks 5 Try.f5 := by
  intro H enc W base args ds ps hval hA _
  rw [Try.params5] at hA hval
  obtain ⟨v0, vs0, d0, ds0, p0, q0, hargs, rfl, rfl, h0, r0⟩ := trodAll_cons hA
  obtain ⟨rfl, rfl, rfl⟩ := trodAll_nil r0
  obtain rfl : args = #[v0] := by cases args; simp_all
  obtain ⟨f0, y0, z0⟩ := slice_cell Try.underlying52 (hval 0 52 v0 rfl rfl) h0
  obtain ⟨A0, n0, c0, a0, rfl, hl0, hm0, hr0, w0⟩ := open_ints_rd Try.underlying52 (by kernel_rfl) Try.underlying5 z0
  exact walk (w := W) A0 n0 c0 a0 hl0 hm0 hr0 w0

set_option maxRecDepth 100000 in
theorem lifted (os : Os) (started : os.Started) (H : Type) (enc : TypeId × Value → H) :
    ReturnsInHanded {} Try.checked os 5 .any (Rows.fnCountedSpec.pre6 enc Try.prog Try.f5 Rows.fnCountedRow.domain false) (Rows.fnCountedSpec.post enc Try.prog Try.f5 false true false false) :=
  law_lifted started (by kernel_rfl) Try.func5
    (ChangeSpec.witness6 (enc := enc) (C := Try.checked) false ⟨#[], #[.slice none 0 0], []⟩ 8 (by kernel_rfl) (by kernel_rfl) (by kernel_rfl) (by kernel_rfl))
    rfl rfl Try.underlying4 (fun ds h => match ds, h with | [_], _ => rfl) (by
      rw [Try.params5]
      intro t ht
      simp only [List.mem_cons, List.not_mem_nil, or_false] at ht
      subst ht
      exact ⟨by kernel_rfl, of_decide_eq_true (by kernel_rfl)⟩) walks

theorem over : Rows.fnCountedRow.holds Try.pinned (OpenSpec.ofChange Rows.fnCountedSpec) :=
  OpenClaim.holds_of_wide 5 Try.f5 rfl rfl rfl rfl rfl rfl rfl ⟨rfl, rfl, rfl, rfl, rfl⟩ rfl rfl rfl rfl rfl (by kernel_rfl) Try.func5 (by kernel_rfl)
    (of_decide_eq_true (by kernel_rfl)) (by unfold Func.isWrapper; first | (rw [if_pos (by decide +kernel)]; kernel_rfl) | (rw [if_neg (by decide +kernel)]; exact ⟨rfl, rfl⟩))
    (fun os started H enc _ => lifted os started H enc)

theorem proved : Rows.FnCountedSaid := over
#print axioms proved

end LawFCounted
end Go.Proofs.Ytchkmcikpamdeaa
