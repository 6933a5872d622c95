/-
  Proved: laws.FnAnyOrder returns true for every list of bytes. Conditions: none.
-/
import Derived.Test.YtchkmcikpamdeaaSecond
import Derived.Test.YtchkmcikpamdeaaCntP
import Derived.Test.YtchkmcikpamdeaaSame
import Derived.Test.YtchkmcikpamdeaaRng
import Derived.Test.YtchkmcikpamdeaaStAddI
import Derived.Test.YtchkmcikpamdeaaOpen
import Derived.Deep.DeepCutAuto
import Derived.BigQuiet
import Derived.Lib.QuietBelow
namespace Go.Proofs.Ytchkmcikpamdeaa
open Go.ChangeShapes Go.WideShapes Go.ChangeAt Go.RowKit Go.Deep
namespace LawFAnyOrder
set_option linter.unusedSimpArgs false
set_option linter.unusedVariables false
theorem u8wf {z : Int} (h : (Lit.int .u8 z).wf = true) : 0 ≤ z ∧ z ≤ 255 := by
  simp [Lit.wf, IntKind.min, IntKind.max, IntKind.bits, IntKind.signed] at h
  omega
theorem big_no (A : Option Addr) (n c : Nat) (w : World) (h : n ≤ 1048576) : Calls Try.prog 24 #[.slice A n c] w fun e w' => e = .returned (.bool false) ∧ w = w' := by
  go_enter Try.func24, Try.ntmps24
  go_wp2
  go_ret
  exact ⟨by simp; omega, rfl⟩
theorem big_yes (A : Option Addr) (n c : Nat) (w : World) (h : ¬ n ≤ 1048576) : Calls Try.prog 24 #[.slice A n c] w fun e w' => e = .returned (.bool true) ∧ w = w' := by
  go_enter Try.func24, Try.ntmps24
  go_wp2
  go_ret
  exact ⟨by simp; omega, rfl⟩
open Go.Sort

theorem same_set2 {w : World} {b lo hi : Nat} {x y : Value} (h : b < lo ∨ hi ≤ b) : Same lo hi w ((w.setCell ⟨b, 0, none⟩ x).setCell ⟨b, 1, none⟩ y) :=
  fun k h1 h2 => (heap_setCell_other _ ⟨b, 1, none⟩ k y (by simp; omega)).trans (heap_setCell_other w ⟨b, 0, none⟩ k x (by simp; omega))

theorem iadd3 (A C : Option Addr) (n c m d : Nat) (hs : List AH) (ats : List AD) (cs : List ByteArray) (T X : Option Addr) (q e0 p f0 : Nat) (gs : List Hd) (ts : List Int) (xss : List (List Int)) (E : Option Addr) (r0n e1 : Nat) (bs : List Int) (cl u : Int) (w : World) (r : Sch w A C n m d hs ats cs) (s : Sta w T X q p gs ts xss) (x : Rd w E r0n (bs.map (Value.int .i64))) (hr0 : r0n ≤ 1048576) (z : Bool) (ts2 : List Int) (xss2 : List (List Int)) (hz : addStB ats cs ts xss bs cl u = z) (ht : addT ats cs ts xss bs cl u = ts2) (hx : addX ats cs ts xss bs cl u = xss2) :
    Calls Try.prog 16 #[.agg #[.slice A n c, .slice C m d], .agg #[.slice T q e0, .slice X p f0], .agg #[.slice E r0n e1, .int .i64 cl], .int .i64 u] w fun e w' => ∃ A' c' C' d' mid hs', e = .returned (.tuple #[.agg #[.slice A' q c', .slice C' p d'], .bool z]) ∧ OwSta w.heap.size w'.heap.size w' A' C' q c' p d' mid hs' ts2 xss2 ∧ Below w.heap.size w w' := by
  subst hz ht hx
  exact iStatsAdd_any A C n c m d hs ats cs T X q e0 p f0 gs ts xss E r0n e1 bs cl u w r s x hr0

theorem sadd3 (A C : Option Addr) (n c m d : Nat) (hs : List AH) (ats : List AD) (cs : List ByteArray) (T X : Option Addr) (q e0 p f0 : Nat) (gs : List Hd) (ts : List Int) (xss : List (List Int)) (E : Option Addr) (r0n e1 : Nat) (bs : List Int) (cl u : Int) (w : World) (r : Sch w A C n m d hs ats cs) (s : Sta w T X q p gs ts xss) (x : Rd w E r0n (bs.map (Value.int .i64))) (hr0 : r0n ≤ 1048576) (z : Bool) (ts2 : List Int) (xss2 : List (List Int)) (hz : addStB ats cs ts xss bs cl u = z) (ht : addT ats cs ts xss bs cl u = ts2) (hx : addX ats cs ts xss bs cl u = xss2) :
    Calls Try.prog 12 #[.agg #[.slice A n c, .slice C m d], .agg #[.slice T q e0, .slice X p f0], .agg #[.slice E r0n e1, .int .i64 cl], .int .i64 u] w fun e w' => ∃ A' c' C' d' mid hs', e = .returned (.tuple #[.agg #[.slice A' q c', .slice C' p d'], .bool z]) ∧ OwSta w.heap.size w'.heap.size w' A' C' q c' p d' mid hs' ts2 xss2 ∧ Below w.heap.size w w' := by
  subst hz ht hx
  exact sStatsAdd_any A C n c m d hs ats cs T X q e0 p f0 gs ts xss E r0n e1 bs cl u w r s x hr0

theorem addX_len9 {ats : List AD} {cs : List ByteArray} {ts : List Int} {xss : List (List Int)} {bs : List Int} {cl u : Int} : (addX ats cs ts xss bs cl u).length = xss.length := by
  unfold addX; split
  · exact addK_len _
  · rfl
theorem any_order {ats : List AD} {cs : List ByteArray} {ts t1 t2 t3 t4 : List Int} {xss x1 x2 x3 x4 : List (List Int)} {b1 b2 : List Int} {c1 u1 c2 u2 : Int} {z1 z2 z3 z4 : Bool}
    (hz1 : addStB ats cs ts xss b1 c1 u1 = z1) (ht1 : addT ats cs ts xss b1 c1 u1 = t1) (hx1 : addX ats cs ts xss b1 c1 u1 = x1) (hz2 : addStB ats cs t1 x1 b2 c2 u2 = z2) (ht2 : addT ats cs t1 x1 b2 c2 u2 = t2) (hx2 : addX ats cs t1 x1 b2 c2 u2 = x2)
    (hz3 : addStB ats cs ts xss b2 c2 u2 = z3) (ht3 : addT ats cs ts xss b2 c2 u2 = t3) (hx3 : addX ats cs ts xss b2 c2 u2 = x3) (hz4 : addStB ats cs t3 x3 b1 c1 u1 = z4) (ht4 : addT ats cs t3 x3 b1 c1 u1 = t4) (hx4 : addX ats cs t3 x3 b1 c1 u1 = x4) :
    (z1 = true ∧ z2 = true ∧ z3 = true ∧ z4 = true ∧ t2 = t4 ∧ x2 = x4) ∨ ((z1 && z2) = false ∧ (z3 && z4) = false) := by
  subst ht1 hx1 ht3 hx3 hz1 hz2 hz3 hz4 ht2 hx2 ht4 hx4
  cases h : (addStB ats cs ts xss b1 c1 u1 && addStB ats cs (addT ats cs ts xss b1 c1 u1) (addX ats cs ts xss b1 c1 u1) b2 c2 u2)
  · exact .inr ⟨rfl, two_adds_no h⟩
  · simp only [Bool.and_eq_true] at h
    obtain ⟨e1, e2, e3, e4⟩ := two_adds h.1 h.2
    exact .inl ⟨h.1, h.2, e1, e2, e3, e4⟩

set_option maxRecDepth 50000 in
set_option maxHeartbeats 16000000 in
theorem walkIn (w : World) (A : Option Addr) (n c : Nat) (xs : List Int) (hn : n ≤ 1048576) (HR : Hid (Rd w A n (xs.map (Value.int .u8)))) (HU : Hid (∀ z ∈ xs, 0 ≤ z ∧ z ≤ 255)) :
    Calls Try.prog 7 #[.slice A n c] w fun e w' => e = .returned (.bool true) ∧ Below w.heap.size w w' := by
  have B0 := Below.refl w.heap.size w
  have s0 : w.heap.size ≤ w.heap.size := Nat.le_refl _
  go_enter Try.func7, Try.ntmps7
  go_wp2_with fail
  refine (big_no A n c _ hn).mono ?_
  rintro e w1 ⟨rfl, rfl⟩
  go_wp2_with fail
  refine (sDrawStatsAdd_any A n c xs _ HR.out HU.out (by omega)).mono ?_
  rintro e w1 ⟨S1, sn, sc, S2, sm, sd, hs, ats, cs, T, q, qc, X, p, pc, gs, ts, xss, E, k_, c_, bl, cl, y, rfl, hsf, htf, hk17, hef, b⟩
  have t_0 := b.size
  have z_0 : w.heap.size ≤ w1.heap.size := by omega
  have B_0 := B0.trans (b.mono (by omega))
  clear B0 b
  have s_r := hsf.rng
  clear hsf
  have t_r := htf.rng
  clear htf
  have e_r := hef.rng
  clear hef
  have hq32 := t_r.hq; have hp16 := t_r.hp
  have HX128 := Lib.hid t_r.hx
  have HXL := Lib.hid t_r.len
  have s_1 := s_r.same (same_alloc (.cells #[.slice S1 sn sc, .slice S2 sm sd] 40) (by omega))
  clear s_r
  have t_1 := t_r.same (same_alloc (.cells #[.slice S1 sn sc, .slice S2 sm sd] 40) (by omega))
  clear t_r
  have e_1 := e_r.same (same_alloc (.cells #[.slice S1 sn sc, .slice S2 sm sd] 40) (by omega))
  clear e_r
  have sb_2 : Bx (w1.alloc (.cells #[.slice S1 sn sc, .slice S2 sm sd] 40)) (w1.heap.size) 40 #[.slice S1 sn sc, .slice S2 sm sd] := Bx.new _ _ _
  have B_2 := B_0.alloc z_0 (.cells #[.slice S1 sn sc, .slice S2 sm sd] 40)
  clear B_0
  have csb_3 := sb_2.cells
  have fsb_3 := sb_2.free
  clear csb_3 fsb_3
  have s_4 := s_1.same (same_alloc (.cells #[.slice T q qc, .slice X p pc] 35) (by simp only [World.size_alloc]; omega))
  clear s_1
  have t_4 := t_1.same (same_alloc (.cells #[.slice T q qc, .slice X p pc] 35) (by simp only [World.size_alloc]; omega))
  clear t_1
  have e_4 := e_1.same (same_alloc (.cells #[.slice T q qc, .slice X p pc] 35) (by simp only [World.size_alloc]; omega))
  clear e_1
  have sb_4 := sb_2.same (same_alloc (.cells #[.slice T q qc, .slice X p pc] 35) (by simp only [World.size_alloc]; omega))
  clear sb_2
  have tb_5 : Bx ((w1.alloc (.cells #[.slice S1 sn sc, .slice S2 sm sd] 40)).alloc (.cells #[.slice T q qc, .slice X p pc] 35)) (w1.heap.size + 1) 35 #[.slice T q qc, .slice X p pc] := by
    have h := Bx.new (w1.alloc (.cells #[.slice S1 sn sc, .slice S2 sm sd] 40)) 35 #[.slice T q qc, .slice X p pc]
    simpa only [World.size_alloc] using h
  have B_5 := B_2.alloc (by simp only [World.size_alloc]; omega) (.cells #[.slice T q qc, .slice X p pc] 35)
  clear B_2
  have csb_6 := sb_4.cells
  have fsb_6 := sb_4.free
  have ctb_7 := tb_5.cells
  have ftb_7 := tb_5.free
  clear csb_6 fsb_6
  clear ctb_7 ftb_7
  have s_8 := s_4.same (same_alloc (.cells #[.slice E k_ c_, .int .i64 cl] 43) (by simp only [World.size_alloc]; omega))
  clear s_4
  have t_8 := t_4.same (same_alloc (.cells #[.slice E k_ c_, .int .i64 cl] 43) (by simp only [World.size_alloc]; omega))
  clear t_4
  have e_8 := e_4.same (same_alloc (.cells #[.slice E k_ c_, .int .i64 cl] 43) (by simp only [World.size_alloc]; omega))
  clear e_4
  have sb_8 := sb_4.same (same_alloc (.cells #[.slice E k_ c_, .int .i64 cl] 43) (by simp only [World.size_alloc]; omega))
  clear sb_4
  have tb_8 := tb_5.same (same_alloc (.cells #[.slice E k_ c_, .int .i64 cl] 43) (by simp only [World.size_alloc]; omega))
  clear tb_5
  have eb_9 : Bx (((w1.alloc (.cells #[.slice S1 sn sc, .slice S2 sm sd] 40)).alloc (.cells #[.slice T q qc, .slice X p pc] 35)).alloc (.cells #[.slice E k_ c_, .int .i64 cl] 43)) (w1.heap.size + 1 + 1) 43 #[.slice E k_ c_, .int .i64 cl] := by
    have h := Bx.new ((w1.alloc (.cells #[.slice S1 sn sc, .slice S2 sm sd] 40)).alloc (.cells #[.slice T q qc, .slice X p pc] 35)) 43 #[.slice E k_ c_, .int .i64 cl]
    simpa only [World.size_alloc] using h
  have B_9 := B_5.alloc (by simp only [World.size_alloc]; omega) (.cells #[.slice E k_ c_, .int .i64 cl] 43)
  clear B_5
  have csb_10 := sb_8.cells
  have fsb_10 := sb_8.free
  have ctb_11 := tb_8.cells
  have ftb_11 := tb_8.free
  have ceb_12 := eb_9.cells
  have feb_12 := eb_9.free
  go_wp2_with fail
  refine (secondOf_any A n c xs _ (HR.out.below B_9 (Nat.le_refl _)) HU.out hn).mono ?_
  rintro e w2 ⟨F, k2, c2_, bl2, cl2, y2, rfl, hk2, hff, b⟩
  clear csb_10 fsb_10
  clear ctb_11 ftb_11
  clear ceb_12 feb_12
  simp only [World.size_alloc] at b hff
  have t_13 := b.size
  simp only [World.size_alloc] at t_13
  have z_13 : w.heap.size ≤ w2.heap.size := by omega
  have s_14 := s_8.same (same_below b (by omega))
  clear s_8
  have t_14 := t_8.same (same_below b (by omega))
  clear t_8
  have e_14 := e_8.same (same_below b (by omega))
  clear e_8
  have sb_14 := sb_8.same (same_below b (by omega))
  clear sb_8
  have tb_14 := tb_8.same (same_below b (by omega))
  clear tb_8
  have eb_14 := eb_9.same (same_below b (by omega))
  clear eb_9
  have B_13 := B_9.trans (b.mono (by omega))
  clear B_9 b
  have f_13 := Rdf.rng hff
  clear hff
  have csb_15 := sb_14.cells
  have fsb_15 := sb_14.free
  have ctb_16 := tb_14.cells
  have ftb_16 := tb_14.free
  have ceb_17 := eb_14.cells
  have feb_17 := eb_14.free
  clear csb_15 fsb_15
  clear ctb_16 ftb_16
  clear ceb_17 feb_17
  have s_18 := s_14.same (same_alloc (.cells #[.slice F k2 c2_, .int .i64 cl2] 43) (by omega))
  clear s_14
  have t_18 := t_14.same (same_alloc (.cells #[.slice F k2 c2_, .int .i64 cl2] 43) (by omega))
  clear t_14
  have e_18 := e_14.same (same_alloc (.cells #[.slice F k2 c2_, .int .i64 cl2] 43) (by omega))
  clear e_14
  have sb_18 := sb_14.same (same_alloc (.cells #[.slice F k2 c2_, .int .i64 cl2] 43) (by omega))
  clear sb_14
  have tb_18 := tb_14.same (same_alloc (.cells #[.slice F k2 c2_, .int .i64 cl2] 43) (by omega))
  clear tb_14
  have eb_18 := eb_14.same (same_alloc (.cells #[.slice F k2 c2_, .int .i64 cl2] 43) (by omega))
  clear eb_14
  have f_18 := f_13.same (same_alloc (.cells #[.slice F k2 c2_, .int .i64 cl2] 43) (by omega))
  clear f_13
  have fb_19 : Bx (w2.alloc (.cells #[.slice F k2 c2_, .int .i64 cl2] 43)) (w2.heap.size) 43 #[.slice F k2 c2_, .int .i64 cl2] := Bx.new _ _ _
  have B_19 := B_13.alloc z_13 (.cells #[.slice F k2 c2_, .int .i64 cl2] 43)
  clear B_13
  have csb_20 := sb_18.cells
  have fsb_20 := sb_18.free
  have ctb_21 := tb_18.cells
  have ftb_21 := tb_18.free
  have ceb_22 := eb_18.cells
  have feb_22 := eb_18.free
  have cfb_23 := fb_19.cells
  have ffb_23 := fb_19.free
  obtain ⟨z1, hz1⟩ : ∃ r, addStB ats cs ts xss bl cl y = r := ⟨_, rfl⟩
  obtain ⟨t1, ht1⟩ : ∃ r, addT ats cs ts xss bl cl y = r := ⟨_, rfl⟩
  obtain ⟨x1, hx1⟩ : ∃ r, addX ats cs ts xss bl cl y = r := ⟨_, rfl⟩
  obtain ⟨z2, hz2⟩ : ∃ r, addStB ats cs t1 x1 bl2 cl2 y2 = r := ⟨_, rfl⟩
  obtain ⟨t2, ht2⟩ : ∃ r, addT ats cs t1 x1 bl2 cl2 y2 = r := ⟨_, rfl⟩
  obtain ⟨x2, hx2⟩ : ∃ r, addX ats cs t1 x1 bl2 cl2 y2 = r := ⟨_, rfl⟩
  obtain ⟨z3, hz3⟩ : ∃ r, addStB ats cs ts xss bl2 cl2 y2 = r := ⟨_, rfl⟩
  obtain ⟨t3, ht3⟩ : ∃ r, addT ats cs ts xss bl2 cl2 y2 = r := ⟨_, rfl⟩
  obtain ⟨x3, hx3⟩ : ∃ r, addX ats cs ts xss bl2 cl2 y2 = r := ⟨_, rfl⟩
  obtain ⟨z4, hz4⟩ : ∃ r, addStB ats cs t3 x3 bl cl y = r := ⟨_, rfl⟩
  obtain ⟨t4, ht4⟩ : ∃ r, addT ats cs t3 x3 bl cl y = r := ⟨_, rfl⟩
  obtain ⟨x4, hx4⟩ : ∃ r, addX ats cs t3 x3 bl cl y = r := ⟨_, rfl⟩
  have hu1 : ∀ xs ∈ x1, xs.length ≤ 128 := by rw [← hx1]; exact addX_le8 HX128.out
  have hu3 : ∀ xs ∈ x3, xs.length ≤ 128 := by rw [← hx3]; exact addX_le8 HX128.out
  have hu2 : ∀ xs ∈ x2, xs.length ≤ 128 := by rw [← hx2]; exact addX_le8 hu1
  have hu4 : ∀ xs ∈ x4, xs.length ≤ 128 := by rw [← hx4]; exact addX_le8 hu3
  have hl1 : x1.length = p := by rw [← hx1, addX_len9]; exact HXL.out
  have hl3 : x3.length = p := by rw [← hx3, addX_len9]; exact HXL.out
  have hl2 : x2.length = p := by rw [← hx2, addX_len9]; exact hl1
  have hl4 : x4.length = p := by rw [← hx4, addX_len9]; exact hl3
  have hb1 : totI x1 ≤ 1048576 := by have h := totI_le hu1; rw [hl1] at h; omega
  have hb2 : totI x2 ≤ 1048576 := by have h := totI_le hu2; rw [hl2] at h; omega
  have hb3 : totI x3 ≤ 1048576 := by have h := totI_le hu3; rw [hl3] at h; omega
  have hb4 : totI x4 ≤ 1048576 := by have h := totI_le hu4; rw [hl4] at h; omega
  have HW : Hid ((z1 = true ∧ z2 = true ∧ z3 = true ∧ z4 = true ∧ t2 = t4 ∧ x2 = x4) ∨ ((z1 && z2) = false ∧ (z3 && z4) = false)) := any_order (ts := ts) (xss := xss) hz1 ht1 hx1 hz2 ht2 hx2 hz3 ht3 hx3 hz4 ht4 hx4
  have HZ1 := Lib.hid hz1; have HT1 := Lib.hid ht1; have HY1 := Lib.hid hx1
  have HZ2 := Lib.hid hz2; have HT2 := Lib.hid ht2; have HY2 := Lib.hid hx2
  have HZ3 := Lib.hid hz3; have HT3 := Lib.hid ht3; have HY3 := Lib.hid hx3
  have HZ4 := Lib.hid hz4; have HT4 := Lib.hid ht4; have HY4 := Lib.hid hx4
  clear hz1 ht1 hx1 hu1 hl1 hz2 ht2 hx2 hu2 hl2 hz3 ht3 hx3 hu3 hl3 hz4 ht4 hx4 hu4 hl4
  go_wp2_with fail
  refine (iadd3 S1 S2 sn sc sm sd hs ats cs T X q qc p pc gs ts xss E k_ c_ bl cl y _ s_18.sch t_18.sta e_18.rd (by omega) z1 t1 x1 HZ1.out HT1.out HY1.out).mono ?_
  rintro e w3 ⟨Ao1, ao1, Co1, do1, mo1, ho1, rfl, o, b⟩
  clear csb_20 fsb_20
  clear ctb_21 ftb_21
  clear ceb_22 feb_22
  clear cfb_23 ffb_23
  simp only [World.size_alloc] at b o
  have t_24 := b.size
  simp only [World.size_alloc] at t_24
  have z_24 : w.heap.size ≤ w3.heap.size := by omega
  have s_25 := s_18.same (same_below b (by omega))
  clear s_18
  have t_25 := t_18.same (same_below b (by omega))
  clear t_18
  have e_25 := e_18.same (same_below b (by omega))
  clear e_18
  have sb_25 := sb_18.same (same_below b (by omega))
  clear sb_18
  have tb_25 := tb_18.same (same_below b (by omega))
  clear tb_18
  have eb_25 := eb_18.same (same_below b (by omega))
  clear eb_18
  have f_25 := f_18.same (same_below b (by omega))
  clear f_18
  have fb_25 := fb_19.same (same_below b (by omega))
  clear fb_19
  have B_24 := B_19.trans (b.mono (by omega))
  clear B_19 b
  have o1_24 := o
  clear o
  have csb_26 := sb_25.cells
  have fsb_26 := sb_25.free
  have ctb_27 := tb_25.cells
  have ftb_27 := tb_25.free
  have ceb_28 := eb_25.cells
  have feb_28 := eb_25.free
  have cfb_29 := fb_25.cells
  have ffb_29 := fb_25.free
  clear csb_26 fsb_26
  clear ctb_27 ftb_27
  clear ceb_28 feb_28
  clear cfb_29 ffb_29
  have s_30 := s_25.same (same_alloc (.cells #[.slice Ao1 q ao1, .slice Co1 p do1] 35) (by omega))
  clear s_25
  have t_30 := t_25.same (same_alloc (.cells #[.slice Ao1 q ao1, .slice Co1 p do1] 35) (by omega))
  clear t_25
  have e_30 := e_25.same (same_alloc (.cells #[.slice Ao1 q ao1, .slice Co1 p do1] 35) (by omega))
  clear e_25
  have sb_30 := sb_25.same (same_alloc (.cells #[.slice Ao1 q ao1, .slice Co1 p do1] 35) (by omega))
  clear sb_25
  have tb_30 := tb_25.same (same_alloc (.cells #[.slice Ao1 q ao1, .slice Co1 p do1] 35) (by omega))
  clear tb_25
  have eb_30 := eb_25.same (same_alloc (.cells #[.slice Ao1 q ao1, .slice Co1 p do1] 35) (by omega))
  clear eb_25
  have f_30 := f_25.same (same_alloc (.cells #[.slice Ao1 q ao1, .slice Co1 p do1] 35) (by omega))
  clear f_25
  have fb_30 := fb_25.same (same_alloc (.cells #[.slice Ao1 q ao1, .slice Co1 p do1] 35) (by omega))
  clear fb_25
  have o1_30 := o1_24.same (same_alloc (.cells #[.slice Ao1 q ao1, .slice Co1 p do1] 35) (by omega))
  clear o1_24
  have ab_31 : Bx (w3.alloc (.cells #[.slice Ao1 q ao1, .slice Co1 p do1] 35)) (w3.heap.size) 35 #[.slice Ao1 q ao1, .slice Co1 p do1] := Bx.new _ _ _
  have B_31 := B_24.alloc z_24 (.cells #[.slice Ao1 q ao1, .slice Co1 p do1] 35)
  clear B_24
  have csb_32 := sb_30.cells
  have fsb_32 := sb_30.free
  have ctb_33 := tb_30.cells
  have ftb_33 := tb_30.free
  have ceb_34 := eb_30.cells
  have feb_34 := eb_30.free
  have cfb_35 := fb_30.cells
  have ffb_35 := fb_30.free
  have cab_36 := ab_31.cells
  have fab_36 := ab_31.free
  go_wp2_with fail
  refine (iadd3 S1 S2 sn sc sm sd hs ats cs Ao1 Co1 q ao1 p do1 ho1 t1 x1 F k2 c2_ bl2 cl2 y2 _ s_30.sch (o1_30.sta (by omega) (by omega) hb1) f_30.rd (by omega) z2 t2 x2 HZ2.out HT2.out HY2.out).mono ?_
  rintro e w4 ⟨Ao2, ao2, Co2, do2, mo2, ho2, rfl, o, b⟩
  clear csb_32 fsb_32
  clear ctb_33 ftb_33
  clear ceb_34 feb_34
  clear cfb_35 ffb_35
  clear cab_36 fab_36
  simp only [World.size_alloc] at b o
  have t_37 := b.size
  simp only [World.size_alloc] at t_37
  have z_37 : w.heap.size ≤ w4.heap.size := by omega
  have s_38 := s_30.same (same_below b (by omega))
  clear s_30
  have t_38 := t_30.same (same_below b (by omega))
  clear t_30
  have e_38 := e_30.same (same_below b (by omega))
  clear e_30
  have sb_38 := sb_30.same (same_below b (by omega))
  clear sb_30
  have tb_38 := tb_30.same (same_below b (by omega))
  clear tb_30
  have eb_38 := eb_30.same (same_below b (by omega))
  clear eb_30
  have f_38 := f_30.same (same_below b (by omega))
  clear f_30
  have fb_38 := fb_30.same (same_below b (by omega))
  clear fb_30
  have o1_38 := o1_30.same (same_below b (by omega))
  clear o1_30
  have ab_38 := ab_31.same (same_below b (by omega))
  clear ab_31
  have B_37 := B_31.trans (b.mono (by omega))
  clear B_31 b
  have o2_37 := o
  clear o
  have csb_39 := sb_38.cells
  have fsb_39 := sb_38.free
  have ctb_40 := tb_38.cells
  have ftb_40 := tb_38.free
  have ceb_41 := eb_38.cells
  have feb_41 := eb_38.free
  have cfb_42 := fb_38.cells
  have ffb_42 := fb_38.free
  have cab_43 := ab_38.cells
  have fab_43 := ab_38.free
  go_wp2_with fail
  clear csb_39 fsb_39
  clear ctb_40 ftb_40
  clear ceb_41 feb_41
  clear cfb_42 ffb_42
  clear cab_43 fab_43
  obtain ⟨w5, hv_44⟩ : ∃ w5, w5 = (w4.setCell ⟨w3.heap.size, 0, none⟩ (.slice Ao2 q ao2)).setCell ⟨w3.heap.size, 1, none⟩ (.slice Co2 p do2) := ⟨_, rfl⟩
  rw [← hv_44]
  have zs_44 : w4.heap.size ≤ w5.heap.size := by rw [hv_44, World.size_setCell, World.size_setCell]; exact Nat.le_refl _
  have ab_44 : Bx w5 (w3.heap.size) 35 #[.slice Ao2 q ao2, .slice Co2 p do2] := by rw [hv_44]; exact (ab_38.set_ 0 (.slice Ao2 q ao2)).set_ 1 (.slice Co2 p do2)
  have s_45 := s_38.same (show Same (w.heap.size) (w1.heap.size) w4 w5 by rw [hv_44]; exact same_set2 (by omega))
  clear s_38
  have t_45 := t_38.same (show Same (w.heap.size) (w1.heap.size) w4 w5 by rw [hv_44]; exact same_set2 (by omega))
  clear t_38
  have e_45 := e_38.same (show Same (w.heap.size) (w1.heap.size) w4 w5 by rw [hv_44]; exact same_set2 (by omega))
  clear e_38
  have sb_45 := sb_38.same (show Same (w1.heap.size) (w1.heap.size + 1) w4 w5 by rw [hv_44]; exact same_set2 (by omega))
  clear sb_38
  have tb_45 := tb_38.same (show Same (w1.heap.size + 1) (w1.heap.size + 1 + 1) w4 w5 by rw [hv_44]; exact same_set2 (by omega))
  clear tb_38
  have eb_45 := eb_38.same (show Same (w1.heap.size + 1 + 1) (w1.heap.size + 1 + 1 + 1) w4 w5 by rw [hv_44]; exact same_set2 (by omega))
  clear eb_38
  have f_45 := f_38.same (show Same (w1.heap.size + 1 + 1 + 1) (w2.heap.size) w4 w5 by rw [hv_44]; exact same_set2 (by omega))
  clear f_38
  have fb_45 := fb_38.same (show Same (w2.heap.size) (w2.heap.size + 1) w4 w5 by rw [hv_44]; exact same_set2 (by omega))
  clear fb_38
  have o1_45 := o1_38.same (show Same (w2.heap.size + 1) (w3.heap.size) w4 w5 by rw [hv_44]; exact same_set2 (by omega))
  clear o1_38
  have o2_45 := o2_37.same (show Same (w3.heap.size + 1) (w4.heap.size) w4 w5 by rw [hv_44]; exact same_set2 (by omega))
  clear o2_37
  clear ab_38
  have B_44 : Below w.heap.size w w5 := by rw [hv_44]; exact (B_37.setCell (p := ⟨w3.heap.size, 0, none⟩) (show w.heap.size ≤ w3.heap.size by omega) _).setCell (p := ⟨w3.heap.size, 1, none⟩) (show w.heap.size ≤ w3.heap.size by omega) _
  have z_44 : w.heap.size ≤ w5.heap.size := by omega
  clear B_37 hv_44
  have csb_46 := sb_45.cells
  have fsb_46 := sb_45.free
  have ctb_47 := tb_45.cells
  have ftb_47 := tb_45.free
  have ceb_48 := eb_45.cells
  have feb_48 := eb_45.free
  have cfb_49 := fb_45.cells
  have ffb_49 := fb_45.free
  have cab_50 := ab_44.cells
  have fab_50 := ab_44.free
  refine (iadd3 S1 S2 sn sc sm sd hs ats cs T X q qc p pc gs ts xss F k2 c2_ bl2 cl2 y2 _ s_45.sch t_45.sta f_45.rd (by omega) z3 t3 x3 HZ3.out HT3.out HY3.out).mono ?_
  rintro e w6 ⟨Ao3, ao3, Co3, do3, mo3, ho3, rfl, o, b⟩
  clear csb_46 fsb_46
  clear ctb_47 ftb_47
  clear ceb_48 feb_48
  clear cfb_49 ffb_49
  clear cab_50 fab_50
  have t_51 := b.size
  have z_51 : w.heap.size ≤ w6.heap.size := by omega
  have s_52 := s_45.same (same_below b (by omega))
  clear s_45
  have t_52 := t_45.same (same_below b (by omega))
  clear t_45
  have e_52 := e_45.same (same_below b (by omega))
  clear e_45
  have sb_52 := sb_45.same (same_below b (by omega))
  clear sb_45
  have tb_52 := tb_45.same (same_below b (by omega))
  clear tb_45
  have eb_52 := eb_45.same (same_below b (by omega))
  clear eb_45
  have f_52 := f_45.same (same_below b (by omega))
  clear f_45
  have fb_52 := fb_45.same (same_below b (by omega))
  clear fb_45
  have o1_52 := o1_45.same (same_below b (by omega))
  clear o1_45
  have ab_52 := ab_44.same (same_below b (by omega))
  clear ab_44
  have o2_52 := o2_45.same (same_below b (by omega))
  clear o2_45
  have B_51 := B_44.trans (b.mono (by omega))
  clear B_44 b
  have o3_51 := o
  clear o
  have csb_53 := sb_52.cells
  have fsb_53 := sb_52.free
  have ctb_54 := tb_52.cells
  have ftb_54 := tb_52.free
  have ceb_55 := eb_52.cells
  have feb_55 := eb_52.free
  have cfb_56 := fb_52.cells
  have ffb_56 := fb_52.free
  have cab_57 := ab_52.cells
  have fab_57 := ab_52.free
  clear csb_53 fsb_53
  clear ctb_54 ftb_54
  clear ceb_55 feb_55
  clear cfb_56 ffb_56
  clear cab_57 fab_57
  have s_58 := s_52.same (same_alloc (.cells #[.slice Ao3 q ao3, .slice Co3 p do3] 35) (by omega))
  clear s_52
  have t_58 := t_52.same (same_alloc (.cells #[.slice Ao3 q ao3, .slice Co3 p do3] 35) (by omega))
  clear t_52
  have e_58 := e_52.same (same_alloc (.cells #[.slice Ao3 q ao3, .slice Co3 p do3] 35) (by omega))
  clear e_52
  have sb_58 := sb_52.same (same_alloc (.cells #[.slice Ao3 q ao3, .slice Co3 p do3] 35) (by omega))
  clear sb_52
  have tb_58 := tb_52.same (same_alloc (.cells #[.slice Ao3 q ao3, .slice Co3 p do3] 35) (by omega))
  clear tb_52
  have eb_58 := eb_52.same (same_alloc (.cells #[.slice Ao3 q ao3, .slice Co3 p do3] 35) (by omega))
  clear eb_52
  have f_58 := f_52.same (same_alloc (.cells #[.slice Ao3 q ao3, .slice Co3 p do3] 35) (by omega))
  clear f_52
  have fb_58 := fb_52.same (same_alloc (.cells #[.slice Ao3 q ao3, .slice Co3 p do3] 35) (by omega))
  clear fb_52
  have o1_58 := o1_52.same (same_alloc (.cells #[.slice Ao3 q ao3, .slice Co3 p do3] 35) (by omega))
  clear o1_52
  have ab_58 := ab_52.same (same_alloc (.cells #[.slice Ao3 q ao3, .slice Co3 p do3] 35) (by omega))
  clear ab_52
  have o2_58 := o2_52.same (same_alloc (.cells #[.slice Ao3 q ao3, .slice Co3 p do3] 35) (by omega))
  clear o2_52
  have o3_58 := o3_51.same (same_alloc (.cells #[.slice Ao3 q ao3, .slice Co3 p do3] 35) (by omega))
  clear o3_51
  have bb_59 : Bx (w6.alloc (.cells #[.slice Ao3 q ao3, .slice Co3 p do3] 35)) (w6.heap.size) 35 #[.slice Ao3 q ao3, .slice Co3 p do3] := Bx.new _ _ _
  have B_59 := B_51.alloc z_51 (.cells #[.slice Ao3 q ao3, .slice Co3 p do3] 35)
  clear B_51
  have csb_60 := sb_58.cells
  have fsb_60 := sb_58.free
  have ctb_61 := tb_58.cells
  have ftb_61 := tb_58.free
  have ceb_62 := eb_58.cells
  have feb_62 := eb_58.free
  have cfb_63 := fb_58.cells
  have ffb_63 := fb_58.free
  have cab_64 := ab_58.cells
  have fab_64 := ab_58.free
  have cbb_65 := bb_59.cells
  have fbb_65 := bb_59.free
  go_wp2_with fail
  refine (iadd3 S1 S2 sn sc sm sd hs ats cs Ao3 Co3 q ao3 p do3 ho3 t3 x3 E k_ c_ bl cl y _ s_58.sch (o3_58.sta (by omega) (by omega) hb3) e_58.rd (by omega) z4 t4 x4 HZ4.out HT4.out HY4.out).mono ?_
  rintro e w7 ⟨Ao4, ao4, Co4, do4, mo4, ho4, rfl, o, b⟩
  clear csb_60 fsb_60
  clear ctb_61 ftb_61
  clear ceb_62 feb_62
  clear cfb_63 ffb_63
  clear cab_64 fab_64
  clear cbb_65 fbb_65
  simp only [World.size_alloc] at b o
  have t_66 := b.size
  simp only [World.size_alloc] at t_66
  have z_66 : w.heap.size ≤ w7.heap.size := by omega
  have s_67 := s_58.same (same_below b (by omega))
  clear s_58
  have t_67 := t_58.same (same_below b (by omega))
  clear t_58
  have e_67 := e_58.same (same_below b (by omega))
  clear e_58
  have sb_67 := sb_58.same (same_below b (by omega))
  clear sb_58
  have tb_67 := tb_58.same (same_below b (by omega))
  clear tb_58
  have eb_67 := eb_58.same (same_below b (by omega))
  clear eb_58
  have f_67 := f_58.same (same_below b (by omega))
  clear f_58
  have fb_67 := fb_58.same (same_below b (by omega))
  clear fb_58
  have o1_67 := o1_58.same (same_below b (by omega))
  clear o1_58
  have ab_67 := ab_58.same (same_below b (by omega))
  clear ab_58
  have o2_67 := o2_58.same (same_below b (by omega))
  clear o2_58
  have o3_67 := o3_58.same (same_below b (by omega))
  clear o3_58
  have bb_67 := bb_59.same (same_below b (by omega))
  clear bb_59
  have B_66 := B_59.trans (b.mono (by omega))
  clear B_59 b
  have o4_66 := o
  clear o
  have csb_68 := sb_67.cells
  have fsb_68 := sb_67.free
  have ctb_69 := tb_67.cells
  have ftb_69 := tb_67.free
  have ceb_70 := eb_67.cells
  have feb_70 := eb_67.free
  have cfb_71 := fb_67.cells
  have ffb_71 := fb_67.free
  have cab_72 := ab_67.cells
  have fab_72 := ab_67.free
  have cbb_73 := bb_67.cells
  have fbb_73 := bb_67.free
  go_wp2_with fail
  clear csb_68 fsb_68
  clear ctb_69 ftb_69
  clear ceb_70 feb_70
  clear cfb_71 ffb_71
  clear cab_72 fab_72
  clear cbb_73 fbb_73
  obtain ⟨w8, hv_74⟩ : ∃ w8, w8 = (w7.setCell ⟨w6.heap.size, 0, none⟩ (.slice Ao4 q ao4)).setCell ⟨w6.heap.size, 1, none⟩ (.slice Co4 p do4) := ⟨_, rfl⟩
  rw [← hv_74]
  have zs_74 : w7.heap.size ≤ w8.heap.size := by rw [hv_74, World.size_setCell, World.size_setCell]; exact Nat.le_refl _
  have bb_74 : Bx w8 (w6.heap.size) 35 #[.slice Ao4 q ao4, .slice Co4 p do4] := by rw [hv_74]; exact (bb_67.set_ 0 (.slice Ao4 q ao4)).set_ 1 (.slice Co4 p do4)
  have s_75 := s_67.same (show Same (w.heap.size) (w1.heap.size) w7 w8 by rw [hv_74]; exact same_set2 (by omega))
  clear s_67
  have t_75 := t_67.same (show Same (w.heap.size) (w1.heap.size) w7 w8 by rw [hv_74]; exact same_set2 (by omega))
  clear t_67
  have e_75 := e_67.same (show Same (w.heap.size) (w1.heap.size) w7 w8 by rw [hv_74]; exact same_set2 (by omega))
  clear e_67
  have sb_75 := sb_67.same (show Same (w1.heap.size) (w1.heap.size + 1) w7 w8 by rw [hv_74]; exact same_set2 (by omega))
  clear sb_67
  have tb_75 := tb_67.same (show Same (w1.heap.size + 1) (w1.heap.size + 1 + 1) w7 w8 by rw [hv_74]; exact same_set2 (by omega))
  clear tb_67
  have eb_75 := eb_67.same (show Same (w1.heap.size + 1 + 1) (w1.heap.size + 1 + 1 + 1) w7 w8 by rw [hv_74]; exact same_set2 (by omega))
  clear eb_67
  have f_75 := f_67.same (show Same (w1.heap.size + 1 + 1 + 1) (w2.heap.size) w7 w8 by rw [hv_74]; exact same_set2 (by omega))
  clear f_67
  have fb_75 := fb_67.same (show Same (w2.heap.size) (w2.heap.size + 1) w7 w8 by rw [hv_74]; exact same_set2 (by omega))
  clear fb_67
  have o1_75 := o1_67.same (show Same (w2.heap.size + 1) (w3.heap.size) w7 w8 by rw [hv_74]; exact same_set2 (by omega))
  clear o1_67
  have ab_75 := ab_67.same (show Same (w3.heap.size) (w3.heap.size + 1) w7 w8 by rw [hv_74]; exact same_set2 (by omega))
  clear ab_67
  have o2_75 := o2_67.same (show Same (w3.heap.size + 1) (w4.heap.size) w7 w8 by rw [hv_74]; exact same_set2 (by omega))
  clear o2_67
  have o3_75 := o3_67.same (show Same (w5.heap.size) (w6.heap.size) w7 w8 by rw [hv_74]; exact same_set2 (by omega))
  clear o3_67
  have o4_75 := o4_66.same (show Same (w6.heap.size + 1) (w7.heap.size) w7 w8 by rw [hv_74]; exact same_set2 (by omega))
  clear o4_66
  clear bb_67
  have B_74 : Below w.heap.size w w8 := by rw [hv_74]; exact (B_66.setCell (p := ⟨w6.heap.size, 0, none⟩) (show w.heap.size ≤ w6.heap.size by omega) _).setCell (p := ⟨w6.heap.size, 1, none⟩) (show w.heap.size ≤ w6.heap.size by omega) _
  have z_74 : w.heap.size ≤ w8.heap.size := by omega
  clear B_66 hv_74
  have csb_76 := sb_75.cells
  have fsb_76 := sb_75.free
  have ctb_77 := tb_75.cells
  have ftb_77 := tb_75.free
  have ceb_78 := eb_75.cells
  have feb_78 := eb_75.free
  have cfb_79 := fb_75.cells
  have ffb_79 := fb_75.free
  have cab_80 := ab_75.cells
  have fab_80 := ab_75.free
  have cbb_81 := bb_74.cells
  have fbb_81 := bb_74.free
  refine (sadd3 S1 S2 sn sc sm sd hs ats cs T X q qc p pc gs ts xss E k_ c_ bl cl y _ s_75.sch t_75.sta e_75.rd (by omega) z1 t1 x1 HZ1.out HT1.out HY1.out).mono ?_
  rintro e w9 ⟨Ao5, ao5, Co5, do5, mo5, ho5, rfl, o, b⟩
  clear csb_76 fsb_76
  clear ctb_77 ftb_77
  clear ceb_78 feb_78
  clear cfb_79 ffb_79
  clear cab_80 fab_80
  clear cbb_81 fbb_81
  have t_82 := b.size
  have z_82 : w.heap.size ≤ w9.heap.size := by omega
  have s_83 := s_75.same (same_below b (by omega))
  clear s_75
  have t_83 := t_75.same (same_below b (by omega))
  clear t_75
  have e_83 := e_75.same (same_below b (by omega))
  clear e_75
  have sb_83 := sb_75.same (same_below b (by omega))
  clear sb_75
  have tb_83 := tb_75.same (same_below b (by omega))
  clear tb_75
  have eb_83 := eb_75.same (same_below b (by omega))
  clear eb_75
  have f_83 := f_75.same (same_below b (by omega))
  clear f_75
  have fb_83 := fb_75.same (same_below b (by omega))
  clear fb_75
  have o1_83 := o1_75.same (same_below b (by omega))
  clear o1_75
  have ab_83 := ab_75.same (same_below b (by omega))
  clear ab_75
  have o2_83 := o2_75.same (same_below b (by omega))
  clear o2_75
  have o3_83 := o3_75.same (same_below b (by omega))
  clear o3_75
  have bb_83 := bb_74.same (same_below b (by omega))
  clear bb_74
  have o4_83 := o4_75.same (same_below b (by omega))
  clear o4_75
  have B_82 := B_74.trans (b.mono (by omega))
  clear B_74 b
  have o5_82 := o
  clear o
  have csb_84 := sb_83.cells
  have fsb_84 := sb_83.free
  have ctb_85 := tb_83.cells
  have ftb_85 := tb_83.free
  have ceb_86 := eb_83.cells
  have feb_86 := eb_83.free
  have cfb_87 := fb_83.cells
  have ffb_87 := fb_83.free
  have cab_88 := ab_83.cells
  have fab_88 := ab_83.free
  have cbb_89 := bb_83.cells
  have fbb_89 := bb_83.free
  clear csb_84 fsb_84
  clear ctb_85 ftb_85
  clear ceb_86 feb_86
  clear cfb_87 ffb_87
  clear cab_88 fab_88
  clear cbb_89 fbb_89
  have s_90 := s_83.same (same_alloc (.cells #[.slice Ao5 q ao5, .slice Co5 p do5] 35) (by omega))
  clear s_83
  have t_90 := t_83.same (same_alloc (.cells #[.slice Ao5 q ao5, .slice Co5 p do5] 35) (by omega))
  clear t_83
  have e_90 := e_83.same (same_alloc (.cells #[.slice Ao5 q ao5, .slice Co5 p do5] 35) (by omega))
  clear e_83
  have sb_90 := sb_83.same (same_alloc (.cells #[.slice Ao5 q ao5, .slice Co5 p do5] 35) (by omega))
  clear sb_83
  have tb_90 := tb_83.same (same_alloc (.cells #[.slice Ao5 q ao5, .slice Co5 p do5] 35) (by omega))
  clear tb_83
  have eb_90 := eb_83.same (same_alloc (.cells #[.slice Ao5 q ao5, .slice Co5 p do5] 35) (by omega))
  clear eb_83
  have f_90 := f_83.same (same_alloc (.cells #[.slice Ao5 q ao5, .slice Co5 p do5] 35) (by omega))
  clear f_83
  have fb_90 := fb_83.same (same_alloc (.cells #[.slice Ao5 q ao5, .slice Co5 p do5] 35) (by omega))
  clear fb_83
  have o1_90 := o1_83.same (same_alloc (.cells #[.slice Ao5 q ao5, .slice Co5 p do5] 35) (by omega))
  clear o1_83
  have ab_90 := ab_83.same (same_alloc (.cells #[.slice Ao5 q ao5, .slice Co5 p do5] 35) (by omega))
  clear ab_83
  have o2_90 := o2_83.same (same_alloc (.cells #[.slice Ao5 q ao5, .slice Co5 p do5] 35) (by omega))
  clear o2_83
  have o3_90 := o3_83.same (same_alloc (.cells #[.slice Ao5 q ao5, .slice Co5 p do5] 35) (by omega))
  clear o3_83
  have bb_90 := bb_83.same (same_alloc (.cells #[.slice Ao5 q ao5, .slice Co5 p do5] 35) (by omega))
  clear bb_83
  have o4_90 := o4_83.same (same_alloc (.cells #[.slice Ao5 q ao5, .slice Co5 p do5] 35) (by omega))
  clear o4_83
  have o5_90 := o5_82.same (same_alloc (.cells #[.slice Ao5 q ao5, .slice Co5 p do5] 35) (by omega))
  clear o5_82
  have xb_91 : Bx (w9.alloc (.cells #[.slice Ao5 q ao5, .slice Co5 p do5] 35)) (w9.heap.size) 35 #[.slice Ao5 q ao5, .slice Co5 p do5] := Bx.new _ _ _
  have B_91 := B_82.alloc z_82 (.cells #[.slice Ao5 q ao5, .slice Co5 p do5] 35)
  clear B_82
  have csb_92 := sb_90.cells
  have fsb_92 := sb_90.free
  have ctb_93 := tb_90.cells
  have ftb_93 := tb_90.free
  have ceb_94 := eb_90.cells
  have feb_94 := eb_90.free
  have cfb_95 := fb_90.cells
  have ffb_95 := fb_90.free
  have cab_96 := ab_90.cells
  have fab_96 := ab_90.free
  have cbb_97 := bb_90.cells
  have fbb_97 := bb_90.free
  have cxb_98 := xb_91.cells
  have fxb_98 := xb_91.free
  go_wp2_with fail
  refine (sadd3 S1 S2 sn sc sm sd hs ats cs Ao5 Co5 q ao5 p do5 ho5 t1 x1 F k2 c2_ bl2 cl2 y2 _ s_90.sch (o5_90.sta (by omega) (by omega) hb1) f_90.rd (by omega) z2 t2 x2 HZ2.out HT2.out HY2.out).mono ?_
  rintro e w10 ⟨Ao6, ao6, Co6, do6, mo6, ho6, rfl, o, b⟩
  clear csb_92 fsb_92
  clear ctb_93 ftb_93
  clear ceb_94 feb_94
  clear cfb_95 ffb_95
  clear cab_96 fab_96
  clear cbb_97 fbb_97
  clear cxb_98 fxb_98
  simp only [World.size_alloc] at b o
  have t_99 := b.size
  simp only [World.size_alloc] at t_99
  have z_99 : w.heap.size ≤ w10.heap.size := by omega
  have s_100 := s_90.same (same_below b (by omega))
  clear s_90
  have t_100 := t_90.same (same_below b (by omega))
  clear t_90
  have e_100 := e_90.same (same_below b (by omega))
  clear e_90
  have sb_100 := sb_90.same (same_below b (by omega))
  clear sb_90
  have tb_100 := tb_90.same (same_below b (by omega))
  clear tb_90
  have eb_100 := eb_90.same (same_below b (by omega))
  clear eb_90
  have f_100 := f_90.same (same_below b (by omega))
  clear f_90
  have fb_100 := fb_90.same (same_below b (by omega))
  clear fb_90
  have o1_100 := o1_90.same (same_below b (by omega))
  clear o1_90
  have ab_100 := ab_90.same (same_below b (by omega))
  clear ab_90
  have o2_100 := o2_90.same (same_below b (by omega))
  clear o2_90
  have o3_100 := o3_90.same (same_below b (by omega))
  clear o3_90
  have bb_100 := bb_90.same (same_below b (by omega))
  clear bb_90
  have o4_100 := o4_90.same (same_below b (by omega))
  clear o4_90
  have o5_100 := o5_90.same (same_below b (by omega))
  clear o5_90
  have xb_100 := xb_91.same (same_below b (by omega))
  clear xb_91
  have B_99 := B_91.trans (b.mono (by omega))
  clear B_91 b
  have o6_99 := o
  clear o
  have csb_101 := sb_100.cells
  have fsb_101 := sb_100.free
  have ctb_102 := tb_100.cells
  have ftb_102 := tb_100.free
  have ceb_103 := eb_100.cells
  have feb_103 := eb_100.free
  have cfb_104 := fb_100.cells
  have ffb_104 := fb_100.free
  have cab_105 := ab_100.cells
  have fab_105 := ab_100.free
  have cbb_106 := bb_100.cells
  have fbb_106 := bb_100.free
  have cxb_107 := xb_100.cells
  have fxb_107 := xb_100.free
  clear csb_101 fsb_101
  clear ctb_102 ftb_102
  clear ceb_103 feb_103
  clear cfb_104 ffb_104
  clear cab_105 fab_105
  clear cbb_106 fbb_106
  clear cxb_107 fxb_107
  have s_108 := s_100.same (same_alloc (.cells #[.slice Ao6 q ao6, .slice Co6 p do6] 35) (by omega))
  clear s_100
  have t_108 := t_100.same (same_alloc (.cells #[.slice Ao6 q ao6, .slice Co6 p do6] 35) (by omega))
  clear t_100
  have e_108 := e_100.same (same_alloc (.cells #[.slice Ao6 q ao6, .slice Co6 p do6] 35) (by omega))
  clear e_100
  have sb_108 := sb_100.same (same_alloc (.cells #[.slice Ao6 q ao6, .slice Co6 p do6] 35) (by omega))
  clear sb_100
  have tb_108 := tb_100.same (same_alloc (.cells #[.slice Ao6 q ao6, .slice Co6 p do6] 35) (by omega))
  clear tb_100
  have eb_108 := eb_100.same (same_alloc (.cells #[.slice Ao6 q ao6, .slice Co6 p do6] 35) (by omega))
  clear eb_100
  have f_108 := f_100.same (same_alloc (.cells #[.slice Ao6 q ao6, .slice Co6 p do6] 35) (by omega))
  clear f_100
  have fb_108 := fb_100.same (same_alloc (.cells #[.slice Ao6 q ao6, .slice Co6 p do6] 35) (by omega))
  clear fb_100
  have o1_108 := o1_100.same (same_alloc (.cells #[.slice Ao6 q ao6, .slice Co6 p do6] 35) (by omega))
  clear o1_100
  have ab_108 := ab_100.same (same_alloc (.cells #[.slice Ao6 q ao6, .slice Co6 p do6] 35) (by omega))
  clear ab_100
  have o2_108 := o2_100.same (same_alloc (.cells #[.slice Ao6 q ao6, .slice Co6 p do6] 35) (by omega))
  clear o2_100
  have o3_108 := o3_100.same (same_alloc (.cells #[.slice Ao6 q ao6, .slice Co6 p do6] 35) (by omega))
  clear o3_100
  have bb_108 := bb_100.same (same_alloc (.cells #[.slice Ao6 q ao6, .slice Co6 p do6] 35) (by omega))
  clear bb_100
  have o4_108 := o4_100.same (same_alloc (.cells #[.slice Ao6 q ao6, .slice Co6 p do6] 35) (by omega))
  clear o4_100
  have o5_108 := o5_100.same (same_alloc (.cells #[.slice Ao6 q ao6, .slice Co6 p do6] 35) (by omega))
  clear o5_100
  have xb_108 := xb_100.same (same_alloc (.cells #[.slice Ao6 q ao6, .slice Co6 p do6] 35) (by omega))
  clear xb_100
  have o6_108 := o6_99.same (same_alloc (.cells #[.slice Ao6 q ao6, .slice Co6 p do6] 35) (by omega))
  clear o6_99
  have yb_109 : Bx (w10.alloc (.cells #[.slice Ao6 q ao6, .slice Co6 p do6] 35)) (w10.heap.size) 35 #[.slice Ao6 q ao6, .slice Co6 p do6] := Bx.new _ _ _
  have B_109 := B_99.alloc z_99 (.cells #[.slice Ao6 q ao6, .slice Co6 p do6] 35)
  clear B_99
  have csb_110 := sb_108.cells
  have fsb_110 := sb_108.free
  have ctb_111 := tb_108.cells
  have ftb_111 := tb_108.free
  have ceb_112 := eb_108.cells
  have feb_112 := eb_108.free
  have cfb_113 := fb_108.cells
  have ffb_113 := fb_108.free
  have cab_114 := ab_108.cells
  have fab_114 := ab_108.free
  have cbb_115 := bb_108.cells
  have fbb_115 := bb_108.free
  have cxb_116 := xb_108.cells
  have fxb_116 := xb_108.free
  have cyb_117 := yb_109.cells
  have fyb_117 := yb_109.free
  have e1 : (z1 != z1) = false := by cases z1 <;> rfl
  have e2 : (z2 != z2) = false := by cases z2 <;> rfl
  rcases HW.out with ⟨rfl, rfl, rfl, rfl, e3, e4⟩ | ⟨e3, e4⟩
  · have HSa : Hid (Sta _ Ao2 Co2 q p ho2 t4 x4) := e3 ▸ e4 ▸ (o2_108.sta (by omega) (by omega) hb2)
    have HSb := Lib.hid (o4_108.sta (by omega) (by omega) hb4)
    clear e3 e4 HW
    go_wp2_with fail
    refine (sStatsSame_same Ao2 Co2 Ao4 Co4 q ao2 p do2 ao4 do4 ho2 ho4 t4 x4 _ HSa.out HSb.out).mono ?_
    rintro e w11 ⟨rfl, b⟩
    clear csb_110 fsb_110
    clear ctb_111 ftb_111
    clear ceb_112 feb_112
    clear cfb_113 ffb_113
    clear cab_114 fab_114
    clear cbb_115 fbb_115
    clear cxb_116 fxb_116
    clear cyb_117 fyb_117
    simp only [World.size_alloc] at b
    have t_118 := b.size
    simp only [World.size_alloc] at t_118
    have z_118 : w.heap.size ≤ w11.heap.size := by omega
    have s_119 := s_108.same (same_below b (by omega))
    clear s_108
    have t_119 := t_108.same (same_below b (by omega))
    clear t_108
    have e_119 := e_108.same (same_below b (by omega))
    clear e_108
    have sb_119 := sb_108.same (same_below b (by omega))
    clear sb_108
    have tb_119 := tb_108.same (same_below b (by omega))
    clear tb_108
    have eb_119 := eb_108.same (same_below b (by omega))
    clear eb_108
    have f_119 := f_108.same (same_below b (by omega))
    clear f_108
    have fb_119 := fb_108.same (same_below b (by omega))
    clear fb_108
    have o1_119 := o1_108.same (same_below b (by omega))
    clear o1_108
    have ab_119 := ab_108.same (same_below b (by omega))
    clear ab_108
    have o2_119 := o2_108.same (same_below b (by omega))
    clear o2_108
    have o3_119 := o3_108.same (same_below b (by omega))
    clear o3_108
    have bb_119 := bb_108.same (same_below b (by omega))
    clear bb_108
    have o4_119 := o4_108.same (same_below b (by omega))
    clear o4_108
    have o5_119 := o5_108.same (same_below b (by omega))
    clear o5_108
    have xb_119 := xb_108.same (same_below b (by omega))
    clear xb_108
    have o6_119 := o6_108.same (same_below b (by omega))
    clear o6_108
    have yb_119 := yb_109.same (same_below b (by omega))
    clear yb_109
    have B_118 := B_109.trans (b.mono (by omega))
    clear B_109 b
    have csb_120 := sb_119.cells
    have fsb_120 := sb_119.free
    have ctb_121 := tb_119.cells
    have ftb_121 := tb_119.free
    have ceb_122 := eb_119.cells
    have feb_122 := eb_119.free
    have cfb_123 := fb_119.cells
    have ffb_123 := fb_119.free
    have cab_124 := ab_119.cells
    have fab_124 := ab_119.free
    have cbb_125 := bb_119.cells
    have fbb_125 := bb_119.free
    have cxb_126 := xb_119.cells
    have fxb_126 := xb_119.free
    have cyb_127 := yb_119.cells
    have fyb_127 := yb_119.free
    go_wp2_with fail
    go_ret
    exact ⟨rfl, B_118⟩
  · clear HW
    cases z1 <;> cases z2 <;> first | (exfalso; simp at e3; done) | skip
    all_goals
      cases z3 <;> cases z4 <;> first | (exfalso; simp at e4; done) | skip
      all_goals
        clear e3 e4 e1 e2
        go_wp2_with fail
        go_ret
        exact ⟨rfl, B_109⟩

theorem walk (w : World) (A : Option Addr) (n c : Nat) (xs : List Int) (hl : n ≤ c) (hm : c ≤ maxLen) (hr : Rd w A n (xs.map (Value.int .u8))) (hu : ∀ z ∈ xs, (Lit.int .u8 z).wf = true) :
    Calls Try.prog 7 #[.slice A n c] w fun e w' => e = .returned (.bool true) ∧ Below w.heap.size w w' := by
  unfold maxLen at hm
  have HR := Lib.hid hr
  have HU : Hid (∀ z ∈ xs, 0 ≤ z ∧ z ≤ 255) := fun z hz => u8wf (hu z hz)
  clear hr hu
  by_cases hn : n ≤ 1048576
  · exact walkIn w A n c xs hn HR HU
  · go_enter Try.func7, Try.ntmps7
    go_wp2_with fail
    refine (big_yes A n c w hn).mono ?_
    rintro e _ ⟨rfl, rfl⟩
    go_wp2_with fail
    go_ret
    exact ⟨rfl, Below.refl _ _⟩

set_option maxRecDepth 100000 in
theorem walks : Walks 7 Try.f7 := by
  intro H enc W base args ds ps hval hA _
  rw [Try.params7] at hA hval
  obtain ⟨v0, vs0, d0, ds0, p0, q0, hargs, rfl, rfl, h0, r0⟩ := trodAll_cons hA
  obtain ⟨rfl, rfl, rfl⟩ := trodAll_nil r0
  obtain rfl : args = #[v0] := by cases args; simp_all
  obtain ⟨f0, y0, z0⟩ := slice_cell Try.underlying52 (hval 0 52 v0 rfl rfl) h0
  obtain ⟨A0, n0, c0, a0, rfl, hl0, hm0, hr0, w0⟩ := open_ints_rd Try.underlying52 (by kernel_rfl) Try.underlying5 z0
  exact walk (w := W) A0 n0 c0 a0 hl0 hm0 hr0 w0

set_option maxRecDepth 100000 in
theorem lifted (os : Os) (started : os.Started) (H : Type) (enc : TypeId × Value → H) :
    ReturnsInHanded {} Try.checked os 7 .any (Rows.fnAnyOrderSpec.pre6 enc Try.prog Try.f7 Rows.fnAnyOrderRow.domain false) (Rows.fnAnyOrderSpec.post enc Try.prog Try.f7 false true false false) :=
  law_lifted started (by kernel_rfl) Try.func7
    (ChangeSpec.witness6 (enc := enc) (C := Try.checked) false ⟨#[], #[.slice none 0 0], []⟩ 8 (by kernel_rfl) (by kernel_rfl) (by kernel_rfl) (by kernel_rfl))
    rfl rfl Try.underlying4 (fun ds h => match ds, h with | [_], _ => rfl) (by
      rw [Try.params7]
      intro t ht
      simp only [List.mem_cons, List.not_mem_nil, or_false] at ht
      subst ht
      exact ⟨by kernel_rfl, of_decide_eq_true (by kernel_rfl)⟩) walks

theorem over : Rows.fnAnyOrderRow.holds Try.pinned (OpenSpec.ofChange Rows.fnAnyOrderSpec) :=
  OpenClaim.holds_of_wide 7 Try.f7 rfl rfl rfl rfl rfl rfl rfl ⟨rfl, rfl, rfl, rfl, rfl⟩ rfl rfl rfl rfl rfl (by kernel_rfl) Try.func7 (by kernel_rfl)
    (of_decide_eq_true (by kernel_rfl)) (by unfold Func.isWrapper; first | (rw [if_pos (by decide +kernel)]; kernel_rfl) | (rw [if_neg (by decide +kernel)]; exact ⟨rfl, rfl⟩))
    (fun os started H enc _ => lifted os started H enc)

theorem proved : Rows.FnAnyOrderSaid := over
#print axioms proved

end LawFAnyOrder
end Go.Proofs.Ytchkmcikpamdeaa
