/-
  Proved: laws.FnOneBranch returns true for every list of bytes. Conditions: none.
-/
import Derived.Test.YtchkmcikpamdeaaDrawM
import Derived.Test.YtchkmcikpamdeaaMerB
import Derived.Test.YtchkmcikpamdeaaBTotI
import Derived.Test.YtchkmcikpamdeaaBranch
import Derived.Test.YtchkmcikpamdeaaSame
import Derived.Test.YtchkmcikpamdeaaRng
import Derived.Test.YtchkmcikpamdeaaOpen
import Derived.Deep.DeepCutAuto
import Derived.BigQuiet
import Derived.StillTailTactics
namespace Go.Proofs.Ytchkmcikpamdeaa
open Go.ChangeShapes Go.WideShapes Go.ChangeAt Go.RowKit Go.Deep
namespace LawFOneBranch
set_option linter.unusedSimpArgs false
set_option linter.unusedVariables false
theorem u8wf {z : Int} (h : (Lit.int .u8 z).wf = true) : 0 ≤ z ∧ z ≤ 255 := by
  simp [Lit.wf, IntKind.min, IntKind.max, IntKind.bits, IntKind.signed] at h
  omega
theorem big_no (A : Option Addr) (n c : Nat) (w : World) (h : n ≤ 1048576) : Calls Try.prog 24 #[.slice A n c] w fun e w' => e = .returned (.bool false) ∧ w = w' := by
  go_enter Try.func24, Try.ntmps24
  go_wp2
  go_ret
  exact ⟨by simp; omega, rfl⟩
theorem big_yes (A : Option Addr) (n c : Nat) (w : World) (h : ¬ n ≤ 1048576) : Calls Try.prog 24 #[.slice A n c] w fun e w' => e = .returned (.bool true) ∧ w = w' := by
  go_enter Try.func24, Try.ntmps24
  go_wp2
  go_ret
  exact ⟨by simp; omega, rfl⟩
open Go.Sort

theorem fork_at {ats : List AD} {cs : List ByteArray} {fa ft : Int} (h : forkB ats cs fa ft = true) : ∃ k : Nat, fa = (k : Nat) ∧ k < ats.length ∧ schB ats cs = true := by
  unfold forkB at h
  simp only [Bool.and_eq_true] at h
  have := inB_iff.1 h.1.2
  exact ⟨fa.toNat, by omega, by omega, h.1.1⟩
theorem br_fork {ats : List AD} {cs : List ByteArray} {k nb : Nat} {ft : Int} {a : AD} (h : forkB ats cs (k : Nat) ft = true) (ha : ats[k]? = some a) (hnb : binsI a = nb) (hn2 : 2 ≤ nb) : ∃ bn : Nat, brI ats cs (k : Nat) ft = (bn : Nat) ∧ 2 ≤ bn ∧ bn ≤ nb := by
  unfold brI
  rw [if_pos h, atA_get ha, hnb]
  by_cases e : ft = -1
  · rw [if_pos e]; exact ⟨nb, rfl, hn2, Nat.le_refl _⟩
  · rw [if_neg e]; exact ⟨2, rfl, Nat.le_refl _, hn2⟩
theorem fork_all {ats : List AD} {cs : List ByteArray} {k : Nat} {ft : Int} (h : forkB ats cs (k : Nat) ft = true) : forkB ats cs (k : Nat) (-1) = true := by
  unfold forkB at h ⊢
  simp only [Bool.and_eq_true] at h ⊢
  have := inB_iff.1 h.2
  exact ⟨h.1, inB_yes (by omega) (by omega)⟩
theorem br_all {ats : List AD} {cs : List ByteArray} {k nb : Nat} {a : AD} (h : forkB ats cs (k : Nat) (-1) = true) (ha : ats[k]? = some a) (hnb : binsI a = nb) : brI ats cs (k : Nat) (-1) = (nb : Nat) := by
  unfold brI; rw [if_pos h, if_pos rfl, atA_get ha, hnb]
theorem same_all {ats : List AD} {cs : List ByteArray} {ts : List Int} {xss : List (List Int)} {k nb : Nat} {ft : Int} {a : AD} (h1 : merB ats cs ts xss (k : Nat) ft = true) (h2 : merB ats cs ts xss (k : Nat) (-1) = true) (ha : ats[k]? = some a) (hnb : binsI a = nb) :
    allI cs.length (brLs ats cs xss (k : Nat) ft) = allI cs.length (brLs ats cs xss (k : Nat) (-1)) := by
  obtain ⟨_, _, f1, hm, _, _, k', row, a', nb', e, ha', hr, hnb', _, _, hl, _⟩ := mer_row h1
  obtain ⟨_, _, f2, _⟩ := mer_row h2
  obtain rfl : k = k' := by omega
  unfold allI
  apply List.map_congr_left
  intro j hj
  have hj' := List.mem_range.1 hj
  rw [aF_br f1 ha' hr hnb' hl hm hj', aF_br f2 ha' hr hnb' hl hm hj']
theorem all_get {m : Nat} {L1 L2 : List (List Int)} (h : allI m L1 = allI m L2) {j : Nat} (hj : j < m) : aF L1 j = aF L2 j := by
  have e : (allI m L1)[j]? = (allI m L2)[j]? := by rw [h]
  unfold allI at e
  rw [List.getElem?_map, List.getElem?_map, List.getElem?_range hj] at e
  exact Option.some.inj e
theorem take_snoc9 {Ls : List (List Int)} {t : Nat} {l : List Int} (h : Ls[t]? = some l) : Ls.take t ++ [l] = Ls.take (t + 1) := by
  obtain ⟨h1, h2⟩ := List.getElem?_eq_some_iff.1 h
  rw [List.take_succ_eq_append_getElem h1, h2]
/-- Nothing old has turned but blocks from lo up to hi. -/
structure Apart (lo hi : Nat) (w w' : World) : Prop where
  o : Only lo hi w w'
theorem Apart.refl (lo hi : Nat) (w : World) : Apart lo hi w w := ⟨Only.refl _ _ _⟩
theorem Apart.size {lo hi : Nat} {w w' : World} (h : Apart lo hi w w') : w.heap.size ≤ w'.heap.size := h.o.size
theorem Apart.trans {lo hi : Nat} {a b c : World} (h : Apart lo hi a b) (h2 : Apart lo hi b c) : Apart lo hi a c := ⟨h.o.trans h2.o⟩
theorem Apart.below {lo hi : Nat} {w w' : World} (h : Below w.heap.size w w') (_ : True) : Apart lo hi w w' := ⟨Only.of_below h (Nat.le_refl _)⟩
theorem Apart.only {lo hi : Nat} {w w' : World} (h : Only lo hi w w') : Apart lo hi w w' := ⟨h⟩
theorem Apart.same {lo hi l h : Nat} {w w' : World} (a : Apart lo hi w w') (hd : h ≤ lo ∨ hi ≤ l) (hs : h ≤ w.heap.size) : Same l h w w' := same_only a.o hd hs
theorem Apart.toBelow {lo hi B : Nat} {w w' : World} (a : Apart lo hi w w') (h1 : B ≤ lo) (h2 : B ≤ w.heap.size) : Below B w w' := a.o.below h1 h2
theorem Bx_apart {lo hi b : Nat} {w w' : World} {t : TypeId} {cs : Array Value} (h : Bx w b t cs) (a : Apart lo hi w w') (hb : b < lo) : Bx w' b t cs := h.same (a.same (.inl (Nat.succ_le_of_lt hb)) (Nat.succ_le_of_lt h.lt))

set_option maxRecDepth 50000 in
set_option maxHeartbeats 16000000 in
theorem walkIn (w : World) (A : Option Addr) (n c : Nat) (xs : List Int) (hn : n ≤ 1048576) (HR : Hid (Rd w A n (xs.map (Value.int .u8)))) (HU : Hid (∀ z ∈ xs, 0 ≤ z ∧ z ≤ 255)) :
    Calls Try.prog 6 #[.slice A n c] w fun e w' => e = .returned (.bool true) ∧ Below w.heap.size w w' := by
  have B0 := Below.refl w.heap.size w
  have s0 : w.heap.size ≤ w.heap.size := Nat.le_refl _
  go_enter Try.func6, Try.ntmps6
  go_wp2_with fail
  refine (big_no A n c _ hn).mono ?_
  rintro e w1 ⟨rfl, rfl⟩
  go_wp2_with fail
  refine (sDrawBranchTotals_any A n c xs _ HR.out HU.out (by omega)).mono ?_
  rintro e w1 ⟨S1, sn, sc, S2, sm, sd, hs, ats, cs, T, q, qc, X, p, pc, gs, ts, xss, fa, ft, y, rfl, hsf, htf, b⟩
  have t_0 := b.size
  have z_0 : w.heap.size ≤ w1.heap.size := by omega
  have B_0 := B0.trans (b.mono (by omega))
  clear B0 b
  have s_r := hsf.rng
  clear hsf
  have t_r := htf.rng
  clear htf
  have hsn := s_r.hn; have hsm := s_r.hm; have hp16 := t_r.hp
  have hLc : cs.length = sm := by have := s_r.cl.rd.len; simpa using this
  have hLa := s_r.len
  have hLx := t_r.len
  have s_1 := s_r.same (same_alloc (.cells #[.slice S1 sn sc, .slice S2 sm sd] 40) (by omega))
  clear s_r
  have t_1 := t_r.same (same_alloc (.cells #[.slice S1 sn sc, .slice S2 sm sd] 40) (by omega))
  clear t_r
  have sb_2 : Bx (w1.alloc (.cells #[.slice S1 sn sc, .slice S2 sm sd] 40)) (w1.heap.size) 40 #[.slice S1 sn sc, .slice S2 sm sd] := Bx.new _ _ _
  have B_2 := B_0.alloc z_0 (.cells #[.slice S1 sn sc, .slice S2 sm sd] 40)
  clear B_0
  have csb_3 := sb_2.cells
  have fsb_3 := sb_2.free
  clear csb_3 fsb_3
  have s_4 := s_1.same (same_alloc (.cells #[.slice T q qc, .slice X p pc] 35) (by simp only [World.size_alloc]; omega))
  clear s_1
  have t_4 := t_1.same (same_alloc (.cells #[.slice T q qc, .slice X p pc] 35) (by simp only [World.size_alloc]; omega))
  clear t_1
  have sb_4 := sb_2.same (same_alloc (.cells #[.slice T q qc, .slice X p pc] 35) (by simp only [World.size_alloc]; omega))
  clear sb_2
  have tb_5 : Bx ((w1.alloc (.cells #[.slice S1 sn sc, .slice S2 sm sd] 40)).alloc (.cells #[.slice T q qc, .slice X p pc] 35)) (w1.heap.size + 1) 35 #[.slice T q qc, .slice X p pc] := by
    have h := Bx.new (w1.alloc (.cells #[.slice S1 sn sc, .slice S2 sm sd] 40)) 35 #[.slice T q qc, .slice X p pc]
    simpa only [World.size_alloc] using h
  have B_5 := B_2.alloc (by simp only [World.size_alloc]; omega) (.cells #[.slice T q qc, .slice X p pc] 35)
  clear B_2
  have csb_6 := sb_4.cells
  have fsb_6 := sb_4.free
  have ctb_7 := tb_5.cells
  have ftb_7 := tb_5.free
  clear csb_6 fsb_6
  clear ctb_7 ftb_7
  have s_8 := s_4.same (same_alloc (.cells #[.int .i64 fa, .int .i64 ft] 55) (by simp only [World.size_alloc]; omega))
  clear s_4
  have t_8 := t_4.same (same_alloc (.cells #[.int .i64 fa, .int .i64 ft] 55) (by simp only [World.size_alloc]; omega))
  clear t_4
  have sb_8 := sb_4.same (same_alloc (.cells #[.int .i64 fa, .int .i64 ft] 55) (by simp only [World.size_alloc]; omega))
  clear sb_4
  have tb_8 := tb_5.same (same_alloc (.cells #[.int .i64 fa, .int .i64 ft] 55) (by simp only [World.size_alloc]; omega))
  clear tb_5
  have fb_9 : Bx (((w1.alloc (.cells #[.slice S1 sn sc, .slice S2 sm sd] 40)).alloc (.cells #[.slice T q qc, .slice X p pc] 35)).alloc (.cells #[.int .i64 fa, .int .i64 ft] 55)) (w1.heap.size + 1 + 1) 55 #[.int .i64 fa, .int .i64 ft] := by
    have h := Bx.new ((w1.alloc (.cells #[.slice S1 sn sc, .slice S2 sm sd] 40)).alloc (.cells #[.slice T q qc, .slice X p pc] 35)) 55 #[.int .i64 fa, .int .i64 ft]
    simpa only [World.size_alloc] using h
  have B_9 := B_5.alloc (by simp only [World.size_alloc]; omega) (.cells #[.int .i64 fa, .int .i64 ft] 55)
  clear B_5
  have csb_10 := sb_8.cells
  have fsb_10 := sb_8.free
  have ctb_11 := tb_8.cells
  have ftb_11 := tb_8.free
  have cfb_12 := fb_9.cells
  have ffb_12 := fb_9.free
  cases hz : forkB ats cs fa ft
  · have HZ := Lib.hid hz
    have HBr : Hid (brI ats cs fa ft = 0) := by unfold Hid brI; rw [hz]; rfl
    clear hz hLc hLa hLx
    go_wp2_with fail
    refine (iBranches_any S1 S2 sn sc sm sd hs ats cs fa ft _ s_8.sch).mono ?_
    rw [HBr.out]
    rintro e w2 ⟨rfl, b⟩
    clear csb_10 fsb_10
    clear ctb_11 ftb_11
    clear cfb_12 ffb_12
    simp only [World.size_alloc] at b
    have t_13 := b.size
    simp only [World.size_alloc] at t_13
    have z_13 : w.heap.size ≤ w2.heap.size := by omega
    have s_14 := s_8.same (same_below b (by omega))
    clear s_8
    have t_14 := t_8.same (same_below b (by omega))
    clear t_8
    have sb_14 := sb_8.same (same_below b (by omega))
    clear sb_8
    have tb_14 := tb_8.same (same_below b (by omega))
    clear tb_8
    have fb_14 := fb_9.same (same_below b (by omega))
    clear fb_9
    have B_13 := B_9.trans (b.mono (by omega))
    clear B_9 b
    have csb_15 := sb_14.cells
    have fsb_15 := sb_14.free
    have ctb_16 := tb_14.cells
    have ftb_16 := tb_14.free
    have cfb_17 := fb_14.cells
    have ffb_17 := fb_14.free
    go_wp2_with fail
    refine (sForkOk_any S1 S2 sn sc sm sd hs ats cs fa ft _ s_14.sch).mono ?_
    rw [HZ.out]
    rintro e w3 ⟨rfl, b⟩
    clear csb_15 fsb_15
    clear ctb_16 ftb_16
    clear cfb_17 ffb_17
    have t_18 := b.size
    have z_18 : w.heap.size ≤ w3.heap.size := by omega
    have s_19 := s_14.same (same_below b (by omega))
    clear s_14
    have t_19 := t_14.same (same_below b (by omega))
    clear t_14
    have sb_19 := sb_14.same (same_below b (by omega))
    clear sb_14
    have tb_19 := tb_14.same (same_below b (by omega))
    clear tb_14
    have fb_19 := fb_14.same (same_below b (by omega))
    clear fb_14
    have B_18 := B_13.trans (b.mono (by omega))
    clear B_13 b
    have csb_20 := sb_19.cells
    have fsb_20 := sb_19.free
    have ctb_21 := tb_19.cells
    have ftb_21 := tb_19.free
    have cfb_22 := fb_19.cells
    have ffb_22 := fb_19.free
    go_wp2_with fail
    refine (iForkOk_any S1 S2 sn sc sm sd hs ats cs fa ft _ s_19.sch).mono ?_
    rw [HZ.out]
    rintro e w4 ⟨rfl, b⟩
    clear csb_20 fsb_20
    clear ctb_21 ftb_21
    clear cfb_22 ffb_22
    have t_23 := b.size
    have z_23 : w.heap.size ≤ w4.heap.size := by omega
    have s_24 := s_19.same (same_below b (by omega))
    clear s_19
    have t_24 := t_19.same (same_below b (by omega))
    clear t_19
    have sb_24 := sb_19.same (same_below b (by omega))
    clear sb_19
    have tb_24 := tb_19.same (same_below b (by omega))
    clear tb_19
    have fb_24 := fb_19.same (same_below b (by omega))
    clear fb_19
    have B_23 := B_18.trans (b.mono (by omega))
    clear B_18 b
    have csb_25 := sb_24.cells
    have fsb_25 := sb_24.free
    have ctb_26 := tb_24.cells
    have ftb_26 := tb_24.free
    have cfb_27 := fb_24.cells
    have ffb_27 := fb_24.free
    go_wp2_with fail
    go_ret
    exact ⟨rfl, B_23⟩
  · obtain ⟨k, rfl, hk, hsch⟩ := fork_at hz
    have hkn : k < sn := by omega
    obtain ⟨h, a, ba, off, ha, hac, hA, hbl, d0, d1_, d2_⟩ := s_8.sch.get hkn
    subst hA
    obtain ⟨nb, hnb, hn2, hn4⟩ := attrB_bins (schB_get hsch ha)
    obtain ⟨bn, hbn, hb2, hbn2⟩ := br_fork hz ha hnb hn2
    have hz1 : forkB ats cs (k : Nat) (-1) = true := fork_all hz
    have hbr1 : brI ats cs (k : Nat) (-1) = (nb : Nat) := br_all hz1 ha hnb
    have HZ := Lib.hid hz; have HBr := Lib.hid hbn; have HNb := Lib.hid hnb; have HAt := Lib.hid ha; have HAb := Lib.hid (schB_get hsch ha); have HZ1 := Lib.hid hz1; have HBr1 := Lib.hid hbr1
    have HLc := Lib.hid hLc; have HLx := Lib.hid hLx
    clear hz hsch hnb hbn ha hz1 hbr1 d0 d1_ d2_ hac hLc hLa hLx hbl
    go_wp2_with fail
    refine (iBranches_any (some ⟨ba, off, none⟩) S2 sn sc sm sd hs ats cs (k : Nat) ft _ s_8.sch).mono ?_
    rw [HBr.out]
    rintro e w2 ⟨rfl, b⟩
    clear csb_10 fsb_10
    clear ctb_11 ftb_11
    clear cfb_12 ffb_12
    simp only [World.size_alloc] at b
    have t_13 := b.size
    simp only [World.size_alloc] at t_13
    have z_13 : w.heap.size ≤ w2.heap.size := by omega
    have s_14 := s_8.same (same_below b (by omega))
    clear s_8
    have t_14 := t_8.same (same_below b (by omega))
    clear t_8
    have sb_14 := sb_8.same (same_below b (by omega))
    clear sb_8
    have tb_14 := tb_8.same (same_below b (by omega))
    clear tb_8
    have fb_14 := fb_9.same (same_below b (by omega))
    clear fb_9
    have B_13 := B_9.trans (b.mono (by omega))
    clear B_9 b
    have csb_15 := sb_14.cells
    have fsb_15 := sb_14.free
    have ctb_16 := tb_14.cells
    have ftb_16 := tb_14.free
    have cfb_17 := fb_14.cells
    have ffb_17 := fb_14.free
    go_wp2_with fail
    refine (sForkOk_any (some ⟨ba, off, none⟩) S2 sn sc sm sd hs ats cs (k : Nat) ft _ s_14.sch).mono ?_
    rw [HZ.out]
    rintro e w3 ⟨rfl, b⟩
    clear csb_15 fsb_15
    clear ctb_16 ftb_16
    clear cfb_17 ffb_17
    have t_18 := b.size
    have z_18 : w.heap.size ≤ w3.heap.size := by omega
    have s_19 := s_14.same (same_below b (by omega))
    clear s_14
    have t_19 := t_14.same (same_below b (by omega))
    clear t_14
    have sb_19 := sb_14.same (same_below b (by omega))
    clear sb_14
    have tb_19 := tb_14.same (same_below b (by omega))
    clear tb_14
    have fb_19 := fb_14.same (same_below b (by omega))
    clear fb_14
    have B_18 := B_13.trans (b.mono (by omega))
    clear B_13 b
    have csb_20 := sb_19.cells
    have fsb_20 := sb_19.free
    have ctb_21 := tb_19.cells
    have ftb_21 := tb_19.free
    have cfb_22 := fb_19.cells
    have ffb_22 := fb_19.free
    obtain ⟨h_, a_, ba_, off_, ha_, hac, hA, hbl, d0, d1_, d2_⟩ := s_19.sch.get hkn
    simp only [Option.some.injEq, Addr.mk.injEq] at hA
    obtain ⟨rfl, rfl, -⟩ := hA
    obtain rfl : a = a_ := Option.some.inj (HAt.out.symm.trans ha_)
    have HAc := Lib.hid hac
    have hki : (k : Int) < (sn : Int) := by omega
    clear hac ha_
    go_wp2_with fail
    refine (sBins_any a h_ _ HAc.out HAb.out).mono ?_
    rw [HNb.out]
    rintro e w4 ⟨rfl, b⟩
    clear csb_20 fsb_20
    clear ctb_21 ftb_21
    clear cfb_22 ffb_22
    have t_23 := b.size
    have z_23 : w.heap.size ≤ w4.heap.size := by omega
    have s_24 := s_19.same (same_below b (by omega))
    clear s_19
    have t_24 := t_19.same (same_below b (by omega))
    clear t_19
    have sb_24 := sb_19.same (same_below b (by omega))
    clear sb_19
    have tb_24 := tb_19.same (same_below b (by omega))
    clear tb_19
    have fb_24 := fb_19.same (same_below b (by omega))
    clear fb_19
    have B_23 := B_18.trans (b.mono (by omega))
    clear B_18 b
    have csb_25 := sb_24.cells
    have fsb_25 := sb_24.free
    have ctb_26 := tb_24.cells
    have ftb_26 := tb_24.free
    have cfb_27 := fb_24.cells
    have ffb_27 := fb_24.free
    clear d0 d1_ d2_ HAc
    have HS1 := Lib.hid s_24.sch; have HSb := Lib.hid sb_24; have HFb := Lib.hid fb_24
    have ls := sb_24.lt; have lf := fb_24.lt
    go_wp2_with fail
    clear csb_25 fsb_25 ctb_26 ftb_26 cfb_27 ffb_27
    go_loopw [9] (fun si wr => ∃ j : Nat, j ≤ nb ∧ si = .int .i64 j ∧ Below w4.heap.size w4 wr) (fun si _ => nb - (intOf si).toNat)
    case atStart => exact ⟨0, Nat.zero_le _, rfl, Below.refl _ _⟩
    case round =>
      obtain ⟨j, hj, rfl, hbel⟩ := hrel
      obtain ⟨wo, rfl⟩ : ∃ wo : World, wo = wr := ⟨_, rfl⟩
      have hzo := hbel.size
      have HBel := Lib.hid hbel
      have bs_ := HSb.out.same (same_below hbel (Nat.succ_le_of_lt ls)); have bf_ := HFb.out.same (same_below hbel (Nat.succ_le_of_lt lf))
      have HS2 := Lib.hid (HS1.out.below hbel (Nat.le_refl _))
      have c0 := bs_.cells 0; have c1 := bs_.cells 1; have c2 := bf_.cells 0; have c3 := bf_.cells 1
      simp at c0 c1 c2 c3
      clear hbel
      by_cases hlt : j < nb
      · have hji : (j : Int) < (nb : Int) := by omega
        clear bs_ bf_
        have hbo := boI_in HZ.out HAt.out HNb.out hlt
        rw [HBr.out] at hbo
        obtain ⟨kk, hkk⟩ : ∃ kk, boI ats cs (k : Nat) ft (j : Nat) = kk := ⟨_, rfl⟩
        rw [hkk] at hbo
        have HKK := Lib.hid hkk
        have f1 : ¬ kk < 0 := by omega
        have f2 : ¬ (bn : Int) ≤ kk := by omega
        have f3 : decide (kk < 0) = false := decide_eq_false f1
        have f4 : decide ((bn : Int) ≤ kk) = false := decide_eq_false f2
        clear hkk
        go_wp2_with fail
        refine (iBranchOf_any (some ⟨ba, off, none⟩) S2 sn sc sm sd hs ats cs (k : Nat) ft (j : Nat) _ HS2.out).mono ?_
        rw [HKK.out]
        rintro e w9 ⟨rfl, b9⟩
        have HB9 := Lib.hid (HBel.out.trans (b9.mono hzo))
        clear b9 c0 c1 c2 c3
        go_wp2_with fail
        go_roundw
        case rel => exact ⟨j + 1, by omega, by go_num, HB9.out⟩
        case measure => simp [intOf]; omega
      · obtain rfl : j = nb := by omega
        clear bs_ bf_ c0 c1 c2 c3 HS2 HS1 HSb HFb
        have bel := HBel.out
        have t_28 := bel.size
        have z_28 : w.heap.size ≤ wo.heap.size := by omega
        have s_29 := s_24.same (same_below bel (by omega))
        clear s_24
        have t_29 := t_24.same (same_below bel (by omega))
        clear t_24
        have sb_29 := sb_24.same (same_below bel (by omega))
        clear sb_24
        have tb_29 := tb_24.same (same_below bel (by omega))
        clear tb_24
        have fb_29 := fb_24.same (same_below bel (by omega))
        clear fb_24
        have B_28 := B_23.trans (bel.mono (by omega))
        clear B_23 bel HBel
        have csb_30 := sb_29.cells
        have fsb_30 := sb_29.free
        have ctb_31 := tb_29.cells
        have ftb_31 := tb_29.free
        have cfb_32 := fb_29.cells
        have ffb_32 := fb_29.free
        have g1 : ¬ (j : Int) < (j : Int) := by omega
        have f1 : ¬ (bn : Int) < 2 := by omega
        have f2 : decide ((bn : Int) < 2) = false := decide_eq_false f1
        have f3 : ¬ (j : Int) < (bn : Int) := by omega
        have f4 : decide ((j : Int) < (bn : Int)) = false := decide_eq_false f3
        have f5 : decide (j < bn) = false := decide_eq_false (by omega)
        have f6 : decide (bn < 2) = false := decide_eq_false (by omega)
        have g2 : (2 : Int) ≤ (bn : Int) := by omega
        have g3 : decide ((2 : Int) ≤ (bn : Int)) = true := decide_eq_true g2
        have g4 : (bn : Int) ≤ (j : Int) := by omega
        have g5 : decide ((bn : Int) ≤ (j : Int)) = true := decide_eq_true g4
        have g6 : decide (bn ≤ j) = true := decide_eq_true (by omega)
        have g7 : decide (2 ≤ bn) = true := decide_eq_true (by omega)
        obtain ⟨zs, hzs⟩ : ∃ zs, statsB ats cs ts xss = zs := ⟨_, rfl⟩
        have HZs := Lib.hid hzs
        clear hzs
        go_wp2_with fail
        refine (sStatsOk_any (some ⟨ba, off, none⟩) S2 sn sc sm sd hs ats cs T X q qc p pc gs ts xss _ s_29.sch t_29.sta).mono ?_
        rw [HZs.out]
        rintro e w6 ⟨rfl, b⟩
        clear csb_30 fsb_30
        clear ctb_31 ftb_31
        clear cfb_32 ffb_32
        have t_33 := b.size
        have z_33 : w.heap.size ≤ w6.heap.size := by omega
        have s_34 := s_29.same (same_below b (by omega))
        clear s_29
        have t_34 := t_29.same (same_below b (by omega))
        clear t_29
        have sb_34 := sb_29.same (same_below b (by omega))
        clear sb_29
        have tb_34 := tb_29.same (same_below b (by omega))
        clear tb_29
        have fb_34 := fb_29.same (same_below b (by omega))
        clear fb_29
        have B_33 := B_28.trans (b.mono (by omega))
        clear B_28 b
        have csb_35 := sb_34.cells
        have fsb_35 := sb_34.free
        have ctb_36 := tb_34.cells
        have ftb_36 := tb_34.free
        have cfb_37 := fb_34.cells
        have ffb_37 := fb_34.free
        cases zs
        · have HBt : Hid (btB ats cs ts xss (k : Nat) ft 0 = false) := by unfold Hid btB; rw [HZs.out]; rfl
          go_wp2_with fail
          refine (iBranchTotals_no (some ⟨ba, off, none⟩) S2 sn sc sm sd hs ats cs T X q qc p pc gs ts xss _ s_34.sch t_34.sta (k : Nat) ft 0 HBt.out).mono ?_
          rintro e w7 ⟨rfl, b⟩
          clear csb_35 fsb_35
          clear ctb_36 ftb_36
          clear cfb_37 ffb_37
          have t_38 := b.size
          have z_38 : w.heap.size ≤ w7.heap.size := by omega
          have s_39 := s_34.same (same_below b (by omega))
          clear s_34
          have t_39 := t_34.same (same_below b (by omega))
          clear t_34
          have sb_39 := sb_34.same (same_below b (by omega))
          clear sb_34
          have tb_39 := tb_34.same (same_below b (by omega))
          clear tb_34
          have fb_39 := fb_34.same (same_below b (by omega))
          clear fb_34
          have B_38 := B_33.trans (b.mono (by omega))
          clear B_33 b
          have csb_40 := sb_39.cells
          have fsb_40 := sb_39.free
          have ctb_41 := tb_39.cells
          have ftb_41 := tb_39.free
          have cfb_42 := fb_39.cells
          have ffb_42 := fb_39.free
          go_wp2_with fail
          go_ret
          exact ⟨rfl, B_38⟩
        · by_cases hp0 : p = 0
          · have HBt : Hid (btB ats cs ts xss (k : Nat) ft 0 = false) := by unfold Hid btB; rw [HLx.out, hp0]; simp
            have p1 : (p : Int) = 0 := by omega
            have p2 : decide ((p : Int) = 0) = true := decide_eq_true p1
            have p3 : ((p : Int) == 0) = true := by rw [p1]; rfl
            have HP0 := Lib.hid hp0
            clear hp0 p1
            go_wp2_with fail
            refine (iBranchTotals_no (some ⟨ba, off, none⟩) S2 sn sc sm sd hs ats cs T X q qc p pc gs ts xss _ s_34.sch t_34.sta (k : Nat) ft 0 HBt.out).mono ?_
            rintro e w7 ⟨rfl, b⟩
            clear csb_35 fsb_35
            clear ctb_36 ftb_36
            clear cfb_37 ffb_37
            have t_38 := b.size
            have z_38 : w.heap.size ≤ w7.heap.size := by omega
            have s_39 := s_34.same (same_below b (by omega))
            clear s_34
            have t_39 := t_34.same (same_below b (by omega))
            clear t_34
            have sb_39 := sb_34.same (same_below b (by omega))
            clear sb_34
            have tb_39 := tb_34.same (same_below b (by omega))
            clear tb_34
            have fb_39 := fb_34.same (same_below b (by omega))
            clear fb_34
            have B_38 := B_33.trans (b.mono (by omega))
            clear B_33 b
            have csb_40 := sb_39.cells
            have fsb_40 := sb_39.free
            have ctb_41 := tb_39.cells
            have ftb_41 := tb_39.free
            have cfb_42 := fb_39.cells
            have ffb_42 := fb_39.free
            go_wp2_with fail
            go_ret
            exact ⟨rfl, B_38⟩
          · have p1 : ¬ (p : Int) = 0 := by omega
            have p2 : decide ((p : Int) = 0) = false := decide_eq_false p1
            have p3 : ((p : Int) == 0) = false := beq_false_of_ne p1
            have hM1 : merB ats cs ts xss (k : Nat) ft = true := by unfold merB; rw [HZs.out, HZ.out, decide_eq_true (by rw [HLx.out]; exact hp0)]; rfl
            have hM2 : merB ats cs ts xss (k : Nat) (-1) = true := by unfold merB; rw [HZs.out, HZ1.out, decide_eq_true (by rw [HLx.out]; exact hp0)]; rfl
            have HO1 := Lib.hid (mer_ok hM1); have HO2 := Lib.hid (mer_ok hM2)
            have hsm2 := (mer_row hM1).2.2.2.1
            rw [HLc.out] at hsm2
            have HSame : Hid (allI sm (brLs ats cs xss (k : Nat) ft) = allI sm (brLs ats cs xss (k : Nat) (-1))) := by rw [← HLc.out]; exact same_all hM1 hM2 HAt.out HNb.out
            have HBt1 : Hid (∀ t : Nat, t < bn → btB ats cs ts xss (k : Nat) ft (t : Nat) = true) := fun t ht => by unfold btB; rw [HZs.out, HBr.out, decide_eq_true (by rw [HLx.out]; exact hp0), inB_yes (by omega) (by omega)]; rfl
            have HBt2 : Hid (∀ t : Nat, t < j → btB ats cs ts xss (k : Nat) (-1) (t : Nat) = true) := fun t ht => by unfold btB; rw [HZs.out, HBr1.out, decide_eq_true (by rw [HLx.out]; exact hp0), inB_yes (by omega) (by omega)]; rfl
            have HG1 : Hid ((brLs ats cs xss (k : Nat) ft).length = bn) := by unfold Hid; rw [brLs_len, HBr.out, Int.toNat_natCast]
            have HG2 : Hid ((brLs ats cs xss (k : Nat) (-1)).length = j) := by unfold Hid; rw [brLs_len, HBr1.out, Int.toNat_natCast]
            have HE1 : Hid (∀ t : Nat, t < bn → (brLs ats cs xss (k : Nat) ft)[t]? = some (btI ats cs xss (k : Nat) ft (t : Nat))) := fun t ht => brLs_get (by rw [HBr.out, Int.toNat_natCast]; exact ht)
            have HE2 : Hid (∀ t : Nat, t < j → (brLs ats cs xss (k : Nat) (-1))[t]? = some (btI ats cs xss (k : Nat) (-1) (t : Nat))) := fun t ht => brLs_get (by rw [HBr1.out, Int.toNat_natCast]; exact ht)
            rw [HLc.out] at HO1 HO2
            obtain ⟨Ls1, hL1⟩ : ∃ L, brLs ats cs xss (k : Nat) ft = L := ⟨_, rfl⟩
            obtain ⟨Ls2, hL2⟩ : ∃ L, brLs ats cs xss (k : Nat) (-1) = L := ⟨_, rfl⟩
            rw [hL1] at HO1 HSame HG1 HE1
            rw [hL2] at HO2 HSame HG2 HE2
            clear hL1 hL2 hM1 hM2
            obtain ⟨i1, hi0, hz0, hz1, hz2⟩ := info_parts info_int
            have HQ := Lib.hid hi0; have HQ0 := Lib.hid hz0; have HQ1 := Lib.hid hz1; have HQ2 := Lib.hid hz2
            clear hi0 hz0 hz1 hz2 f1 f2 f3 f4 f5 f6 g2 g3 g4 g5 g6 g7
            go_wp2_with (at_make; refine wpList_make_full _ rfl _ _ 26 rfl w6.heap.size 3 i1 (Value.int .i64 0) 1 Try.underlying26 HQ.out HQ0.out HQ1.out .i64 .i64 _ _ sm rfl rfl (by omega) (by omega) ?c1ra ?c2ra (Nat.le_refl _) ?_)
            case c1ra => rw [HQ2.out]; omega
            case c2ra => unfold maxLen; omega
            clear csb_35 fsb_35
            clear ctb_36 ftb_36
            clear cfb_37 ffb_37
            intro w7 hown hgrow
            have b : Below w6.heap.size w6 w7 := (Below.refl _ _).grown hgrow (Nat.le_refl _) (fun k hk => by cases hk)
            have ra_38 : Ow 3 w6.heap.size w7.heap.size w7 (some ⟨w6.heap.size, 0, none⟩) sm sm (rowV sm (aF [])) := Ow.of (by rw [show rowV sm (aF []) = rowV sm (fun _ => 0) from rowV_ext fun j _ => aF_nil j, rowV_zero, ← toList_madeCells_one]; simpa [Value.cells] using hown)
            have t_38 := b.size
            have z_38 : w.heap.size ≤ w7.heap.size := by omega
            have s_39 := s_34.same (same_below b (by omega))
            clear s_34
            have t_39 := t_34.same (same_below b (by omega))
            clear t_34
            have sb_39 := sb_34.same (same_below b (by omega))
            clear sb_34
            have tb_39 := tb_34.same (same_below b (by omega))
            clear tb_34
            have fb_39 := fb_34.same (same_below b (by omega))
            clear fb_34
            have B_38 := B_33.trans (b.mono (by omega))
            clear B_33 b hown hgrow
            have csb_40 := sb_39.cells
            have fsb_40 := sb_39.free
            have ctb_41 := tb_39.cells
            have ftb_41 := tb_39.free
            have cfb_42 := fb_39.cells
            have ffb_42 := fb_39.free
            go_wp2_with (at_make; refine wpList_make_full _ rfl _ _ 26 rfl w7.heap.size 3 i1 (Value.int .i64 0) 1 Try.underlying26 HQ.out HQ0.out HQ1.out .i64 .i64 _ _ sm rfl rfl (by omega) (by omega) ?c1rb ?c2rb (Nat.le_refl _) ?_)
            case c1rb => rw [HQ2.out]; omega
            case c2rb => unfold maxLen; omega
            clear csb_40 fsb_40
            clear ctb_41 ftb_41
            clear cfb_42 ffb_42
            intro w8 hown hgrow
            have b : Below w7.heap.size w7 w8 := (Below.refl _ _).grown hgrow (Nat.le_refl _) (fun k hk => by cases hk)
            have rb_43 : Ow 3 w7.heap.size w8.heap.size w8 (some ⟨w7.heap.size, 0, none⟩) sm sm (rowV sm (aF [])) := Ow.of (by rw [show rowV sm (aF []) = rowV sm (fun _ => 0) from rowV_ext fun j _ => aF_nil j, rowV_zero, ← toList_madeCells_one]; simpa [Value.cells] using hown)
            have t_43 := b.size
            have z_43 : w.heap.size ≤ w8.heap.size := by omega
            have s_44 := s_39.same (same_below b (by omega))
            clear s_39
            have t_44 := t_39.same (same_below b (by omega))
            clear t_39
            have sb_44 := sb_39.same (same_below b (by omega))
            clear sb_39
            have tb_44 := tb_39.same (same_below b (by omega))
            clear tb_39
            have fb_44 := fb_39.same (same_below b (by omega))
            clear fb_39
            have ra_44 := ra_38.same (same_below b (by omega))
            clear ra_38
            have B_43 := B_38.trans (b.mono (by omega))
            clear B_38 b hown hgrow
            have csb_45 := sb_44.cells
            have fsb_45 := sb_44.free
            have ctb_46 := tb_44.cells
            have ftb_46 := tb_44.free
            have cfb_47 := fb_44.cells
            have ffb_47 := fb_44.free
            have HAc_48 := Lib.hid B_43
            have HRow_48 := Lib.hid ra_44
            have HS_48 := Lib.hid s_44; have HT_48 := Lib.hid t_44; have HSb_48 := Lib.hid sb_44; have HTb_48 := Lib.hid tb_44; have HFb_48 := Lib.hid fb_44
            have ls_48 := sb_44.lt; have lt_48 := tb_44.lt; have lf_48 := fb_44.lt
            go_wp2_with fail
            clear csb_45 fsb_45 ctb_46 ftb_46 cfb_47 ffb_47
            go_loopw [13] (fun si wr => ∃ t : Nat, t ≤ bn ∧ si = .int .i64 t ∧ Ow 3 w6.heap.size w7.heap.size wr (some ⟨w6.heap.size, 0, none⟩) sm sm (rowV sm (aF (Ls1.take t))) ∧ Apart w6.heap.size w7.heap.size w8 wr) (fun si _ => bn - (intOf si).toNat)
            case atStart => exact ⟨0, Nat.zero_le _, rfl, by rw [List.take_zero]; exact HRow_48.out, Apart.refl _ _ _⟩
            case round =>
              obtain ⟨t, ht, rfl, hall, hap⟩ := hrel
              obtain ⟨wo48, rfl⟩ : ∃ wo : World, wo = wr := ⟨_, rfl⟩
              have hzo := hap.size
              have HAll := Lib.hid hall; have HAp := Lib.hid hap
              have HS2 := Lib.hid ((HS_48.out.same (hap.same (.inl (by omega)) (by omega))).sch); have HT2 := Lib.hid ((HT_48.out.same (hap.same (.inl (by omega)) (by omega))).sta)
              clear hall hap
              by_cases hlt : t < bn
              · have hti : (t : Int) < (bn : Int) := by omega
                have c0 := (Bx_apart HSb_48.out HAp.out (by omega)).cells 0; have c1 := (Bx_apart HSb_48.out HAp.out (by omega)).cells 1; have c2 := (Bx_apart HTb_48.out HAp.out (by omega)).cells 0; have c3 := (Bx_apart HTb_48.out HAp.out (by omega)).cells 1; have c4 := (Bx_apart HFb_48.out HAp.out (by omega)).cells 0; have c5 := (Bx_apart HFb_48.out HAp.out (by omega)).cells 1
                simp at c0 c1 c2 c3 c4 c5
                obtain ⟨l, hl⟩ : ∃ l, btI ats cs xss (k : Nat) ft (t : Nat) = l := ⟨_, rfl⟩
                have hlm := HE1.out t hlt
                rw [hl] at hlm
                have HLm : Hid (l.length = sm) := HO1.out.len l (List.mem_of_getElem? hlm)
                have HLb : Hid (∀ x ∈ l, 0 ≤ x ∧ x ≤ 999) := fun x hx => (HO1.out.row (List.mem_of_getElem? hlm)).2.2 x hx
                have HTk : Hid (Ls1.take t ++ [l] = Ls1.take (t + 1)) := take_snoc9 hlm
                have HL := Lib.hid hl
                clear hl hlm
                go_wp2_with fail
                refine (iBranchTotals_yes (some ⟨ba, off, none⟩) S2 sn sc sm sd hs ats cs T X q qc p pc gs ts xss _ HS2.out HT2.out (k : Nat) ft (t : Nat) (HBt1.out t hlt)).mono ?_
                rw [btL_int, HL.out]
                rintro e u3 ⟨g6, rfl, o6, b6⟩
                have hz3 := b6.size
                have HL3 := Lib.hid (Ow.of o6)
                have HAll3 : Hid (Ow 3 w6.heap.size w7.heap.size u3 (some ⟨w6.heap.size, 0, none⟩) sm sm (rowV sm (addF (Ls1.take t) l 0))) := by unfold Hid; rw [← addF_zero]; exact HAll.out.same (same_below b6 (by omega))
                have HAp3 := Lib.hid (HAp.out.trans (Apart.below b6 trivial))
                clear o6 b6 c0 c1 c2 c3 c4 c5 HAll
                go_wp2_with fail
                go_loopw [15] (fun jx w4 => ∃ jj : Nat, jj ≤ sm ∧ jx = .int .i64 jj ∧ Ow 3 w6.heap.size w7.heap.size w4 (some ⟨w6.heap.size, 0, none⟩) sm sm (rowV sm (addF (Ls1.take t) l jj)) ∧ Only w6.heap.size w7.heap.size u3 w4) (fun jx _ => sm - (intOf jx).toNat)
                case atStart => exact ⟨0, Nat.zero_le _, rfl, HAll3.out, Only.refl _ _ _⟩
                case round =>
                  obtain ⟨jj, hjj, rfl, hal, hon⟩ := hrel
                  obtain ⟨u4, rfl⟩ : ∃ u4 : World, u4 = wr := ⟨_, rfl⟩
                  have HAl := Lib.hid hal; have HOn := Lib.hid hon
                  have HL4 : Hid (Ow 3 wo48.heap.size u3.heap.size u4 (some ⟨g6, 0, none⟩) sm sm (l.map (Value.int .i64))) := HL3.out.same (same_only HOn.out (Or.inr (by omega)) (Nat.le_refl _))
                  clear hal hon
                  by_cases hlj : jj < sm
                  · obtain ⟨x, hx⟩ : ∃ x, l[jj]? = some x := ⟨_, List.getElem?_eq_getElem (by rw [HLm.out]; exact hlj)⟩
                    have hxb := HLb.out x (List.mem_of_getElem? hx)
                    have hcell : u4.cell? ⟨g6, jj, none⟩ = some (.int .i64 x) := by rw [HL4.out.own.cellAt jj (by omega)]; simp [hx]
                    obtain ⟨s, hs⟩ : ∃ s, aF (Ls1.take t) jj = s := ⟨_, rfl⟩
                    have hsb := aF_bd (HO1.out.take t) hlj
                    rw [hs] at hsb
                    have hsc : u4.cell? ⟨w6.heap.size, jj, none⟩ = some (.int .i64 s) := by rw [HAl.out.own.cellAt jj (by omega), rowV_get hlj, addF_at, hs]
                    have HAd : Hid (Ow 3 w6.heap.size w7.heap.size u4.drew (some ⟨w6.heap.size, 0, none⟩) sm sm (rowV sm (addF (Ls1.take t) l jj))) := HAl.out.same (fun _ _ _ => rfl)
                    have hfr : u4.drew.frozen? ⟨w6.heap.size, jj, none⟩ = false := HAd.out.own.frozenAt jj
                    have hsd : u4.drew.cell? ⟨w6.heap.size, jj, none⟩ = some (.int .i64 s) := hsc
                    obtain ⟨hs1, hs2⟩ := HAd.out.own.stored jj (.int .i64 (s + x))
                    have hset := addF_set (Ls := Ls1.take t) hlj hx
                    rw [hs] at hset
                    rw [hset] at hs1
                    have HA9 : Hid (Ow 3 w6.heap.size w7.heap.size (u4.drew.setCell ⟨w6.heap.size, jj, none⟩ (.int .i64 (s + x))) (some ⟨w6.heap.size, 0, none⟩) sm sm (rowV sm (addF (Ls1.take t) l (jj + 1)))) := ⟨hs1, HAd.out.top⟩
                    have HO9 : Hid (Only w6.heap.size w7.heap.size u3 (u4.drew.setCell ⟨w6.heap.size, jj, none⟩ (.int .i64 (s + x)))) := (HOn.out.trans (Only.of_below (Below.refl u4.heap.size u4).drew (Nat.le_refl _))).trans (HAd.out.only hs2)
                    have n0 : (0 : Int) ≤ (jj : Int) := Int.natCast_nonneg _
                    have n1_ : (jj : Int) < (sm : Int) := by omega
                    have n2 : IntKind.i64.wrap (s + x) = s + x := IntWalk.i64_in _ (by omega)
                    clear hx hs hs1 hs2 hset
                    go_wp2_with fail
                    go_still_tail 12, (by kernel_rfl)
                    go_wp2_with fail
                    clear n0 n1_ n2
                    go_roundw
                    case rel => exact ⟨jj + 1, by omega, by go_num, HA9.out, HO9.out⟩
                    case measure => simp [intOf]; omega
                  · obtain rfl : sm = jj := by omega
                    have HAll9 : Hid (Ow 3 w6.heap.size w7.heap.size u4 (some ⟨w6.heap.size, 0, none⟩) sm sm (rowV sm (aF (Ls1.take (t + 1))))) := by unfold Hid; rw [← HTk.out, ← addF_all]; exact HAl.out
                    have HAp9 := Lib.hid (HAp3.out.trans (Apart.only HOn.out))
                    go_wp2_with fail
                    go_roundw
                    case rel => exact ⟨t + 1, by omega, by go_num, HAll9.out, HAp9.out⟩
                    case measure => simp [intOf]; omega
              · obtain rfl : t = bn := by omega
                have ap := HAp.out
                have t2_48 := ap.size
                have z2_48 : w.heap.size ≤ wo48.heap.size := by omega
                have ra_48 : Ow 3 w6.heap.size w7.heap.size wo48 (some ⟨w6.heap.size, 0, none⟩) sm sm (rowV sm (aF Ls1)) := by have h := HAll.out; rw [List.take_of_length_le (by rw [HG1.out]; exact Nat.le_refl _)] at h; exact h
                have s_49 := s_44.same (ap.same (by omega) (by omega))
                clear s_44
                have t_49 := t_44.same (ap.same (by omega) (by omega))
                clear t_44
                have sb_49 := sb_44.same (ap.same (by omega) (by omega))
                clear sb_44
                have tb_49 := tb_44.same (ap.same (by omega) (by omega))
                clear tb_44
                have fb_49 := fb_44.same (ap.same (by omega) (by omega))
                clear fb_44
                have rb_49 := rb_43.same (ap.same (by omega) (by omega))
                clear rb_43
                clear ra_44
                have B2_48 := B_43.trans (ap.toBelow (by omega) (by omega))
                clear B_43 ap HAp HAll HS2 HT2 HS_48 HT_48 HSb_48 HTb_48 HFb_48 HRow_48 HAc_48
                have csb_50 := sb_49.cells
                have fsb_50 := sb_49.free
                have ctb_51 := tb_49.cells
                have ftb_51 := tb_49.free
                have cfb_52 := fb_49.cells
                have ffb_52 := fb_49.free
                have HAc_53 := Lib.hid B2_48
                have HRow_53 := Lib.hid rb_49
                have HS_53 := Lib.hid s_49; have HT_53 := Lib.hid t_49; have HSb_53 := Lib.hid sb_49; have HTb_53 := Lib.hid tb_49; have HFb_53 := Lib.hid fb_49
                have ls_53 := sb_49.lt; have lt_53 := tb_49.lt; have lf_53 := fb_49.lt
                go_wp2_with fail
                clear csb_50 fsb_50 ctb_51 ftb_51 cfb_52 ffb_52
                go_loopw [16] (fun si wr => ∃ t : Nat, t ≤ j ∧ si = .int .i64 t ∧ Ow 3 w7.heap.size w8.heap.size wr (some ⟨w7.heap.size, 0, none⟩) sm sm (rowV sm (aF (Ls2.take t))) ∧ Apart w7.heap.size w8.heap.size wo48 wr) (fun si _ => j - (intOf si).toNat)
                case atStart => exact ⟨0, Nat.zero_le _, rfl, by rw [List.take_zero]; exact HRow_53.out, Apart.refl _ _ _⟩
                case round =>
                  obtain ⟨t, ht, rfl, hall, hap⟩ := hrel
                  obtain ⟨wo53, rfl⟩ : ∃ wo : World, wo = wr := ⟨_, rfl⟩
                  have hzo := hap.size
                  have HAll := Lib.hid hall; have HAp := Lib.hid hap
                  have HS2 := Lib.hid ((HS_53.out.same (hap.same (.inl (by omega)) (by omega))).sch); have HT2 := Lib.hid ((HT_53.out.same (hap.same (.inl (by omega)) (by omega))).sta)
                  clear hall hap
                  by_cases hlt : t < j
                  · have hti : (t : Int) < (j : Int) := by omega
                    have c0 := (Bx_apart HSb_53.out HAp.out (by omega)).cells 0; have c1 := (Bx_apart HSb_53.out HAp.out (by omega)).cells 1; have c2 := (Bx_apart HTb_53.out HAp.out (by omega)).cells 0; have c3 := (Bx_apart HTb_53.out HAp.out (by omega)).cells 1; have c4 := (Bx_apart HFb_53.out HAp.out (by omega)).cells 0; have c5 := (Bx_apart HFb_53.out HAp.out (by omega)).cells 1
                    simp at c0 c1 c2 c3 c4 c5
                    obtain ⟨l, hl⟩ : ∃ l, btI ats cs xss (k : Nat) (-1) (t : Nat) = l := ⟨_, rfl⟩
                    have hlm := HE2.out t hlt
                    rw [hl] at hlm
                    have HLm : Hid (l.length = sm) := HO2.out.len l (List.mem_of_getElem? hlm)
                    have HLb : Hid (∀ x ∈ l, 0 ≤ x ∧ x ≤ 999) := fun x hx => (HO2.out.row (List.mem_of_getElem? hlm)).2.2 x hx
                    have HTk : Hid (Ls2.take t ++ [l] = Ls2.take (t + 1)) := take_snoc9 hlm
                    have HL := Lib.hid hl
                    clear hl hlm
                    go_wp2_with fail
                    refine (iBranchTotals_yes (some ⟨ba, off, none⟩) S2 sn sc sm sd hs ats cs T X q qc p pc gs ts xss _ HS2.out HT2.out (k : Nat) (-1) (t : Nat) (HBt2.out t hlt)).mono ?_
                    rw [btL_int, HL.out]
                    rintro e u3 ⟨g6, rfl, o6, b6⟩
                    have hz3 := b6.size
                    have HL3 := Lib.hid (Ow.of o6)
                    have HAll3 : Hid (Ow 3 w7.heap.size w8.heap.size u3 (some ⟨w7.heap.size, 0, none⟩) sm sm (rowV sm (addF (Ls2.take t) l 0))) := by unfold Hid; rw [← addF_zero]; exact HAll.out.same (same_below b6 (by omega))
                    have HAp3 := Lib.hid (HAp.out.trans (Apart.below b6 trivial))
                    clear o6 b6 c0 c1 c2 c3 c4 c5 HAll
                    go_wp2_with fail
                    go_loopw [18] (fun jx w4 => ∃ jj : Nat, jj ≤ sm ∧ jx = .int .i64 jj ∧ Ow 3 w7.heap.size w8.heap.size w4 (some ⟨w7.heap.size, 0, none⟩) sm sm (rowV sm (addF (Ls2.take t) l jj)) ∧ Only w7.heap.size w8.heap.size u3 w4) (fun jx _ => sm - (intOf jx).toNat)
                    case atStart => exact ⟨0, Nat.zero_le _, rfl, HAll3.out, Only.refl _ _ _⟩
                    case round =>
                      obtain ⟨jj, hjj, rfl, hal, hon⟩ := hrel
                      obtain ⟨u4, rfl⟩ : ∃ u4 : World, u4 = wr := ⟨_, rfl⟩
                      have HAl := Lib.hid hal; have HOn := Lib.hid hon
                      have HL4 : Hid (Ow 3 wo53.heap.size u3.heap.size u4 (some ⟨g6, 0, none⟩) sm sm (l.map (Value.int .i64))) := HL3.out.same (same_only HOn.out (Or.inr (by omega)) (Nat.le_refl _))
                      clear hal hon
                      by_cases hlj : jj < sm
                      · obtain ⟨x, hx⟩ : ∃ x, l[jj]? = some x := ⟨_, List.getElem?_eq_getElem (by rw [HLm.out]; exact hlj)⟩
                        have hxb := HLb.out x (List.mem_of_getElem? hx)
                        have hcell : u4.cell? ⟨g6, jj, none⟩ = some (.int .i64 x) := by rw [HL4.out.own.cellAt jj (by omega)]; simp [hx]
                        obtain ⟨s, hs⟩ : ∃ s, aF (Ls2.take t) jj = s := ⟨_, rfl⟩
                        have hsb := aF_bd (HO2.out.take t) hlj
                        rw [hs] at hsb
                        have hsc : u4.cell? ⟨w7.heap.size, jj, none⟩ = some (.int .i64 s) := by rw [HAl.out.own.cellAt jj (by omega), rowV_get hlj, addF_at, hs]
                        have HAd : Hid (Ow 3 w7.heap.size w8.heap.size u4.drew (some ⟨w7.heap.size, 0, none⟩) sm sm (rowV sm (addF (Ls2.take t) l jj))) := HAl.out.same (fun _ _ _ => rfl)
                        have hfr : u4.drew.frozen? ⟨w7.heap.size, jj, none⟩ = false := HAd.out.own.frozenAt jj
                        have hsd : u4.drew.cell? ⟨w7.heap.size, jj, none⟩ = some (.int .i64 s) := hsc
                        obtain ⟨hs1, hs2⟩ := HAd.out.own.stored jj (.int .i64 (s + x))
                        have hset := addF_set (Ls := Ls2.take t) hlj hx
                        rw [hs] at hset
                        rw [hset] at hs1
                        have HA9 : Hid (Ow 3 w7.heap.size w8.heap.size (u4.drew.setCell ⟨w7.heap.size, jj, none⟩ (.int .i64 (s + x))) (some ⟨w7.heap.size, 0, none⟩) sm sm (rowV sm (addF (Ls2.take t) l (jj + 1)))) := ⟨hs1, HAd.out.top⟩
                        have HO9 : Hid (Only w7.heap.size w8.heap.size u3 (u4.drew.setCell ⟨w7.heap.size, jj, none⟩ (.int .i64 (s + x)))) := (HOn.out.trans (Only.of_below (Below.refl u4.heap.size u4).drew (Nat.le_refl _))).trans (HAd.out.only hs2)
                        have n0 : (0 : Int) ≤ (jj : Int) := Int.natCast_nonneg _
                        have n1_ : (jj : Int) < (sm : Int) := by omega
                        have n2 : IntKind.i64.wrap (s + x) = s + x := IntWalk.i64_in _ (by omega)
                        clear hx hs hs1 hs2 hset
                        go_wp2_with fail
                        go_still_tail 12, (by kernel_rfl)
                        go_wp2_with fail
                        clear n0 n1_ n2
                        go_roundw
                        case rel => exact ⟨jj + 1, by omega, by go_num, HA9.out, HO9.out⟩
                        case measure => simp [intOf]; omega
                      · obtain rfl : sm = jj := by omega
                        have HAll9 : Hid (Ow 3 w7.heap.size w8.heap.size u4 (some ⟨w7.heap.size, 0, none⟩) sm sm (rowV sm (aF (Ls2.take (t + 1))))) := by unfold Hid; rw [← HTk.out, ← addF_all]; exact HAl.out
                        have HAp9 := Lib.hid (HAp3.out.trans (Apart.only HOn.out))
                        go_wp2_with fail
                        go_roundw
                        case rel => exact ⟨t + 1, by omega, by go_num, HAll9.out, HAp9.out⟩
                        case measure => simp [intOf]; omega
                  · obtain rfl : t = j := by omega
                    have ap := HAp.out
                    have t2_53 := ap.size
                    have z2_53 : w.heap.size ≤ wo53.heap.size := by omega
                    have rb_53 : Ow 3 w7.heap.size w8.heap.size wo53 (some ⟨w7.heap.size, 0, none⟩) sm sm (rowV sm (aF Ls2)) := by have h := HAll.out; rw [List.take_of_length_le (by rw [HG2.out]; exact Nat.le_refl _)] at h; exact h
                    have s_54 := s_49.same (ap.same (by omega) (by omega))
                    clear s_49
                    have t_54 := t_49.same (ap.same (by omega) (by omega))
                    clear t_49
                    have sb_54 := sb_49.same (ap.same (by omega) (by omega))
                    clear sb_49
                    have tb_54 := tb_49.same (ap.same (by omega) (by omega))
                    clear tb_49
                    have fb_54 := fb_49.same (ap.same (by omega) (by omega))
                    clear fb_49
                    have ra_54 := ra_48.same (ap.same (by omega) (by omega))
                    clear ra_48
                    clear rb_49
                    have B2_53 := B2_48.trans (ap.toBelow (by omega) (by omega))
                    clear B2_48 ap HAp HAll HS2 HT2 HS_53 HT_53 HSb_53 HTb_53 HFb_53 HRow_53 HAc_53
                    have csb_55 := sb_54.cells
                    have fsb_55 := sb_54.free
                    have ctb_56 := tb_54.cells
                    have ftb_56 := tb_54.free
                    have cfb_57 := fb_54.cells
                    have ffb_57 := fb_54.free
                    go_wp2_with fail
                    refine (lSame_same _ _ sm _ _ (allI sm Ls2) _ (by rw [← rowV_all, ← rowV_ext (fun j hj => all_get HSame.out hj)]; exact ra_54.rd) (by rw [← rowV_all]; exact rb_53.rd) (by omega)).mono ?_
                    rintro e w9 ⟨rfl, b⟩
                    clear csb_55 fsb_55
                    clear ctb_56 ftb_56
                    clear cfb_57 ffb_57
                    have t_58 := b.size
                    have z_58 : w.heap.size ≤ w9.heap.size := by omega
                    have s_59 := s_54.same (same_below b (by omega))
                    clear s_54
                    have t_59 := t_54.same (same_below b (by omega))
                    clear t_54
                    have sb_59 := sb_54.same (same_below b (by omega))
                    clear sb_54
                    have tb_59 := tb_54.same (same_below b (by omega))
                    clear tb_54
                    have fb_59 := fb_54.same (same_below b (by omega))
                    clear fb_54
                    have ra_59 := ra_54.same (same_below b (by omega))
                    clear ra_54
                    have rb_59 := rb_53.same (same_below b (by omega))
                    clear rb_53
                    have B_58 := B2_53.trans (b.mono (by omega))
                    clear B2_53 b
                    have csb_60 := sb_59.cells
                    have fsb_60 := sb_59.free
                    have ctb_61 := tb_59.cells
                    have ftb_61 := tb_59.free
                    have cfb_62 := fb_59.cells
                    have ffb_62 := fb_59.free
                    go_wp2_with fail
                    go_ret
                    exact ⟨rfl, B_58⟩

set_option maxRecDepth 50000 in
theorem walk (w : World) (A : Option Addr) (n c : Nat) (xs : List Int) (hl : n ≤ c) (hm : c ≤ maxLen) (hr : Rd w A n (xs.map (Value.int .u8))) (hu : ∀ z ∈ xs, (Lit.int .u8 z).wf = true) :
    Calls Try.prog 6 #[.slice A n c] w fun e w' => e = .returned (.bool true) ∧ Below w.heap.size w w' := by
  unfold maxLen at hm
  have HR := Lib.hid hr
  have HU : Hid (∀ z ∈ xs, 0 ≤ z ∧ z ≤ 255) := fun z hz => u8wf (hu z hz)
  clear hr hu
  by_cases hn : n ≤ 1048576
  · exact walkIn w A n c xs hn HR HU
  · go_enter Try.func6, Try.ntmps6
    go_wp2_with fail
    refine (big_yes A n c w hn).mono ?_
    rintro e _ ⟨rfl, rfl⟩
    go_wp2_with fail
    go_ret
    exact ⟨rfl, Below.refl _ _⟩

set_option maxRecDepth 100000 in
theorem walks : Walks 6 Try.f6 := by
  intro H enc W base args ds ps hval hA _
  rw [Try.params6] at hA hval
  obtain ⟨v0, vs0, d0, ds0, p0, q0, hargs, rfl, rfl, h0, r0⟩ := trodAll_cons hA
  obtain ⟨rfl, rfl, rfl⟩ := trodAll_nil r0
  obtain rfl : args = #[v0] := by cases args; simp_all
  obtain ⟨f0, y0, z0⟩ := slice_cell Try.underlying52 (hval 0 52 v0 rfl rfl) h0
  obtain ⟨A0, n0, c0, a0, rfl, hl0, hm0, hr0, w0⟩ := open_ints_rd Try.underlying52 (by kernel_rfl) Try.underlying5 z0
  exact walk (w := W) A0 n0 c0 a0 hl0 hm0 hr0 w0

set_option maxRecDepth 100000 in
theorem lifted (os : Os) (started : os.Started) (H : Type) (enc : TypeId × Value → H) :
    ReturnsInHanded {} Try.checked os 6 .any (Rows.fnOneBranchSpec.pre6 enc Try.prog Try.f6 Rows.fnOneBranchRow.domain false) (Rows.fnOneBranchSpec.post enc Try.prog Try.f6 false true false false) :=
  law_lifted started (by kernel_rfl) Try.func6
    (ChangeSpec.witness6 (enc := enc) (C := Try.checked) false ⟨#[], #[.slice none 0 0], []⟩ 8 (by kernel_rfl) (by kernel_rfl) (by kernel_rfl) (by kernel_rfl))
    rfl rfl Try.underlying4 (fun ds h => match ds, h with | [_], _ => rfl) (by
      rw [Try.params6]
      intro t ht
      simp only [List.mem_cons, List.not_mem_nil, or_false] at ht
      subst ht
      exact ⟨by kernel_rfl, of_decide_eq_true (by kernel_rfl)⟩) walks

theorem over : Rows.fnOneBranchRow.holds Try.pinned (OpenSpec.ofChange Rows.fnOneBranchSpec) :=
  OpenClaim.holds_of_wide 6 Try.f6 rfl rfl rfl rfl rfl rfl rfl ⟨rfl, rfl, rfl, rfl, rfl⟩ rfl rfl rfl rfl rfl (by kernel_rfl) Try.func6 (by kernel_rfl)
    (of_decide_eq_true (by kernel_rfl)) (by unfold Func.isWrapper; first | (rw [if_pos (by decide +kernel)]; kernel_rfl) | (rw [if_neg (by decide +kernel)]; exact ⟨rfl, rfl⟩))
    (fun os started H enc _ => lifted os started H enc)

theorem proved : Rows.FnOneBranchSaid := over
#print axioms proved

end LawFOneBranch
end Go.Proofs.Ytchkmcikpamdeaa
