/-
  Proved: laws.FnScaled returns true for every list of bytes. Conditions: none.
-/
import Derived.Test.YtchkmcikpamdeaaDrawM
import Derived.Test.YtchkmcikpamdeaaMerI
import Derived.Test.YtchkmcikpamdeaaMerS
import Derived.Test.YtchkmcikpamdeaaRelS
import Derived.Test.YtchkmcikpamdeaaProm
import Derived.Test.YtchkmcikpamdeaaOpen
import Derived.Deep.DeepCutAuto
import Derived.BigQuiet
import Derived.StillTailTactics
namespace Go.Proofs.Ytchkmcikpamdeaa
open Go.ChangeShapes Go.WideShapes Go.ChangeAt Go.RowKit Go.Deep
namespace LawFScaled
set_option linter.unusedSimpArgs false
set_option linter.unusedVariables false
theorem u8wf {z : Int} (h : (Lit.int .u8 z).wf = true) : 0 ≤ z ∧ z ≤ 255 := by
  simp [Lit.wf, IntKind.min, IntKind.max, IntKind.bits, IntKind.signed] at h
  omega
theorem big_no (A : Option Addr) (n c : Nat) (w : World) (h : n ≤ 1048576) : Calls Try.prog 24 #[.slice A n c] w fun e w' => e = .returned (.bool false) ∧ w = w' := by
  go_enter Try.func24, Try.ntmps24
  go_wp2
  go_ret
  exact ⟨by simp; omega, rfl⟩
theorem big_yes (A : Option Addr) (n c : Nat) (w : World) (h : ¬ n ≤ 1048576) : Calls Try.prog 24 #[.slice A n c] w fun e w' => e = .returned (.bool true) ∧ w = w' := by
  go_enter Try.func24, Try.ntmps24
  go_wp2
  go_ret
  exact ⟨by simp; omega, rfl⟩
open Go.Sort

theorem rowV_succ (m : Nat) (f : Nat → Int) : rowV (m + 1) f = rowV m f ++ [.int .i64 (f m)] := by simp [rowV, List.range_succ]
theorem rowV_map (m : Nat) (f : Nat → Int) : rowV m f = ((List.range m).map f).map (Value.int .i64) := by unfold rowV; rw [List.map_map]; rfl
theorem take_snocX {xss : List (List Int)} {t : Nat} {l : List Int} (h : xss[t]? = some l) : xss.take t ++ [l] = xss.take (t + 1) := by
  obtain ⟨h1, h2⟩ := List.getElem?_eq_some_iff.1 h
  rw [List.take_succ_eq_append_getElem h1, h2]
theorem stats_bad {ats : List AD} {cs : List ByteArray} {ts : List Int} {xss : List (List Int)} (h : statsB ats cs ts xss = true) : badW ts = false ∧ ∀ r, badW (xss.getD r []) = false := by
  have hh := h
  unfold statsB totB at h
  simp only [Bool.and_eq_true, Bool.not_eq_true'] at h
  refine ⟨h.1.2.1.2, fun r => ?_⟩
  by_cases h0 : xss.length = 0
  · have : xss = [] := List.eq_nil_of_length_eq_zero h0
    rw [this]; rfl
  · obtain ⟨_, s2, s3⟩ := statsB_row hh h0
    by_cases hr : r < xss.length
    · have e : xss[r]? = some (xss.getD r []) := by simp [List.getD, hr]
      have ha : r < ats.length := by omega
      obtain ⟨nb, _, _, _, _, b5⟩ := s3 r _ _ e (List.getElem?_eq_getElem ha)
      exact b5
    · have e : xss.getD r [] = [] := by simp [List.getD, List.getElem?_eq_none (Nat.le_of_not_lt hr)]
      rw [e]; rfl
theorem row_mul {ats : List AD} {cs : List ByteArray} {ts : List Int} {xss : List (List Int)} (h : statsB ats cs ts xss = true) (h0 : ¬ xss.length = 0) {r : Nat} {row : List Int} (hr : xss[r]? = some row) : ∃ nb, row.length = nb * cs.length := by
  obtain ⟨_, s2, s3⟩ := statsB_row h h0
  have hl := (List.getElem?_eq_some_iff.1 hr).1
  have ha : r < ats.length := by omega
  obtain ⟨nb, _, _, _, b4, _⟩ := s3 r _ _ hr (List.getElem?_eq_getElem ha)
  exact ⟨nb, b4⟩
/-- The counts in the other order of the classes. -/
def relF (m : Nat) (ts : List Int) (j : Nat) : Int := ts.getD (m - 1 - j) 0
def relG (m : Nat) (row : List Int) (j : Nat) : Int := row.getD (j / m * m + (m - 1 - j % m)) 0
def relX (m : Nat) (xss : List (List Int)) : List (List Int) := xss.map fun r => (List.range r.length).map (relG m r)
/-- Twice the counts. -/
def sclF (ts : List Int) (j : Nat) : Int := 2 * ts.getD j 0
def sclX (xss : List (List Int)) : List (List Int) := xss.map fun r => (List.range r.length).map (sclF r)
theorem relX_iss (m : Nat) (xss : List (List Int)) : (xss.map fun r => rowV r.length (relG m r)) = iss (relX m xss) := by
  unfold iss relX; rw [List.map_map]; exact List.map_congr_left fun r _ => rowV_map _ _
theorem sclX_iss (xss : List (List Int)) : (xss.map fun r => rowV r.length (sclF r)) = iss (sclX xss) := by
  unfold iss sclX; rw [List.map_map]; exact List.map_congr_left fun r _ => rowV_map _ _
theorem relX_len (m : Nat) (xss : List (List Int)) : (relX m xss).length = xss.length := by simp [relX]
theorem sclX_len (xss : List (List Int)) : (sclX xss).length = xss.length := by simp [sclX]
theorem relX_le {m K : Nat} {xss : List (List Int)} (h : ∀ xs ∈ xss, xs.length ≤ K) : ∀ xs ∈ relX m xss, xs.length ≤ K := fun xs hx => by
  obtain ⟨r, hr, rfl⟩ := List.mem_map.1 hx
  simpa using h r hr
theorem sclX_le {K : Nat} {xss : List (List Int)} (h : ∀ xs ∈ xss, xs.length ≤ K) : ∀ xs ∈ sclX xss, xs.length ≤ K := fun xs hx => by
  obtain ⟨r, hr, rfl⟩ := List.mem_map.1 hx
  simpa using h r hr
theorem relX_get {m r : Nat} {xss : List (List Int)} (hr : r < xss.length) : (relX m xss).getD r [] = (List.range (xss.getD r []).length).map (relG m (xss.getD r [])) := by
  simp [relX, List.getD, hr]
theorem sclX_get {r : Nat} {xss : List (List Int)} (hr : r < xss.length) : (sclX xss).getD r [] = (List.range (xss.getD r []).length).map (sclF (xss.getD r [])) := by
  simp [sclX, List.getD, hr]
theorem relT_rel {m : Nat} {ts : List Int} {xss : List (List Int)} (hm : m = 2 ∨ m = 3) (ht : ts.length = m) : RelT m 1 (fun j => m - 1 - j) ts ((List.range m).map (relF m ts)) xss (relX m xss) := by
  refine ⟨.inl rfl, fun j hj => by show m - 1 - j < m; omega, fun g => ?_, by simp [ht], fun j hj => ?_, relX_len m xss, fun r hr => by rw [relX_get hr]; simp, fun r hr b j hj hb => ?_⟩
  · rcases hm with rfl | rfl <;> simp [List.range_succ] <;> omega
  · rw [getD_range hj]; show ts.getD (m - 1 - j) 0 = _; rw [Int.one_mul]
  · rw [relX_get hr, getD_range hb]
    have h1 : (b * m + j) / m = b := by rw [Nat.mul_comm, Nat.mul_add_div (by omega), Nat.div_eq_of_lt hj, Nat.add_zero]
    have h2 : (b * m + j) % m = j := by rw [Nat.add_comm, Nat.add_mul_mod_self_right, Nat.mod_eq_of_lt hj]
    show (xss.getD r []).getD ((b * m + j) / m * m + (m - 1 - (b * m + j) % m)) 0 = _
    rw [h1, h2, Int.one_mul]
theorem relT_scl {m : Nat} {ts : List Int} {xss : List (List Int)} (ht : ts.length = m) (hs : ts.sum ≤ 499) : RelT m 2 (fun j => j) ts ((List.range m).map (sclF ts)) xss (sclX xss) := by
  refine ⟨.inr ⟨rfl, hs⟩, fun j hj => hj, fun g => rfl, by simp [ht], fun j hj => ?_, sclX_len xss, fun r hr => by rw [sclX_get hr]; simp, fun r hr b j hj hb => ?_⟩
  · rw [getD_range hj]; rfl
  · rw [sclX_get hr, getD_range hb]; rfl
theorem rel_fin {m : Nat} {ats : List AD} {cs : List ByteArray} {ts : List Int} {xss : List (List Int)} {fa ft : Int} (hc : cs.length = m) (h : merB ats cs ts xss fa ft = true) : merN ats cs ((List.range m).map (relF m ts)) (relX m xss) fa ft = merN ats cs ts xss fa ft ∧ merD ats cs ((List.range m).map (relF m ts)) (relX m xss) fa ft = merD ats cs ts xss fa ft := by
  subst hc
  obtain ⟨_, _, _, hm, ht, _⟩ := mer_row h
  exact rel_mer (relT_rel hm ht) h
theorem scl_fin {q : Nat} {ats : List AD} {cs : List ByteArray} {ts : List Int} {xss : List (List Int)} {fa ft : Int} (hq : ts.length = q) (hs : ts.sum ≤ 499) (h : merB ats cs ts xss fa ft = true) : merN ats cs ((List.range q).map (sclF ts)) (sclX xss) fa ft = merN ats cs ts xss fa ft ∧ merD ats cs ((List.range q).map (sclF ts)) (sclX xss) fa ft = merD ats cs ts xss fa ft := by
  obtain ⟨_, _, _, hm, ht, _⟩ := mer_row h
  rw [ht] at hq; subst hq
  exact rel_mer (relT_scl ht hs) h

set_option maxRecDepth 50000 in
set_option maxHeartbeats 16000000 in
theorem walkIn (w : World) (A : Option Addr) (n c : Nat) (xs : List Int) (hn : n ≤ 1048576) (HR : Hid (Rd w A n (xs.map (Value.int .u8)))) (HU : Hid (∀ z ∈ xs, 0 ≤ z ∧ z ≤ 255)) :
    Calls Try.prog 4 #[.slice A n c] w fun e w' => e = .returned (.bool true) ∧ Below w.heap.size w w' := by
  have B0 := Below.refl w.heap.size w
  have s0 : w.heap.size ≤ w.heap.size := Nat.le_refl _
  go_enter Try.func4, Try.ntmps4
  go_wp2_with fail
  refine (big_no A n c _ hn).mono ?_
  rintro e w1 ⟨rfl, rfl⟩
  go_wp2_with fail
  refine (sDrawMerit_any A n c xs _ HR.out HU.out (by omega)).mono ?_
  rintro e w1 ⟨S1, sn, sc, S2, sm, sd, hs, ats, cs, T, q, qc, X, p, pc, gs, ts, xss, fa, ft, rfl, hsf, htf, b⟩
  have t_0 := b.size
  have z_0 : w.heap.size ≤ w1.heap.size := by omega
  have B_0 := B0.trans (b.mono (by omega))
  clear B0 b
  have s_r := hsf.rng
  clear hsf
  have t_r := htf.rng
  clear htf
  have hsn := s_r.hn; have hsm := s_r.hm; have hp16 := t_r.hp; have hq32 := t_r.hq
  have hLc : cs.length = sm := by have := s_r.cl.rd.len; simpa using this
  have HLc := Lib.hid hLc
  clear hLc
  have HLx := Lib.hid t_r.len
  have hLt : ts.length = q := by have := t_r.tot.rd.len; simpa using this
  have HLt := Lib.hid hLt
  clear hLt
  obtain ⟨zs, hzs⟩ : ∃ zs, statsB ats cs ts xss = zs := ⟨_, rfl⟩
  have HZs := Lib.hid hzs
  clear hzs
  have s_1 := s_r.same (same_alloc (.cells #[.slice S1 sn sc, .slice S2 sm sd] 40) (by omega))
  clear s_r
  have t_1 := t_r.same (same_alloc (.cells #[.slice S1 sn sc, .slice S2 sm sd] 40) (by omega))
  clear t_r
  have sb_2 : Bx (w1.alloc (.cells #[.slice S1 sn sc, .slice S2 sm sd] 40)) (w1.heap.size) 40 #[.slice S1 sn sc, .slice S2 sm sd] := Bx.new _ _ _
  have B_2 := B_0.alloc z_0 (.cells #[.slice S1 sn sc, .slice S2 sm sd] 40)
  clear B_0
  have csb_3 := sb_2.cells
  have fsb_3 := sb_2.free
  clear csb_3 fsb_3
  have s_4 := s_1.same (same_alloc (.cells #[.slice T q qc, .slice X p pc] 35) (by simp only [World.size_alloc]; omega))
  clear s_1
  have t_4 := t_1.same (same_alloc (.cells #[.slice T q qc, .slice X p pc] 35) (by simp only [World.size_alloc]; omega))
  clear t_1
  have sb_4 := sb_2.same (same_alloc (.cells #[.slice T q qc, .slice X p pc] 35) (by simp only [World.size_alloc]; omega))
  clear sb_2
  have tb_5 : Bx ((w1.alloc (.cells #[.slice S1 sn sc, .slice S2 sm sd] 40)).alloc (.cells #[.slice T q qc, .slice X p pc] 35)) (w1.heap.size + 1) 35 #[.slice T q qc, .slice X p pc] := by
    have h := Bx.new (w1.alloc (.cells #[.slice S1 sn sc, .slice S2 sm sd] 40)) 35 #[.slice T q qc, .slice X p pc]
    simpa only [World.size_alloc] using h
  have B_5 := B_2.alloc (by simp only [World.size_alloc]; omega) (.cells #[.slice T q qc, .slice X p pc] 35)
  clear B_2
  have csb_6 := sb_4.cells
  have fsb_6 := sb_4.free
  have ctb_7 := tb_5.cells
  have ftb_7 := tb_5.free
  clear csb_6 fsb_6
  clear ctb_7 ftb_7
  have s_8 := s_4.same (same_alloc (.cells #[.int .i64 fa, .int .i64 ft] 55) (by simp only [World.size_alloc]; omega))
  clear s_4
  have t_8 := t_4.same (same_alloc (.cells #[.int .i64 fa, .int .i64 ft] 55) (by simp only [World.size_alloc]; omega))
  clear t_4
  have sb_8 := sb_4.same (same_alloc (.cells #[.int .i64 fa, .int .i64 ft] 55) (by simp only [World.size_alloc]; omega))
  clear sb_4
  have tb_8 := tb_5.same (same_alloc (.cells #[.int .i64 fa, .int .i64 ft] 55) (by simp only [World.size_alloc]; omega))
  clear tb_5
  have fb_9 : Bx (((w1.alloc (.cells #[.slice S1 sn sc, .slice S2 sm sd] 40)).alloc (.cells #[.slice T q qc, .slice X p pc] 35)).alloc (.cells #[.int .i64 fa, .int .i64 ft] 55)) (w1.heap.size + 1 + 1) 55 #[.int .i64 fa, .int .i64 ft] := by
    have h := Bx.new ((w1.alloc (.cells #[.slice S1 sn sc, .slice S2 sm sd] 40)).alloc (.cells #[.slice T q qc, .slice X p pc] 35)) 55 #[.int .i64 fa, .int .i64 ft]
    simpa only [World.size_alloc] using h
  have B_9 := B_5.alloc (by simp only [World.size_alloc]; omega) (.cells #[.int .i64 fa, .int .i64 ft] 55)
  clear B_5
  have csb_10 := sb_8.cells
  have fsb_10 := sb_8.free
  have ctb_11 := tb_8.cells
  have ftb_11 := tb_8.free
  have cfb_12 := fb_9.cells
  have ffb_12 := fb_9.free
  go_wp2_with fail
  refine (sStatsOk_any S1 S2 sn sc sm sd hs ats cs T X q qc p pc gs ts xss _ s_8.sch t_8.sta).mono ?_
  rw [HZs.out]
  rintro e w2 ⟨rfl, b⟩
  clear csb_10 fsb_10
  clear ctb_11 ftb_11
  clear cfb_12 ffb_12
  simp only [World.size_alloc] at b
  have t_13 := b.size
  simp only [World.size_alloc] at t_13
  have z_13 : w.heap.size ≤ w2.heap.size := by omega
  have s_14 := s_8.same (same_below b (by omega))
  clear s_8
  have t_14 := t_8.same (same_below b (by omega))
  clear t_8
  have sb_14 := sb_8.same (same_below b (by omega))
  clear sb_8
  have tb_14 := tb_8.same (same_below b (by omega))
  clear tb_8
  have fb_14 := fb_9.same (same_below b (by omega))
  clear fb_9
  have B_13 := B_9.trans (b.mono (by omega))
  clear B_9 b
  have csb_15 := sb_14.cells
  have fsb_15 := sb_14.free
  have ctb_16 := tb_14.cells
  have ftb_16 := tb_14.free
  have cfb_17 := fb_14.cells
  have ffb_17 := fb_14.free
  cases zs
  · have HM : Hid (merB ats cs ts xss fa ft = false) := by unfold Hid merB; rw [HZs.out]; rfl
    obtain ⟨N1, hN1⟩ : ∃ N1, merN ats cs ts xss fa ft = N1 := ⟨_, rfl⟩
    obtain ⟨D1, hD1⟩ : ∃ D1, merD ats cs ts xss fa ft = D1 := ⟨_, rfl⟩
    have HN := Lib.hid hN1; have HD := Lib.hid hD1
    clear hN1 hD1
    go_wp2_with fail
    have clsb0_18 := cell_regrown (w := w2) (a := ⟨w1.heap.size, 0, none⟩) (v := .slice S1 sn sc) (sb_14.cells 0)
    have clsb1_18 := cell_regrown (w := w2) (a := ⟨w1.heap.size, 1, none⟩) (v := .slice S2 sm sd) (sb_14.cells 1)
    have cltb0_18 := cell_regrown (w := w2) (a := ⟨w1.heap.size + 1, 0, none⟩) (v := .slice T q qc) (tb_14.cells 0)
    have cltb1_18 := cell_regrown (w := w2) (a := ⟨w1.heap.size + 1, 1, none⟩) (v := .slice X p pc) (tb_14.cells 1)
    have clfb0_18 := cell_regrown (w := w2) (a := ⟨w1.heap.size + 1 + 1, 0, none⟩) (v := .int .i64 fa) (fb_14.cells 0)
    have clfb1_18 := cell_regrown (w := w2) (a := ⟨w1.heap.size + 1 + 1, 1, none⟩) (v := .int .i64 ft) (fb_14.cells 1)
    clear csb_15 fsb_15
    clear ctb_16 ftb_16
    clear cfb_17 ffb_17
    have cA : ∀ d' os, Calls Try.prog 29 #[.agg #[.slice S1 sn sc, .slice S2 sm sd], .agg #[.slice T q qc, .slice X p pc], .agg #[.int .i64 fa, .int .i64 ft]] (grow (redrawn w2 d') os) fun e w'' => e = .returned (.agg #[.int .i64 N1, .int .i64 D1]) ∧ ∃ p : Regrown, w'' = grow (redrawn w2 p.d) p.os := fun d' os => Calls.regrown_of (by rw [← HN.out, ← HD.out]; exact iMerit_any S1 S2 sn sc sm sd hs ats cs T X q qc p pc gs ts xss _ (s_14.sch.below (below_regrown _ d' os) (Nat.le_refl _)) (t_14.sta.below (below_regrown _ d' os) (Nat.le_refl _)) fa ft)
    have cB : ∀ d' os, Calls Try.prog 30 #[.agg #[.slice S1 sn sc, .slice S2 sm sd], .agg #[.slice T q qc, .slice X p pc], .agg #[.int .i64 fa, .int .i64 ft]] (grow (redrawn w2 d') os) fun e w'' => e = .returned (.agg #[.int .i64 N1, .int .i64 D1]) ∧ ∃ p : Regrown, w'' = grow (redrawn w2 p.d) p.os := fun d' os => Calls.regrown_of (by rw [← HN.out, ← HD.out]; exact sMerit_any S1 S2 sn sc sm sd hs ats cs T X q qc p pc gs ts xss _ (s_14.sch.below (below_regrown _ d' os) (Nat.le_refl _)) (t_14.sta.below (below_regrown _ d' os) (Nat.le_refl _)) fa ft)
    have HA_18 := Lib.hid B_13
    refine wp_region_quiet_below (by kernel_rfl) (by kernel_rfl) ?_
    repeat (first | go_big_quiet_step (first | with_reducible exact cA _ _ | with_reducible exact cB _ _) | quiet_step (first | with_reducible exact cA _ _ | with_reducible exact cB _ _))
    refine wpQuiet_nil ?_
    intro _ hw'
    obtain ⟨⟨dq, osq⟩, hw''⟩ := hw'
    subst hw''
    have bq := below_regrown w2 dq osq
    clear cA cB clsb0_18 clsb1_18 cltb0_18 cltb1_18 clfb0_18 clfb1_18
    generalize grow (redrawn w2 dq) osq = w3 at bq ⊢
    have t_18 := bq.size
    have z_18 : w.heap.size ≤ w3.heap.size := by omega
    have s_19 := s_14.same (same_below bq (by omega))
    clear s_14
    have t_19 := t_14.same (same_below bq (by omega))
    clear t_14
    have sb_19 := sb_14.same (same_below bq (by omega))
    clear sb_14
    have tb_19 := tb_14.same (same_below bq (by omega))
    clear tb_14
    have fb_19 := fb_14.same (same_below bq (by omega))
    clear fb_14
    have B_18 := B_13.trans (bq.mono (by omega))
    clear B_13 bq
    have csb_20 := sb_19.cells
    have fsb_20 := sb_19.free
    have ctb_21 := tb_19.cells
    have ftb_21 := tb_19.free
    have cfb_22 := fb_19.cells
    have ffb_22 := fb_19.free
    go_wp2_with fail
    go_ret
    exact ⟨rfl, B_18⟩
  · by_cases hp0 : p = 0
    · have HM : Hid (merB ats cs ts xss fa ft = false) := by unfold Hid merB; rw [HZs.out, HLx.out, hp0]; simp
      have p1 : (p : Int) = 0 := by omega
      have p2 : decide ((p : Int) = 0) = true := decide_eq_true p1
      have p3 : ((p : Int) == 0) = true := by rw [p1]; rfl
      have HP0 := Lib.hid hp0
      clear hp0 p1
      obtain ⟨N1, hN1⟩ : ∃ N1, merN ats cs ts xss fa ft = N1 := ⟨_, rfl⟩
      obtain ⟨D1, hD1⟩ : ∃ D1, merD ats cs ts xss fa ft = D1 := ⟨_, rfl⟩
      have HN := Lib.hid hN1; have HD := Lib.hid hD1
      clear hN1 hD1
      go_wp2_with fail
      have clsb0_18 := cell_regrown (w := w2) (a := ⟨w1.heap.size, 0, none⟩) (v := .slice S1 sn sc) (sb_14.cells 0)
      have clsb1_18 := cell_regrown (w := w2) (a := ⟨w1.heap.size, 1, none⟩) (v := .slice S2 sm sd) (sb_14.cells 1)
      have cltb0_18 := cell_regrown (w := w2) (a := ⟨w1.heap.size + 1, 0, none⟩) (v := .slice T q qc) (tb_14.cells 0)
      have cltb1_18 := cell_regrown (w := w2) (a := ⟨w1.heap.size + 1, 1, none⟩) (v := .slice X p pc) (tb_14.cells 1)
      have clfb0_18 := cell_regrown (w := w2) (a := ⟨w1.heap.size + 1 + 1, 0, none⟩) (v := .int .i64 fa) (fb_14.cells 0)
      have clfb1_18 := cell_regrown (w := w2) (a := ⟨w1.heap.size + 1 + 1, 1, none⟩) (v := .int .i64 ft) (fb_14.cells 1)
      clear csb_15 fsb_15
      clear ctb_16 ftb_16
      clear cfb_17 ffb_17
      have cA : ∀ d' os, Calls Try.prog 29 #[.agg #[.slice S1 sn sc, .slice S2 sm sd], .agg #[.slice T q qc, .slice X p pc], .agg #[.int .i64 fa, .int .i64 ft]] (grow (redrawn w2 d') os) fun e w'' => e = .returned (.agg #[.int .i64 N1, .int .i64 D1]) ∧ ∃ p : Regrown, w'' = grow (redrawn w2 p.d) p.os := fun d' os => Calls.regrown_of (by rw [← HN.out, ← HD.out]; exact iMerit_any S1 S2 sn sc sm sd hs ats cs T X q qc p pc gs ts xss _ (s_14.sch.below (below_regrown _ d' os) (Nat.le_refl _)) (t_14.sta.below (below_regrown _ d' os) (Nat.le_refl _)) fa ft)
      have cB : ∀ d' os, Calls Try.prog 30 #[.agg #[.slice S1 sn sc, .slice S2 sm sd], .agg #[.slice T q qc, .slice X p pc], .agg #[.int .i64 fa, .int .i64 ft]] (grow (redrawn w2 d') os) fun e w'' => e = .returned (.agg #[.int .i64 N1, .int .i64 D1]) ∧ ∃ p : Regrown, w'' = grow (redrawn w2 p.d) p.os := fun d' os => Calls.regrown_of (by rw [← HN.out, ← HD.out]; exact sMerit_any S1 S2 sn sc sm sd hs ats cs T X q qc p pc gs ts xss _ (s_14.sch.below (below_regrown _ d' os) (Nat.le_refl _)) (t_14.sta.below (below_regrown _ d' os) (Nat.le_refl _)) fa ft)
      have HA_18 := Lib.hid B_13
      refine wp_region_quiet_below (by kernel_rfl) (by kernel_rfl) ?_
      repeat (first | go_big_quiet_step (first | with_reducible exact cA _ _ | with_reducible exact cB _ _) | quiet_step (first | with_reducible exact cA _ _ | with_reducible exact cB _ _))
      refine wpQuiet_nil ?_
      intro _ hw'
      obtain ⟨⟨dq, osq⟩, hw''⟩ := hw'
      subst hw''
      have bq := below_regrown w2 dq osq
      clear cA cB clsb0_18 clsb1_18 cltb0_18 cltb1_18 clfb0_18 clfb1_18
      generalize grow (redrawn w2 dq) osq = w3 at bq ⊢
      have t_18 := bq.size
      have z_18 : w.heap.size ≤ w3.heap.size := by omega
      have s_19 := s_14.same (same_below bq (by omega))
      clear s_14
      have t_19 := t_14.same (same_below bq (by omega))
      clear t_14
      have sb_19 := sb_14.same (same_below bq (by omega))
      clear sb_14
      have tb_19 := tb_14.same (same_below bq (by omega))
      clear tb_14
      have fb_19 := fb_14.same (same_below bq (by omega))
      clear fb_14
      have B_18 := B_13.trans (bq.mono (by omega))
      clear B_13 bq
      have csb_20 := sb_19.cells
      have fsb_20 := sb_19.free
      have ctb_21 := tb_19.cells
      have ftb_21 := tb_19.free
      have cfb_22 := fb_19.cells
      have ffb_22 := fb_19.free
      go_wp2_with fail
      go_ret
      exact ⟨rfl, B_18⟩
    · have p1 : ¬ (p : Int) = 0 := by omega
      have p2 : decide ((p : Int) = 0) = false := decide_eq_false p1
      have p3 : ((p : Int) == 0) = false := beq_false_of_ne p1
      have hpp : 0 < p := by omega
      have HPn : Hid (¬ xss.length = 0) := by unfold Hid; rw [HLx.out]; exact hp0
      obtain ⟨zf, hzf⟩ : ∃ zf, forkB ats cs fa ft = zf := ⟨_, rfl⟩
      have HZf := Lib.hid hzf
      clear hzf
      go_wp2_with fail
      refine (sForkOk_any S1 S2 sn sc sm sd hs ats cs fa ft _ s_14.sch).mono ?_
      rw [HZf.out]
      rintro e w3 ⟨rfl, b⟩
      clear csb_15 fsb_15
      clear ctb_16 ftb_16
      clear cfb_17 ffb_17
      have t_18 := b.size
      have z_18 : w.heap.size ≤ w3.heap.size := by omega
      have s_19 := s_14.same (same_below b (by omega))
      clear s_14
      have t_19 := t_14.same (same_below b (by omega))
      clear t_14
      have sb_19 := sb_14.same (same_below b (by omega))
      clear sb_14
      have tb_19 := tb_14.same (same_below b (by omega))
      clear tb_14
      have fb_19 := fb_14.same (same_below b (by omega))
      clear fb_14
      have B_18 := B_13.trans (b.mono (by omega))
      clear B_13 b
      have csb_20 := sb_19.cells
      have fsb_20 := sb_19.free
      have ctb_21 := tb_19.cells
      have ftb_21 := tb_19.free
      have cfb_22 := fb_19.cells
      have ffb_22 := fb_19.free
      cases zf
      · have HM : Hid (merB ats cs ts xss fa ft = false) := by unfold Hid merB; rw [HZs.out, HZf.out, Bool.and_false]
        obtain ⟨N1, hN1⟩ : ∃ N1, merN ats cs ts xss fa ft = N1 := ⟨_, rfl⟩
        obtain ⟨D1, hD1⟩ : ∃ D1, merD ats cs ts xss fa ft = D1 := ⟨_, rfl⟩
        have HN := Lib.hid hN1; have HD := Lib.hid hD1
        clear hN1 hD1
        go_wp2_with fail
        have clsb0_23 := cell_regrown (w := w3) (a := ⟨w1.heap.size, 0, none⟩) (v := .slice S1 sn sc) (sb_19.cells 0)
        have clsb1_23 := cell_regrown (w := w3) (a := ⟨w1.heap.size, 1, none⟩) (v := .slice S2 sm sd) (sb_19.cells 1)
        have cltb0_23 := cell_regrown (w := w3) (a := ⟨w1.heap.size + 1, 0, none⟩) (v := .slice T q qc) (tb_19.cells 0)
        have cltb1_23 := cell_regrown (w := w3) (a := ⟨w1.heap.size + 1, 1, none⟩) (v := .slice X p pc) (tb_19.cells 1)
        have clfb0_23 := cell_regrown (w := w3) (a := ⟨w1.heap.size + 1 + 1, 0, none⟩) (v := .int .i64 fa) (fb_19.cells 0)
        have clfb1_23 := cell_regrown (w := w3) (a := ⟨w1.heap.size + 1 + 1, 1, none⟩) (v := .int .i64 ft) (fb_19.cells 1)
        clear csb_20 fsb_20
        clear ctb_21 ftb_21
        clear cfb_22 ffb_22
        have cA : ∀ d' os, Calls Try.prog 29 #[.agg #[.slice S1 sn sc, .slice S2 sm sd], .agg #[.slice T q qc, .slice X p pc], .agg #[.int .i64 fa, .int .i64 ft]] (grow (redrawn w3 d') os) fun e w'' => e = .returned (.agg #[.int .i64 N1, .int .i64 D1]) ∧ ∃ p : Regrown, w'' = grow (redrawn w3 p.d) p.os := fun d' os => Calls.regrown_of (by rw [← HN.out, ← HD.out]; exact iMerit_any S1 S2 sn sc sm sd hs ats cs T X q qc p pc gs ts xss _ (s_19.sch.below (below_regrown _ d' os) (Nat.le_refl _)) (t_19.sta.below (below_regrown _ d' os) (Nat.le_refl _)) fa ft)
        have cB : ∀ d' os, Calls Try.prog 30 #[.agg #[.slice S1 sn sc, .slice S2 sm sd], .agg #[.slice T q qc, .slice X p pc], .agg #[.int .i64 fa, .int .i64 ft]] (grow (redrawn w3 d') os) fun e w'' => e = .returned (.agg #[.int .i64 N1, .int .i64 D1]) ∧ ∃ p : Regrown, w'' = grow (redrawn w3 p.d) p.os := fun d' os => Calls.regrown_of (by rw [← HN.out, ← HD.out]; exact sMerit_any S1 S2 sn sc sm sd hs ats cs T X q qc p pc gs ts xss _ (s_19.sch.below (below_regrown _ d' os) (Nat.le_refl _)) (t_19.sta.below (below_regrown _ d' os) (Nat.le_refl _)) fa ft)
        have HA_23 := Lib.hid B_18
        refine wp_region_quiet_below (by kernel_rfl) (by kernel_rfl) ?_
        repeat (first | go_big_quiet_step (first | with_reducible exact cA _ _ | with_reducible exact cB _ _) | quiet_step (first | with_reducible exact cA _ _ | with_reducible exact cB _ _))
        refine wpQuiet_nil ?_
        intro _ hw'
        obtain ⟨⟨dq, osq⟩, hw''⟩ := hw'
        subst hw''
        have bq := below_regrown w3 dq osq
        clear cA cB clsb0_23 clsb1_23 cltb0_23 cltb1_23 clfb0_23 clfb1_23
        generalize grow (redrawn w3 dq) osq = w4 at bq ⊢
        have t_23 := bq.size
        have z_23 : w.heap.size ≤ w4.heap.size := by omega
        have s_24 := s_19.same (same_below bq (by omega))
        clear s_19
        have t_24 := t_19.same (same_below bq (by omega))
        clear t_19
        have sb_24 := sb_19.same (same_below bq (by omega))
        clear sb_19
        have tb_24 := tb_19.same (same_below bq (by omega))
        clear tb_19
        have fb_24 := fb_19.same (same_below bq (by omega))
        clear fb_19
        have B_23 := B_18.trans (bq.mono (by omega))
        clear B_18 bq
        have csb_25 := sb_24.cells
        have fsb_25 := sb_24.free
        have ctb_26 := tb_24.cells
        have ftb_26 := tb_24.free
        have cfb_27 := fb_24.cells
        have ffb_27 := fb_24.free
        go_wp2_with fail
        go_ret
        exact ⟨rfl, B_23⟩
      · have HMb : Hid (merB ats cs ts xss fa ft = true) := by unfold Hid merB; rw [HZs.out, HZf.out, decide_eq_true HPn.out]; rfl
        have hm23 := (mer_row HMb.out).2.2.2.1
        rw [HLc.out] at hm23
        have hqs : q = sm := by rw [← HLt.out, ← HLc.out]; exact (mer_row HMb.out).2.2.2.2.1
        have HQS := Lib.hid hqs
        have hq0 : 0 < q ∧ q ≤ 3 := by omega
        have hm0 : 0 < sm ∧ sm ≤ 3 := by omega
        clear hqs
        have hts := (mer_row HMb.out).2.2.2.2.2.1
        have hbd : ∀ k, 0 ≤ ts.getD k 0 ∧ ts.getD k 0 ≤ 999 := fun k => getD_bd (stats_bad HZs.out).1 k
        have HBd := Lib.hid hbd
        have HBx : Hid (∀ r k, 0 ≤ (xss.getD r []).getD k 0 ∧ (xss.getD r []).getD k 0 ≤ 999) := fun r k => getD_bd ((stats_bad HZs.out).2 r) k
        have HTs := Lib.hid hts
        clear hts hbd
        obtain ⟨SM, hSM⟩ : ∃ SM, ts.sum = SM := ⟨_, rfl⟩
        have HSM := Lib.hid hSM
        clear hSM
        go_wp2_with fail
        refine (sStatsTotal_any S1 S2 sn sc sm sd hs ats cs T X q qc p pc gs ts xss _ s_19.sch t_19.sta HZs.out).mono ?_
        rw [HSM.out]
        rintro e w4 ⟨rfl, b⟩
        clear csb_20 fsb_20
        clear ctb_21 ftb_21
        clear cfb_22 ffb_22
        have t_23 := b.size
        have z_23 : w.heap.size ≤ w4.heap.size := by omega
        have s_24 := s_19.same (same_below b (by omega))
        clear s_19
        have t_24 := t_19.same (same_below b (by omega))
        clear t_19
        have sb_24 := sb_19.same (same_below b (by omega))
        clear sb_19
        have tb_24 := tb_19.same (same_below b (by omega))
        clear tb_19
        have fb_24 := fb_19.same (same_below b (by omega))
        clear fb_19
        have B_23 := B_18.trans (b.mono (by omega))
        clear B_18 b
        have csb_25 := sb_24.cells
        have fsb_25 := sb_24.free
        have ctb_26 := tb_24.cells
        have ftb_26 := tb_24.free
        have cfb_27 := fb_24.cells
        have ffb_27 := fb_24.free
        by_cases hsm5 : (499 : Int) < SM
        · have s2 : decide ((499 : Int) < SM) = true := decide_eq_true hsm5
          obtain ⟨N1, hN1⟩ : ∃ N1, merN ats cs ts xss fa ft = N1 := ⟨_, rfl⟩
          obtain ⟨D1, hD1⟩ : ∃ D1, merD ats cs ts xss fa ft = D1 := ⟨_, rfl⟩
          have HN := Lib.hid hN1; have HD := Lib.hid hD1
          clear hN1 hD1
          go_wp2_with fail
          have clsb0_28 := cell_regrown (w := w4) (a := ⟨w1.heap.size, 0, none⟩) (v := .slice S1 sn sc) (sb_24.cells 0)
          have clsb1_28 := cell_regrown (w := w4) (a := ⟨w1.heap.size, 1, none⟩) (v := .slice S2 sm sd) (sb_24.cells 1)
          have cltb0_28 := cell_regrown (w := w4) (a := ⟨w1.heap.size + 1, 0, none⟩) (v := .slice T q qc) (tb_24.cells 0)
          have cltb1_28 := cell_regrown (w := w4) (a := ⟨w1.heap.size + 1, 1, none⟩) (v := .slice X p pc) (tb_24.cells 1)
          have clfb0_28 := cell_regrown (w := w4) (a := ⟨w1.heap.size + 1 + 1, 0, none⟩) (v := .int .i64 fa) (fb_24.cells 0)
          have clfb1_28 := cell_regrown (w := w4) (a := ⟨w1.heap.size + 1 + 1, 1, none⟩) (v := .int .i64 ft) (fb_24.cells 1)
          clear csb_25 fsb_25
          clear ctb_26 ftb_26
          clear cfb_27 ffb_27
          have cA : ∀ d' os, Calls Try.prog 29 #[.agg #[.slice S1 sn sc, .slice S2 sm sd], .agg #[.slice T q qc, .slice X p pc], .agg #[.int .i64 fa, .int .i64 ft]] (grow (redrawn w4 d') os) fun e w'' => e = .returned (.agg #[.int .i64 N1, .int .i64 D1]) ∧ ∃ p : Regrown, w'' = grow (redrawn w4 p.d) p.os := fun d' os => Calls.regrown_of (by rw [← HN.out, ← HD.out]; exact iMerit_any S1 S2 sn sc sm sd hs ats cs T X q qc p pc gs ts xss _ (s_24.sch.below (below_regrown _ d' os) (Nat.le_refl _)) (t_24.sta.below (below_regrown _ d' os) (Nat.le_refl _)) fa ft)
          have cB : ∀ d' os, Calls Try.prog 30 #[.agg #[.slice S1 sn sc, .slice S2 sm sd], .agg #[.slice T q qc, .slice X p pc], .agg #[.int .i64 fa, .int .i64 ft]] (grow (redrawn w4 d') os) fun e w'' => e = .returned (.agg #[.int .i64 N1, .int .i64 D1]) ∧ ∃ p : Regrown, w'' = grow (redrawn w4 p.d) p.os := fun d' os => Calls.regrown_of (by rw [← HN.out, ← HD.out]; exact sMerit_any S1 S2 sn sc sm sd hs ats cs T X q qc p pc gs ts xss _ (s_24.sch.below (below_regrown _ d' os) (Nat.le_refl _)) (t_24.sta.below (below_regrown _ d' os) (Nat.le_refl _)) fa ft)
          have HA_28 := Lib.hid B_23
          refine wp_region_quiet_below (by kernel_rfl) (by kernel_rfl) ?_
          repeat (first | go_big_quiet_step (first | with_reducible exact cA _ _ | with_reducible exact cB _ _) | quiet_step (first | with_reducible exact cA _ _ | with_reducible exact cB _ _))
          refine wpQuiet_nil ?_
          intro _ hw'
          obtain ⟨⟨dq, osq⟩, hw''⟩ := hw'
          subst hw''
          have bq := below_regrown w4 dq osq
          clear cA cB clsb0_28 clsb1_28 cltb0_28 cltb1_28 clfb0_28 clfb1_28
          generalize grow (redrawn w4 dq) osq = w5 at bq ⊢
          have t_28 := bq.size
          have z_28 : w.heap.size ≤ w5.heap.size := by omega
          have s_29 := s_24.same (same_below bq (by omega))
          clear s_24
          have t_29 := t_24.same (same_below bq (by omega))
          clear t_24
          have sb_29 := sb_24.same (same_below bq (by omega))
          clear sb_24
          have tb_29 := tb_24.same (same_below bq (by omega))
          clear tb_24
          have fb_29 := fb_24.same (same_below bq (by omega))
          clear fb_24
          have B_28 := B_23.trans (bq.mono (by omega))
          clear B_23 bq
          have csb_30 := sb_29.cells
          have fsb_30 := sb_29.free
          have ctb_31 := tb_29.cells
          have ftb_31 := tb_29.free
          have cfb_32 := fb_29.cells
          have ffb_32 := fb_29.free
          go_wp2_with fail
          go_ret
          exact ⟨rfl, B_28⟩
        · have s2 : decide ((499 : Int) < SM) = false := decide_eq_false hsm5
          have HSM5 : Hid (ts.sum ≤ 499) := by unfold Hid; rw [HSM.out]; omega
          clear csb_25 fsb_25
          clear ctb_26 ftb_26
          clear cfb_27 ffb_27
          have s_28 := s_24.same (same_alloc (.cells #[.slice none 0 0, .slice none 0 0] 35) (by omega))
          clear s_24
          have t_28 := t_24.same (same_alloc (.cells #[.slice none 0 0, .slice none 0 0] 35) (by omega))
          clear t_24
          have sb_28 := sb_24.same (same_alloc (.cells #[.slice none 0 0, .slice none 0 0] 35) (by omega))
          clear sb_24
          have tb_28 := tb_24.same (same_alloc (.cells #[.slice none 0 0, .slice none 0 0] 35) (by omega))
          clear tb_24
          have fb_28 := fb_24.same (same_alloc (.cells #[.slice none 0 0, .slice none 0 0] 35) (by omega))
          clear fb_24
          have ub_29 : Bx (w4.alloc (.cells #[.slice none 0 0, .slice none 0 0] 35)) (w4.heap.size) 35 #[.slice none 0 0, .slice none 0 0] := Bx.new _ _ _
          have B_29 := B_23.alloc z_23 (.cells #[.slice none 0 0, .slice none 0 0] 35)
          clear B_23
          have csb_30 := sb_28.cells
          have fsb_30 := sb_28.free
          have ctb_31 := tb_28.cells
          have ftb_31 := tb_28.free
          have cfb_32 := fb_28.cells
          have ffb_32 := fb_28.free
          have cub_33 := ub_29.cells
          have fub_33 := ub_29.free
          go_wp2_with fail
          clear csb_30 fsb_30
          clear ctb_31 ftb_31
          clear cfb_32 ffb_32
          clear cub_33 fub_33
          obtain ⟨v34, hv34⟩ : ∃ v34, v34 = (w4.alloc (.cells #[.slice none 0 0, .slice none 0 0] 35)) := ⟨_, rfl⟩
          have zv34 : w4.heap.size + 1 ≤ v34.heap.size := by rw [hv34]; simp
          rw [← hv34] at s_28 t_28 sb_28 tb_28 fb_28 ub_29 B_29 ⊢
          clear hv34
          have z_35 : w.heap.size ≤ v34.heap.size := by omega
          have csb_36 := sb_28.cells
          have fsb_36 := sb_28.free
          have ctb_37 := tb_28.cells
          have ftb_37 := tb_28.free
          have cfb_38 := fb_28.cells
          have ffb_38 := fb_28.free
          have cub_39 := ub_29.cells
          have fub_39 := ub_29.free
          clear csb_36 fsb_36
          clear ctb_37 ftb_37
          clear cfb_38 ffb_38
          clear cub_39 fub_39
          obtain ⟨BU, hBU⟩ : ∃ BU, BU = w4.heap.size := ⟨_, rfl⟩
          rw [← hBU] at ub_29 ⊢
          have hb1 : w1.heap.size + 3 ≤ BU := by omega
          have hbv := ub_29.lt
          have HAc := Lib.hid B_29
          have HUb0 := Lib.hid ub_29
          have HS := Lib.hid s_28; have HT := Lib.hid t_28; have HSb := Lib.hid sb_28; have HTb := Lib.hid tb_28; have HFb := Lib.hid fb_28
          clear s_28 t_28 sb_28 tb_28 fb_28 ub_29 B_29 hBU p1 p2 p3 hp0 s2 hsm5
          obtain ⟨b1, o1, rfl, hbl1, hc1⟩ := HT.out.tot.rd.ex hq0.1
          have hf1 := HT.out.tot.far hq0.1 _ rfl
          obtain ⟨b2, o2, rfl, hbl2, hc2⟩ := HT.out.hd.rd.ex (by omega)
          have hf2 := HT.out.hd.far (by omega) _ rfl
          dsimp only at hf1 hf2
          have HC1 := Lib.hid hc1; have HC2 := Lib.hid hc2
          clear hc1 hc2 hbl1 hbl2
          obtain ⟨i1, hi0, hz0, hz1, hz2⟩ := info_parts info_int
          have HQ := Lib.hid hi0; have HQ0 := Lib.hid hz0; have HQ1 := Lib.hid hz1; have HQ2 := Lib.hid hz2
          clear hi0 hz0 hz1 hz2
          obtain ⟨i0, hi0, hz0, hz1, hz2⟩ := info_parts info_IntSS
          have HJ := Lib.hid hi0; have HJ0 := Lib.hid hz0; have HJ1 := Lib.hid hz1; have HJ2 := Lib.hid hz2
          clear hi0 hz0 hz1 hz2
          go_loopw [7] (fun s8 wr => ∃ (i : Nat) (T2 : Option Addr) (c2 : Nat), i ≤ q ∧ s8 = .int .i64 i ∧ Bx wr BU 35 #[.slice T2 i c2, .slice none 0 0] ∧ Ow 3 (BU + 1) wr.heap.size wr T2 i c2 (rowV i (sclF ts)) ∧ Below BU v34 wr) (fun s8 _ => q - (intOf s8).toNat)
          case atStart => exact ⟨0, none, 0, Nat.zero_le _, rfl, HUb0.out, ⟨World.ownsRow_nil _ _ _ _, by intro k hk; cases hk⟩, Below.refl _ _⟩
          case round =>
            clear HUb0
            obtain ⟨i, T2, c2, hi_, rfl, hub, how, hbel⟩ := hrel
            obtain ⟨wo, rfl⟩ : ∃ wo : World, wo = wr := ⟨_, rfl⟩
            have hlu := hub.lt
            have HUb := Lib.hid hub; have HOw := Lib.hid how; have HBel := Lib.hid hbel
            clear hub how hbel
            by_cases hlt : i < q
            · have hlti : (i : Int) < (q : Int) := by omega
              have j3 : (0 : Int) ≤ (i : Int) := Int.natCast_nonneg _
              have hJq : i < q := by omega
              have j4 : (i : Int) < (q : Int) := by omega
              obtain ⟨x, hx⟩ : ∃ x, ts.getD i 0 = x := ⟨_, rfl⟩
              have hxb := HBd.out i
              rw [hx] at hxb
              obtain ⟨y, hy⟩ : ∃ y, 2 * x = y := ⟨_, rfl⟩
              have hxv : sclF ts i = y := by show 2 * ts.getD i 0 = y; rw [hx, hy]
              have j5 : IntKind.i64.wrap (2 * x) = y := by rw [hy]; exact IntWalk.i64_in _ (by omega)
              have q1 := HC1.out i (.int .i64 x) (by rw [List.getElem?_map, show ts[i]? = some x by rw [← hx]; simp [List.getD, show i < ts.length by have := HLt.out; omega]]; rfl)
              have q2 := (HBel.out.cell (p := ⟨b1, o1 + i, none⟩) (show b1 < BU by omega)).trans q1
              have HRow : Hid (∀ j, (Value.slice T2 i c2).ownBlock = some j → BU + 1 ≤ j ∧ j < wo.heap.size) := fun j hj => ⟨(HOw.out.own.lt j hj).1, HOw.out.top j hj⟩
              have HTb2 := Lib.hid (HTb.out.same (same_below HBel.out (by omega)))
              have HKe : Hid (∀ w' : World, wo.grownBy w' (Value.slice T2 i c2).ownBlock → w'.cell? ⟨BU, 0, none⟩ = some (.slice T2 i c2) ∧ w'.frozen? ⟨BU, 0, none⟩ = false ∧ w'.cell? ⟨w1.heap.size + 1, 0, none⟩ = some (.slice (some ⟨b1, o1, none⟩) q qc) ∧ w'.cell? ⟨b1, o1 + i, none⟩ = some (.int .i64 x)) := fun w' hk => by
                have e1 := HUb.out.keep (Keeps.grown hk (P := fun j => j = BU) (fun j hj e => by have := HRow.out j e; omega)) rfl
                have e2 := HTb2.out.keep (Keeps.grown hk (P := fun j => j = w1.heap.size + 1) (fun j hj e => by have := HRow.out j e; omega)) rfl
                exact ⟨e1.cells 0, e1.free 0, e2.cells 0, (cell_grown hk (by omega) (fun e => by have := HRow.out b1 e.symm; omega)).trans q2⟩
              have HQ2_ := Lib.hid q2
              have c0 := HUb.out.cells 0; have c3 := HTb2.out.cells 0
              simp at c0 c3
              have HXv := Lib.hid hxv
              clear hx q1 hxv hy
              go_upto_region 10 with fail
              refine wp_region_last (n := 11) (S := fun w' => w'.cell? ⟨BU, 0, none⟩ = some (.slice T2 i c2) ∧ w'.frozen? ⟨BU, 0, none⟩ = false ∧ w'.cell? ⟨w1.heap.size + 1, 0, none⟩ = some (.slice (some ⟨b1, o1, none⟩) q qc) ∧ w'.cell? ⟨b1, o1 + i, none⟩ = some (.int .i64 x)) (by kernel_rfl) rfl (by kernel_rfl) (HKe.out _ (grown_drew _)) ?_
              intro hS; (try dsimp only at hS)
              simp only [List.take_succ_cons, List.take_zero, List.getElem_toArray, List.getElem_cons_succ, List.getElem_cons_zero]
              refine wpAnyH_take (i := 0) (v := ?v1x) rfl (by kernel_rfl) (by kernel_rfl) (by kernel_rfl) (fun _ _ _ h => h) (Or.inl ⟨by rfl, ?hy1x⟩) hS ?rest1x
              case hy1x => (intro w' hSw; (try dsimp only at hSw); go_simp; (try (with_reducible rfl)))
              (try simp only [Act.put, List.setIfInBounds_toArray, List.set_cons_zero, List.set_cons_succ, List.getElem_toArray, List.getElem_cons_succ, List.getElem_cons_zero])
              refine wpAnyH_take (i := 1) (v := ?v2x) rfl (by kernel_rfl) (by kernel_rfl) (by kernel_rfl) (fun _ _ _ h => h) (Or.inl ⟨by rfl, ?hy2x⟩) hS ?rest2x
              case hy2x => (intro w' hSw; (try dsimp only at hSw); go_simp; (try (with_reducible rfl)))
              (try simp only [Act.put, List.setIfInBounds_toArray, List.set_cons_zero, List.set_cons_succ, List.getElem_toArray, List.getElem_cons_succ, List.getElem_cons_zero])
              refine wpAnyH_take (i := 2) (v := ?v3x) rfl (by kernel_rfl) (by kernel_rfl) (by kernel_rfl) (fun _ _ _ h => h) (Or.inl ⟨by rfl, ?hy3x⟩) hS ?rest3x
              case hy3x => (intro w' hSw; (try dsimp only at hSw); go_simp; (try (with_reducible rfl)))
              (try simp only [Act.put, List.setIfInBounds_toArray, List.set_cons_zero, List.set_cons_succ, List.getElem_toArray, List.getElem_cons_succ, List.getElem_cons_zero])
              refine wpAnyH_take (i := 3) (v := ?v4x) rfl (by kernel_rfl) (by kernel_rfl) (by kernel_rfl) (fun _ _ _ h => h) (Or.inl ⟨by rfl, ?hy4x⟩) hS ?rest4x
              case hy4x => (intro w' hSw; (try dsimp only at hSw); go_simp; (try (with_reducible rfl)))
              (try simp only [Act.put, List.setIfInBounds_toArray, List.set_cons_zero, List.set_cons_succ, List.getElem_toArray, List.getElem_cons_succ, List.getElem_cons_zero])
              refine wpAnyH_take (i := 4) (v := ?v5x) rfl (by kernel_rfl) (by kernel_rfl) (by kernel_rfl) (fun _ _ _ h => h) (Or.inl ⟨by rfl, ?hy5x⟩) hS ?rest5x
              case hy5x => (intro w' hSw; (try dsimp only at hSw); go_simp; (try (with_reducible rfl)))
              (try simp only [Act.put, List.setIfInBounds_toArray, List.set_cons_zero, List.set_cons_succ, List.getElem_toArray, List.getElem_cons_succ, List.getElem_cons_zero])
              refine wpAnyH_take (i := 5) (v := ?v6x) rfl (by kernel_rfl) (by kernel_rfl) (by kernel_rfl) (fun _ _ _ h => h) (Or.inl ⟨by rfl, ?hy6x⟩) hS ?rest6x
              case hy6x => (intro w' hSw; (try dsimp only at hSw); go_simp; (try (with_reducible rfl)))
              (try simp only [Act.put, List.setIfInBounds_toArray, List.set_cons_zero, List.set_cons_succ, List.getElem_toArray, List.getElem_cons_succ, List.getElem_cons_zero])
              refine wpAnyH_take (i := 6) (v := ?v7x) rfl (by kernel_rfl) (by kernel_rfl) (by kernel_rfl) (fun _ _ _ h => h) (Or.inl ⟨by rfl, ?hy7x⟩) hS ?rest7x
              case hy7x => (intro w' hSw; (try dsimp only at hSw); go_simp; (try (with_reducible rfl)))
              (try simp only [Act.put, List.setIfInBounds_toArray, List.set_cons_zero, List.set_cons_succ, List.getElem_toArray, List.getElem_cons_succ, List.getElem_cons_zero])
              refine wpAnyH_take (i := 7) (v := ?v8x) rfl (by kernel_rfl) (by kernel_rfl) (by kernel_rfl) (fun _ _ _ h => h) (Or.inl ⟨by rfl, ?hy8x⟩) hS ?rest8x
              case hy8x => (intro w' hSw; (try dsimp only at hSw); go_simp; (try (with_reducible rfl)))
              (try simp only [Act.put, List.setIfInBounds_toArray, List.set_cons_zero, List.set_cons_succ, List.getElem_toArray, List.getElem_cons_succ, List.getElem_cons_zero])
              refine wpAnyH_ready (rs := [8]) (by kernel_rfl) (by simp) ?_
              refine AllReadyH.cons rfl (fun K hK => ?_) AllReadyH.nil
              (try dsimp only [List.getElem_toArray, List.getElem_cons_succ, List.getElem_cons_zero])
              go_simp
              refine hK.out _ _ (HKe.out _ ((grown_drew _).trans (grown_alloc _ _))) (fun hS9 => ?_)
              clear hK K hS; have hS := hS9; clear hS9; (try dsimp only at hS)
              (try simp only [Act.put, List.setIfInBounds_toArray, List.set_cons_zero, List.set_cons_succ, List.getElem_toArray, List.getElem_cons_succ, List.getElem_cons_zero])
              refine wpAnyH_ready (rs := [9]) (by kernel_rfl) (by simp) ?_
              refine AllReadyH.cons rfl (fun K hK => ?_) AllReadyH.nil
              (try dsimp only [List.getElem_toArray, List.getElem_cons_succ, List.getElem_cons_zero])
              (rw [if_pos (by rfl)]; refine wp_append_lies _ _ _ _ (by rfl) (BU + 1) 3 i1 _ 1 8 Try.underlying26 HQ.out HQ0.out HQ1.out HQ2.out rfl (by omega) _ (i) (rowV i (sclF ts)) (by rfl) (HOw.out.own.alloc _) ⟨wo.heap.size, 0, none⟩ 1 1 [.int .i64 y] (by rfl) (by rfl) (World.news_of_block (cs := #[.int .i64 y]) (t := 3) (fr := (0, 0)) (heap_alloc_new wo _)) (by simp [Value.oneCell']) (by omega) (by simp only [maxLen]; omega) (by omega) (by simp only [World.size_alloc, World.size_drew]; omega) (wo.heap.size + 1) (by first | rfl | simp) ?_; intro g7 cap7 u6 hown7 hgrow7 hat7 hlt7)
              have hg7 : wo.grownBy u6 (Value.slice T2 i c2).ownBlock := ((grown_drew _).trans (grown_alloc _ _)).trans hgrow7
              refine hK.out _ _ (HKe.out _ hg7) (fun hS9 => ?_)
              clear hK K hS; have hS := hS9; clear hS9; (try dsimp only at hS)
              (try simp only [Act.put, List.setIfInBounds_toArray, List.set_cons_zero, List.set_cons_succ, List.getElem_toArray, List.getElem_cons_succ, List.getElem_cons_zero])
              refine wpAnyH_take (i := 10) (v := ?v9x) rfl (by kernel_rfl) (by kernel_rfl) (by kernel_rfl) (fun _ _ _ h => h) (Or.inl ⟨by rfl, ?hy9x⟩) hS ?rest9x
              case hy9x => (intro w' hSw; (try dsimp only at hSw); go_simp; (try (with_reducible rfl)))
              (try simp only [Act.put, List.setIfInBounds_toArray, List.set_cons_zero, List.set_cons_succ, List.getElem_toArray, List.getElem_cons_succ, List.getElem_cons_zero])
              refine wpAnyH_done (by kernel_rfl) ?_ _
              refine fun K hK => ?_
              go_simp
              refine hK.out _ _ ?_
              clear hK K
              have hu6 := HUb.out.keep (Keeps.grown hg7 (P := fun j => j = BU) (fun j hj e => by have := HRow.out j e; omega)) rfl
              have HB2 := Lib.hid (hu6.set_ 0 (.slice (some ⟨g7, 0, none⟩) (i + 1) cap7))
              have HB9 := Lib.hid (app_below (b := BU) (i := 0) (B := BU) (x := .slice (some ⟨g7, 0, none⟩) (i + 1) cap7) hg7 (by omega) (fun j hj => by have := HRow.out j hj; omega) (Nat.le_refl _))
              have HOw9 : Hid (Ow 3 (BU + 1) (u6.setCell ⟨BU, 0, none⟩ (.slice (some ⟨g7, 0, none⟩) (i + 1) cap7)).heap.size (u6.setCell ⟨BU, 0, none⟩ (.slice (some ⟨g7, 0, none⟩) (i + 1) cap7)) (some ⟨g7, 0, none⟩) (i + 1) cap7 (rowV (i + 1) (sclF ts))) := Ow.of (by rw [rowV_succ, HXv.out]; exact own_keep hown7 (Keeps.set (P := fun j => j ≠ BU) (b := BU) (i := 0) (u := .slice (some ⟨g7, 0, none⟩) (i + 1) cap7) (by simp)) (fun j hj _ => by omega))
              clear hown7 hgrow7 hat7 hg7 hu6
              go_wp2_with fail
              go_roundw
              case rel => exact ⟨i + 1, some ⟨g7, 0, none⟩, cap7, by omega, by go_num, HB2.out, HOw9.out, HBel.out.trans HB9.out⟩
              case measure => simp [intOf]; omega
            · have hie : i = q := by omega
              have hni : ¬ (i : Int) < (q : Int) := by omega
              have HUb1 : Hid (Bx wo BU 35 #[.slice T2 q c2, .slice none 0 0]) := by have h := HUb.out; rw [hie] at h; exact h
              have HOw1 : Hid (Ow 3 (BU + 1) wo.heap.size wo T2 q c2 (rowV q (sclF ts))) := by have h := HOw.out; rw [hie] at h; exact h
              have HTb2 := Lib.hid (HTb.out.same (same_below HBel.out (by omega)))
              have c3 := HTb2.out.cells 0
              simp at c3
              clear hie HUb HOw
              go_wp2_with fail
              clear hni c3
              obtain ⟨MID, hMID⟩ : ∃ MID, MID = wo.heap.size := ⟨_, rfl⟩
              rw [← hMID] at HOw1
              have hmid : BU < MID := by omega
              have hmid2 : MID ≤ wo.heap.size := by omega
              clear hMID
              go_loopw [8] (fun s9 wr => ∃ (a : Nat) (X2 : Option Addr) (d2 : Nat) (gs2 : List Hd), a ≤ p ∧ s9 = .int .i64 a ∧ MID ≤ wr.heap.size ∧ Bx wr BU 35 #[.slice T2 q c2, .slice X2 a d2] ∧ Ow 3 (BU + 1) MID wr T2 q c2 (rowV q (sclF ts)) ∧ OwSS MID wr.heap.size wr X2 a d2 gs2 ((xss.take a).map fun r => rowV r.length (sclF (r))) ∧ Below BU v34 wr) (fun s9 _ => p - (intOf s9).toNat)
              case atStart => exact ⟨0, none, 0, [], Nat.zero_le _, rfl, hmid2, HUb1.out, HOw1.out, OwSS.nil _ _ _, HBel.out⟩
              case round =>
                clear HUb1 HOw1 HBel HTb2 hlt
                obtain ⟨a, X2, d2, gs2, ha_, rfl, hms, hub, how, hss, hbel⟩ := hrel
                obtain ⟨w2, rfl⟩ : ∃ w2 : World, w2 = wr := ⟨_, rfl⟩
                have hlu := hub.lt
                have HUb := Lib.hid hub; have HOw := Lib.hid how; have HBel := Lib.hid hbel; have HSs := Lib.hid hss
                clear hub how hbel hss
                have HTb2 := Lib.hid (HTb.out.same (same_below HBel.out (by omega)))
                by_cases hlt : a < p
                · have hlti : (a : Int) < (p : Int) := by omega
                  have a0 : (0 : Int) ≤ (a : Int) := Int.natCast_nonneg _
                  have hgl : gs.length = p := by have := HT.out.hd.rd.len; simpa using this
                  obtain ⟨⟨xa, xn, xc⟩, hg⟩ : ∃ h, gs[a]? = some h := ⟨_, List.getElem?_eq_getElem (by omega)⟩
                  obtain ⟨row, hrw⟩ : ∃ r, xss[a]? = some r := ⟨_, List.getElem?_eq_getElem (by have := HLx.out; omega)⟩
                  have hrow := HT.out.row a _ row hg hrw
                  dsimp only at hrow
                  have hRl : row.length = xn := by have := hrow.rd.len; simpa using this
                  have HRl := Lib.hid hRl
                  clear hRl
                  have hxn : xn ≤ 128 := by rw [← HRl.out]; exact HT.out.hx row (List.mem_of_getElem? hrw)
                  have q1 := HC2.out a (.slice xa xn xc) (by rw [List.getElem?_map, hg]; rfl)
                  have HRow := Lib.hid hrow; have HRw := Lib.hid hrw
                  have HC2a := Lib.hid q1
                  have q2 := (HBel.out.cell (p := ⟨b2, o2 + a, none⟩) (show b2 < BU by omega)).trans q1
                  have c3 := HTb2.out.cells 1
                  simp at c3
                  clear hgl hg hrw hrow q1
                  go_wp2_with fail
                  obtain ⟨LR, hLR⟩ : ∃ LR, LR = w2.heap.size := ⟨_, rfl⟩
                  obtain ⟨u, hu⟩ : ∃ u, u = w2.alloc (.cells #[] 3) := ⟨_, rfl⟩
                  rw [← hu, ← hLR]
                  have hul : u.heap.size = LR + 1 := by rw [hu, World.size_alloc, hLR]
                  have HNb : Hid (Ow 3 LR u.heap.size u (some ⟨LR, 0, none⟩) 0 0 []) := by rw [hu, hLR]; exact Ow.of_bx0 (Bx.new _ _ _) (Nat.le_refl _) (by rw [World.size_alloc]; omega)
                  have HBu : Hid (Below LR w2 u) := by rw [hu, hLR]; exact (Below.refl _ _).alloc (Nat.le_refl _) _
                  have hLm : MID ≤ LR := by omega
                  have hLu : LR < u.heap.size := by omega
                  have hLw : LR ≤ w2.heap.size := by omega
                  have HSs2 : Hid (OwSS MID LR w2 X2 a d2 gs2 ((xss.take a).map fun r => rowV r.length (sclF (r)))) := by rw [hLR]; exact HSs.out
                  clear hu hLR hul q2 c3 HSs
                  go_loopw [9, 10] (fun s10 s11 wr => ∃ (i3 : Nat) (A3 : Option Addr) (c3 : Nat), i3 ≤ xn ∧ s10 = .slice A3 i3 c3 ∧ s11 = .int .i64 i3 ∧ Ow 3 LR wr.heap.size wr A3 i3 c3 (rowV i3 (sclF (row))) ∧ Below LR u wr) (fun _ s11 _ => xn - (intOf s11).toNat)
                  case atStart => exact ⟨0, some ⟨LR, 0, none⟩, 0, Nat.zero_le _, rfl, rfl, HNb.out, Below.refl _ _⟩
                  case round =>
                    clear HNb
                    obtain ⟨i3, A3, c3, hi3, rfl, rfl, ho3, hb3⟩ := hrel
                    obtain ⟨wq, rfl⟩ : ∃ wq : World, wq = wr := ⟨_, rfl⟩
                    have hzq := hb3.size
                    have HO3 := Lib.hid ho3; have HB3 := Lib.hid hb3
                    clear ho3 hb3
                    have HBq : Hid (Below LR w2 wq) := HBu.out.trans HB3.out
                    have HBv : Hid (Below BU v34 wq) := HBel.out.trans (HBq.out.mono (by omega))
                    have HTb3 := Lib.hid (HTb.out.same (same_below HBv.out (by omega)))
                    have HUb3 := Lib.hid (HUb.out.same (same_below HBq.out (by omega)))
                    have q2 := (HBv.out.cell (p := ⟨b2, o2 + a, none⟩) (show b2 < BU by omega)).trans HC2a.out
                    have k3 := HTb3.out.cells 1
                    simp at k3
                    by_cases hl3 : i3 < xn
                    · have hl3i : (i3 : Int) < (xn : Int) := by omega
                      obtain ⟨b3, o3, rfl, hbl3, hc3⟩ := HRow.out.rd.ex (by omega)
                      have hf3 := HRow.out.far (by omega) _ rfl
                      dsimp only at hf3
                      have j7 : (0 : Int) ≤ (i3 : Int) := Int.natCast_nonneg _
                      have hJx : i3 < xn := by omega
                      have j8 : (i3 : Int) < (xn : Int) := by omega
                      obtain ⟨x, hx⟩ : ∃ x, row.getD i3 0 = x := ⟨_, rfl⟩
                      have hxb := HBx.out a i3
                      rw [show xss.getD a [] = row by simp [List.getD, HRw.out], hx] at hxb
                      obtain ⟨y, hy⟩ : ∃ y, 2 * x = y := ⟨_, rfl⟩
                      have HXv : Hid (sclF row i3 = y) := by show 2 * row.getD i3 0 = y; rw [hx, hy]
                      have j5 : IntKind.i64.wrap (2 * x) = y := by rw [hy]; exact IntWalk.i64_in _ (by omega)
                      have q3 := (HBv.out.cell (p := ⟨b3, o3 + i3, none⟩) (show b3 < BU by omega)).trans (hc3 i3 (.int .i64 x) (by rw [List.getElem?_map, show row[i3]? = some x by rw [← hx]; simp [List.getD, show i3 < row.length by have := HRl.out; omega]]; rfl))
                      have HRw3 : Hid (∀ j, (Value.slice A3 i3 c3).ownBlock = some j → LR ≤ j ∧ j < wq.heap.size) := fun j hj => ⟨(HO3.out.own.lt j hj).1, HO3.out.top j hj⟩
                      have HKe : Hid (∀ w' : World, wq.grownBy w' (Value.slice A3 i3 c3).ownBlock → w'.cell? ⟨w1.heap.size + 1, 1, none⟩ = some (.slice (some ⟨b2, o2, none⟩) p pc) ∧ w'.cell? ⟨b2, o2 + a, none⟩ = some (.slice (some ⟨b3, o3, none⟩) xn xc) ∧ w'.cell? ⟨b3, o3 + i3, none⟩ = some (.int .i64 x)) := fun w' hk => by
                        have e2 := HTb3.out.keep (Keeps.grown hk (P := fun j => j = w1.heap.size + 1) (fun j hj e => by have := HRw3.out j e; omega)) rfl
                        exact ⟨e2.cells 1, (cell_grown hk (by omega) (fun e => by have := HRw3.out b2 e.symm; omega)).trans q2, (cell_grown hk (by omega) (fun e => by have := HRw3.out b3 e.symm; omega)).trans q3⟩
                      clear hx hc3 hbl3 hy
                      skip
                      go_wp2_with (at_builtin; refine wpList_append_lies _ rfl _ _ 26 rfl LR 3 i1 (.int .i64 0) 1 8 Try.underlying26 HQ.out HQ0.out HQ1.out HQ2.out rfl (by decide) (.slice A3 i3 c3) i3 (rowV i3 (sclF (row))) rfl (HO3.out.own.alloc _) ⟨wq.heap.size, 0, none⟩ 1 1 [.int .i64 y] rfl rfl (cell_one_new _ _ _) ?c2 (by omega) ?c3 ?c4 ?c5 _ rfl ?_)
                      case c2 => first | rfl | (intro u hu; simp at hu; subst hu; rfl)
                      case c3 => unfold maxLen; omega
                      case c4 => omega
                      case c5 => first | omega | (simp only [World.size_alloc]; omega)
                      intro g7 cap7 u6 hown7 hgrow7 hat7 hlt7
                      have hg7 : wq.grownBy u6 (Value.slice A3 i3 c3).ownBlock := (grown_alloc _ _).trans hgrow7
                      have HO9 : Hid (Ow 3 LR u6.heap.size u6 (some ⟨g7, 0, none⟩) (i3 + 1) cap7 (rowV (i3 + 1) (sclF (row)))) := Ow.of (by rw [rowV_succ, HXv.out]; exact hown7)
                      have HB9 : Hid (Below LR u u6) := HB3.out.trans (below_of_grown hg7 (by omega) (fun j hj => (HRw3.out j hj).1))
                      clear hown7 hgrow7 hat7 hg7
                      go_wp2_with fail
                      go_roundw
                      case rel => exact ⟨i3 + 1, some ⟨g7, 0, none⟩, cap7, by omega, rfl, by go_num, HO9.out, HB9.out⟩
                      case measure => simp [intOf]; omega
                    · have hie : i3 = xn := by omega
                      have hni : ¬ (i3 : Int) < (xn : Int) := by omega
                      have HO4 : Hid (Ow 3 LR wq.heap.size wq A3 xn c3 (rowV row.length (sclF (row)))) := by rw [HRl.out, ← hie]; exact HO3.out
                      have hvl : Value.slice A3 i3 c3 = Value.slice A3 xn c3 := by rw [hie]
                      rw [hvl]
                      have HSs3 : Hid (OwSS MID LR wq X2 a d2 gs2 ((xss.take a).map fun r => rowV r.length (sclF (r)))) := HSs2.out.same (same_below HBq.out (by omega))
                      have HOw3 : Hid (Ow 3 (BU + 1) MID wq T2 q c2 (rowV q (sclF ts))) := HOw.out.same (same_below HBq.out (by omega))
                      have HRX : Hid (∀ j, (Value.slice X2 a d2).ownBlock = some j → MID ≤ j ∧ j < LR) := fun j hj => ⟨(HSs3.out.hd.own.lt j hj).1, HSs3.out.hd.top j hj⟩
                      have k0 := HUb3.out.cells 1
                      simp at k0
                      have HUf : Hid (wq.frozen? ⟨BU, 1, none⟩ = false) := HUb3.out.free 1
                      clear hie hvl HO3 HRow
                      go_wp2_with (at_builtin; refine wpList_append_lies _ rfl _ _ 27 rfl MID 26 i0 _ 1 24 Try.underlying27 HJ.out HJ0.out HJ1.out HJ2.out rfl (by decide) (.slice X2 a d2) a (gs2.map hdV) rfl (HSs3.out.hd.own.alloc _) ⟨wq.heap.size, 0, none⟩ 1 1 [.slice A3 xn c3] rfl rfl (cell_one_new _ _ _) ?c2 (by omega) ?c3 ?c4 ?c5 _ rfl ?_)
                      case c2 => first | rfl | (intro u hu; simp at hu; subst hu; rfl)
                      case c3 => unfold maxLen; omega
                      case c4 => omega
                      case c5 => first | omega | (simp only [World.size_alloc]; omega)
                      intro g7 cap7 u6 hown7 hgrow7 hat7 hlt7
                      have hg7 : wq.grownBy u6 (Value.slice X2 a d2).ownBlock := (grown_alloc _ _).trans hgrow7
                      have HP := Lib.hid (HSs3.out.push (x := (A3, xn, c3)) HO4.out (by omega) (Nat.le_refl _) (by omega) (Nat.le_refl _) hown7 hg7 (hat7.imp id (fun e => by first | omega | (simp only [World.size_alloc] at e; omega))))
                      have hu6 := HUb3.out.keep (Keeps.grown hg7 (P := fun j => j = BU) (fun j hj e => by have := HRX.out j e; omega)) rfl
                      have hc6 : u6.cell? ⟨BU, 1, none⟩ = some (.slice X2 a d2) := hu6.cells 1
                      have hf6 : u6.frozen? ⟨BU, 1, none⟩ = false := hu6.free 1
                      have HB2 := Lib.hid (hu6.set_ 1 (.slice (some ⟨g7, 0, none⟩) (a + 1) cap7))
                      have HB9 := Lib.hid (app_below (b := BU) (i := 1) (B := BU) (x := .slice (some ⟨g7, 0, none⟩) (a + 1) cap7) hg7 (by omega) (fun j hj => by have := HRX.out j hj; omega) (Nat.le_refl _))
                      have hsz6 := hg7.size
                      have HSet : Hid (∀ lo hi, BU < lo → Same lo hi u6 (u6.setCell ⟨BU, 1, none⟩ (.slice (some ⟨g7, 0, none⟩) (a + 1) cap7))) := fun lo hi hlo k h1 h2 => heap_setCell_other u6 ⟨BU, 1, none⟩ k _ (by simp; omega)
                      have HSs9 : Hid (OwSS MID (u6.setCell ⟨BU, 1, none⟩ (.slice (some ⟨g7, 0, none⟩) (a + 1) cap7)).heap.size (u6.setCell ⟨BU, 1, none⟩ (.slice (some ⟨g7, 0, none⟩) (a + 1) cap7)) (some ⟨g7, 0, none⟩) (a + 1) cap7 (gs2 ++ [(A3, xn, c3)]) ((xss.take (a + 1)).map fun r => rowV r.length (sclF (r)))) := by
                        unfold Hid
                        rw [setc_size, ← take_snocX HRw.out, List.map_append]
                        exact HP.out.same (HSet.out _ _ hmid)
                      have HOw9 : Hid (Ow 3 (BU + 1) MID (u6.setCell ⟨BU, 1, none⟩ (.slice (some ⟨g7, 0, none⟩) (a + 1) cap7)) T2 q c2 (rowV q (sclF ts))) := (HOw3.out.same (same_grown hg7 (by omega) (fun j hj => by have := HRX.out j hj; omega))).same (HSet.out _ _ (by omega))
                      have hms9 : MID ≤ (u6.setCell ⟨BU, 1, none⟩ (.slice (some ⟨g7, 0, none⟩) (a + 1) cap7)).heap.size := by rw [setc_size]; omega
                      clear hown7 hgrow7 hat7 hg7 hu6
                      go_wp2_with fail
                      go_roundw
                      case rel => exact ⟨a + 1, some ⟨g7, 0, none⟩, cap7, _, by omega, by go_num, hms9, HB2.out, HOw9.out, HSs9.out, HBv.out.trans HB9.out⟩
                      case measure => simp [intOf]; omega
                · have hie : a = p := by omega
                  have hni : ¬ (a : Int) < (p : Int) := by omega
                  have c3 := HTb2.out.cells 1
                  simp at c3
                  have HUb1 : Hid (Bx w2 BU 35 #[.slice T2 q c2, .slice X2 p d2]) := by have h := HUb.out; rw [hie] at h; exact h
                  have HSs1 : Hid (OwSS MID w2.heap.size w2 X2 p d2 gs2 (iss (sclX xss))) := by
                    have h := HSs.out
                    rw [hie, List.take_of_length_le (by rw [HLx.out]; exact Nat.le_refl _)] at h
                    exact h.cast (sclX_iss _)
                  have HUs : Hid (OwSta (BU + 1) w2.heap.size w2 T2 X2 q c2 p d2 MID gs2 ((List.range q).map (sclF ts)) (sclX xss)) := ⟨by rw [← rowV_map]; exact HOw.out, HSs1.out, ⟨by omega, hms⟩⟩
                  have HX128 : Hid (totI (sclX xss) ≤ 1048576) := by
                    have h1 := totI_le (xss := sclX xss) (K := 128) (sclX_le HT.out.hx)
                    have h2 := HLx.out
                    rw [sclX_len, h2] at h1
                    unfold Hid; omega
                  clear hie HUb HSs HOw HSs1
                  have hbel := HBel.out
                  have z_e : w.heap.size ≤ w2.heap.size := by omega
                  have s_e := HS.out.same (same_below hbel (by omega))
                  have t_e := HT.out.same (same_below hbel (by omega))
                  have sb_e := HSb.out.same (same_below hbel (by omega))
                  have tb_e := HTb.out.same (same_below hbel (by omega))
                  have fb_e := HFb.out.same (same_below hbel (by omega))
                  have ub_e := HUb1.out
                  have us_e := HUs.out
                  have B_e := HAc.out.trans (hbel.mono (by omega))
                  have HNi := Lib.hid hni; have HC3 := Lib.hid c3
                  clear hbel HBel HUb1 HUs HTb2 HTb HSb HFb HS HT HAc
                  have HFin := Lib.hid (scl_fin HLt.out HSM5.out HMb.out)
                  have hpos := merD_pos HMb.out
                  obtain ⟨N1, hN1⟩ : ∃ N1, merN ats cs ts xss fa ft = N1 := ⟨_, rfl⟩
                  obtain ⟨D1, hD1⟩ : ∃ D1, merD ats cs ts xss fa ft = D1 := ⟨_, rfl⟩
                  rw [hD1] at hpos
                  have HN := Lib.hid hN1; have HD := Lib.hid hD1
                  have HN2 : Hid (merN ats cs ((List.range q).map (sclF ts)) (sclX xss) fa ft = N1) := HFin.out.1.trans hN1
                  have HD2 : Hid (merD ats cs ((List.range q).map (sclF ts)) (sclX xss) fa ft = D1) := HFin.out.2.trans hD1
                  clear hN1 hD1 HFin
                  have hd1 : (0 : Int) < D1 := by omega
                  have hd2 : decide ((0 : Int) < D1) = true := decide_eq_true hd1
                  have hni := HNi.out; have c3 := HC3.out
                  have csb_40 := sb_e.cells
                  have fsb_40 := sb_e.free
                  have ctb_41 := tb_e.cells
                  have ftb_41 := tb_e.free
                  have cfb_42 := fb_e.cells
                  have ffb_42 := fb_e.free
                  have cub_43 := ub_e.cells
                  have fub_43 := ub_e.free
                  go_wp2_with fail
                  refine (iMerit_any S1 S2 sn sc sm sd hs ats cs T2 X2 q c2 p d2 gs2 ((List.range q).map (sclF ts)) (sclX xss) _ s_e.sch ((us_e.sta (by omega) (by omega) HX128.out)) fa ft).mono ?_
                  rw [HN2.out, HD2.out]
                  rintro e w5 ⟨rfl, b⟩
                  clear csb_40 fsb_40
                  clear ctb_41 ftb_41
                  clear cfb_42 ffb_42
                  clear cub_43 fub_43
                  have t_44 := b.size
                  have z_44 : w.heap.size ≤ w5.heap.size := by omega
                  have s_45 := s_e.same (same_below b (by omega))
                  clear s_e
                  have t_45 := t_e.same (same_below b (by omega))
                  clear t_e
                  have sb_45 := sb_e.same (same_below b (by omega))
                  clear sb_e
                  have tb_45 := tb_e.same (same_below b (by omega))
                  clear tb_e
                  have fb_45 := fb_e.same (same_below b (by omega))
                  clear fb_e
                  have ub_45 := ub_e.same (same_below b (by omega))
                  clear ub_e
                  have us_45 := us_e.same (same_below b (by omega))
                  clear us_e
                  have B_44 := B_e.trans (b.mono (by omega))
                  clear B_e b
                  have csb_46 := sb_45.cells
                  have fsb_46 := sb_45.free
                  have ctb_47 := tb_45.cells
                  have ftb_47 := tb_45.free
                  have cfb_48 := fb_45.cells
                  have ffb_48 := fb_45.free
                  have cub_49 := ub_45.cells
                  have fub_49 := ub_45.free
                  clear hni c3
                  clear csb_46 fsb_46
                  clear ctb_47 ftb_47
                  clear cfb_48 ffb_48
                  clear cub_49 fub_49
                  have s_50 := s_45.same (same_alloc (.cells #[.int .i64 N1, .int .i64 D1] 62) (by omega))
                  clear s_45
                  have t_50 := t_45.same (same_alloc (.cells #[.int .i64 N1, .int .i64 D1] 62) (by omega))
                  clear t_45
                  have sb_50 := sb_45.same (same_alloc (.cells #[.int .i64 N1, .int .i64 D1] 62) (by omega))
                  clear sb_45
                  have tb_50 := tb_45.same (same_alloc (.cells #[.int .i64 N1, .int .i64 D1] 62) (by omega))
                  clear tb_45
                  have fb_50 := fb_45.same (same_alloc (.cells #[.int .i64 N1, .int .i64 D1] 62) (by omega))
                  clear fb_45
                  have ub_50 := ub_45.same (same_alloc (.cells #[.int .i64 N1, .int .i64 D1] 62) (by omega))
                  clear ub_45
                  have us_50 := us_45.same (same_alloc (.cells #[.int .i64 N1, .int .i64 D1] 62) (by omega))
                  clear us_45
                  have mb_51 : Bx (w5.alloc (.cells #[.int .i64 N1, .int .i64 D1] 62)) (w5.heap.size) 62 #[.int .i64 N1, .int .i64 D1] := Bx.new _ _ _
                  have B_51 := B_44.alloc z_44 (.cells #[.int .i64 N1, .int .i64 D1] 62)
                  clear B_44
                  have csb_52 := sb_50.cells
                  have fsb_52 := sb_50.free
                  have ctb_53 := tb_50.cells
                  have ftb_53 := tb_50.free
                  have cfb_54 := fb_50.cells
                  have ffb_54 := fb_50.free
                  have cub_55 := ub_50.cells
                  have fub_55 := ub_50.free
                  have cmb_56 := mb_51.cells
                  have fmb_56 := mb_51.free
                  go_wp2_with fail
                  clear csb_52 fsb_52
                  clear ctb_53 ftb_53
                  clear cfb_54 ffb_54
                  clear cub_55 fub_55
                  clear cmb_56 fmb_56
                  obtain ⟨v57, hv57⟩ : ∃ v57, v57 = (w5.alloc (.cells #[.int .i64 N1, .int .i64 D1] 62)) := ⟨_, rfl⟩
                  have zv57 : w5.heap.size + 1 ≤ v57.heap.size := by rw [hv57]; simp
                  rw [← hv57] at s_50 t_50 sb_50 tb_50 fb_50 ub_50 us_50 mb_51 B_51 ⊢
                  clear hv57
                  have z_58 : w.heap.size ≤ v57.heap.size := by omega
                  have csb_59 := sb_50.cells
                  have fsb_59 := sb_50.free
                  have ctb_60 := tb_50.cells
                  have ftb_60 := tb_50.free
                  have cfb_61 := fb_50.cells
                  have ffb_61 := fb_50.free
                  have cub_62 := ub_50.cells
                  have fub_62 := ub_50.free
                  have cmb_63 := mb_51.cells
                  have fmb_63 := mb_51.free
                  have clsb0_64 := cell_regrown (w := v57) (a := ⟨w1.heap.size, 0, none⟩) (v := .slice S1 sn sc) (sb_50.cells 0)
                  have clsb1_64 := cell_regrown (w := v57) (a := ⟨w1.heap.size, 1, none⟩) (v := .slice S2 sm sd) (sb_50.cells 1)
                  have cltb0_64 := cell_regrown (w := v57) (a := ⟨w1.heap.size + 1, 0, none⟩) (v := .slice (some ⟨b1, o1, none⟩) q qc) (tb_50.cells 0)
                  have cltb1_64 := cell_regrown (w := v57) (a := ⟨w1.heap.size + 1, 1, none⟩) (v := .slice (some ⟨b2, o2, none⟩) p pc) (tb_50.cells 1)
                  have clfb0_64 := cell_regrown (w := v57) (a := ⟨w1.heap.size + 1 + 1, 0, none⟩) (v := .int .i64 fa) (fb_50.cells 0)
                  have clfb1_64 := cell_regrown (w := v57) (a := ⟨w1.heap.size + 1 + 1, 1, none⟩) (v := .int .i64 ft) (fb_50.cells 1)
                  have clmb0_64 := cell_regrown (w := v57) (a := ⟨w5.heap.size, 0, none⟩) (v := .int .i64 N1) (mb_51.cells 0)
                  have clmb1_64 := cell_regrown (w := v57) (a := ⟨w5.heap.size, 1, none⟩) (v := .int .i64 D1) (mb_51.cells 1)
                  clear csb_59 fsb_59
                  clear ctb_60 ftb_60
                  clear cfb_61 ffb_61
                  clear cub_62 fub_62
                  clear cmb_63 fmb_63
                  have cA : ∀ d' os, Calls Try.prog 29 #[.agg #[.slice S1 sn sc, .slice S2 sm sd], .agg #[.slice (some ⟨b1, o1, none⟩) q qc, .slice (some ⟨b2, o2, none⟩) p pc], .agg #[.int .i64 fa, .int .i64 ft]] (grow (redrawn v57 d') os) fun e w'' => e = .returned (.agg #[.int .i64 N1, .int .i64 D1]) ∧ ∃ p : Regrown, w'' = grow (redrawn v57 p.d) p.os := fun d' os => Calls.regrown_of (by rw [← HN.out, ← HD.out]; exact iMerit_any S1 S2 sn sc sm sd hs ats cs (some ⟨b1, o1, none⟩) (some ⟨b2, o2, none⟩) q qc p pc gs ts xss _ (s_50.sch.below (below_regrown _ d' os) (Nat.le_refl _)) (t_50.sta.below (below_regrown _ d' os) (Nat.le_refl _)) fa ft)
                  have HA_64 := Lib.hid B_51
                  refine wp_region_quiet_below (by kernel_rfl) (by kernel_rfl) ?_
                  repeat (first | go_big_quiet_step (first | with_reducible exact cA _ _) | quiet_step (first | with_reducible exact cA _ _))
                  refine wpQuiet_nil ?_
                  intro _ hw'
                  obtain ⟨⟨dq, osq⟩, hw''⟩ := hw'
                  subst hw''
                  have bq := below_regrown v57 dq osq
                  clear cA clsb0_64 clsb1_64 cltb0_64 cltb1_64 clfb0_64 clfb1_64 clmb0_64 clmb1_64
                  generalize grow (redrawn v57 dq) osq = w6 at bq ⊢
                  have t_64 := bq.size
                  have z_64 : w.heap.size ≤ w6.heap.size := by omega
                  have s_65 := s_50.same (same_below bq (by omega))
                  clear s_50
                  have t_65 := t_50.same (same_below bq (by omega))
                  clear t_50
                  have sb_65 := sb_50.same (same_below bq (by omega))
                  clear sb_50
                  have tb_65 := tb_50.same (same_below bq (by omega))
                  clear tb_50
                  have fb_65 := fb_50.same (same_below bq (by omega))
                  clear fb_50
                  have ub_65 := ub_50.same (same_below bq (by omega))
                  clear ub_50
                  have us_65 := us_50.same (same_below bq (by omega))
                  clear us_50
                  have mb_65 := mb_51.same (same_below bq (by omega))
                  clear mb_51
                  have B_64 := B_51.trans (bq.mono (by omega))
                  clear B_51 bq
                  have csb_66 := sb_65.cells
                  have fsb_66 := sb_65.free
                  have ctb_67 := tb_65.cells
                  have ftb_67 := tb_65.free
                  have cfb_68 := fb_65.cells
                  have ffb_68 := fb_65.free
                  have cub_69 := ub_65.cells
                  have fub_69 := ub_65.free
                  have cmb_70 := mb_65.cells
                  have fmb_70 := mb_65.free
                  go_wp2_with fail
                  go_ret
                  exact ⟨rfl, B_64⟩

set_option maxRecDepth 50000 in
theorem walk (w : World) (A : Option Addr) (n c : Nat) (xs : List Int) (hl : n ≤ c) (hm : c ≤ maxLen) (hr : Rd w A n (xs.map (Value.int .u8))) (hu : ∀ z ∈ xs, (Lit.int .u8 z).wf = true) :
    Calls Try.prog 4 #[.slice A n c] w fun e w' => e = .returned (.bool true) ∧ Below w.heap.size w w' := by
  unfold maxLen at hm
  have HR := Lib.hid hr
  have HU : Hid (∀ z ∈ xs, 0 ≤ z ∧ z ≤ 255) := fun z hz => u8wf (hu z hz)
  clear hr hu
  by_cases hn : n ≤ 1048576
  · exact walkIn w A n c xs hn HR HU
  · go_enter Try.func4, Try.ntmps4
    go_wp2_with fail
    refine (big_yes A n c w hn).mono ?_
    rintro e _ ⟨rfl, rfl⟩
    go_wp2_with fail
    go_ret
    exact ⟨rfl, Below.refl _ _⟩

set_option maxRecDepth 100000 in
theorem walks : Walks 4 Try.f4 := by
  intro H enc W base args ds ps hval hA _
  rw [Try.params4] at hA hval
  obtain ⟨v0, vs0, d0, ds0, p0, q0, hargs, rfl, rfl, h0, r0⟩ := trodAll_cons hA
  obtain ⟨rfl, rfl, rfl⟩ := trodAll_nil r0
  obtain rfl : args = #[v0] := by cases args; simp_all
  obtain ⟨f0, y0, z0⟩ := slice_cell Try.underlying52 (hval 0 52 v0 rfl rfl) h0
  obtain ⟨A0, n0, c0, a0, rfl, hl0, hm0, hr0, w0⟩ := open_ints_rd Try.underlying52 (by kernel_rfl) Try.underlying5 z0
  exact walk (w := W) A0 n0 c0 a0 hl0 hm0 hr0 w0

set_option maxRecDepth 100000 in
theorem lifted (os : Os) (started : os.Started) (H : Type) (enc : TypeId × Value → H) :
    ReturnsInHanded {} Try.checked os 4 .any (Rows.fnScaledSpec.pre6 enc Try.prog Try.f4 Rows.fnScaledRow.domain false) (Rows.fnScaledSpec.post enc Try.prog Try.f4 false true false false) :=
  law_lifted started (by kernel_rfl) Try.func4
    (ChangeSpec.witness6 (enc := enc) (C := Try.checked) false ⟨#[], #[.slice none 0 0], []⟩ 8 (by kernel_rfl) (by kernel_rfl) (by kernel_rfl) (by kernel_rfl))
    rfl rfl Try.underlying4 (fun ds h => match ds, h with | [_], _ => rfl) (by
      rw [Try.params4]
      intro t ht
      simp only [List.mem_cons, List.not_mem_nil, or_false] at ht
      subst ht
      exact ⟨by kernel_rfl, of_decide_eq_true (by kernel_rfl)⟩) walks

theorem over : Rows.fnScaledRow.holds Try.pinned (OpenSpec.ofChange Rows.fnScaledSpec) :=
  OpenClaim.holds_of_wide 4 Try.f4 rfl rfl rfl rfl rfl rfl rfl ⟨rfl, rfl, rfl, rfl, rfl⟩ rfl rfl rfl rfl rfl (by kernel_rfl) Try.func4 (by kernel_rfl)
    (of_decide_eq_true (by kernel_rfl)) (by unfold Func.isWrapper; first | (rw [if_pos (by decide +kernel)]; kernel_rfl) | (rw [if_neg (by decide +kernel)]; exact ⟨rfl, rfl⟩))
    (fun os started H enc _ => lifted os started H enc)

theorem proved : Rows.FnScaledSaid := over
#print axioms proved

end LawFScaled
end Go.Proofs.Ytchkmcikpamdeaa
