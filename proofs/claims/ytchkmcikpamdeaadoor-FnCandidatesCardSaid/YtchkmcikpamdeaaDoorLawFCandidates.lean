/-
  Proved: laws.FnCandidates returns true for every list of bytes. Condition (tied by the card to the program's own text): what three variables of Go's library hold.
-/
import Derived.Test.YtchkmcikpamdeaaDoorDrawQ
import Derived.Test.YtchkmcikpamdeaaDoorCandP
import Derived.Test.YtchkmcikpamdeaaDoorBranch
import Derived.Test.YtchkmcikpamdeaaDoorAttrsOk
import Derived.Test.YtchkmcikpamdeaaDoorFrameL
import Derived.Test.YtchkmcikpamdeaaDoorRng
import Derived.Test.YtchkmcikpamdeaaDoorOpen
import Derived.Deep.DeepCutAuto
import Derived.BigQuiet
import Derived.Lib.QuietBelow
import Derived.Test.YtchkmcikpamdeaaDoorCards
import Derived.Test.YtchkmcikpamdeaaDoorTie
import Derived.SevenTiedAt
namespace Go.Proofs.YtchkmcikpamdeaaDoor
open Go.ChangeShapes Go.WideShapes Go.ChangeAt Go.RowKit Go.Deep
namespace LawFCandidates
set_option linter.unusedSimpArgs false
set_option linter.unusedVariables false
theorem u8wf {z : Int} (h : (Lit.int .u8 z).wf = true) : 0 ≤ z ∧ z ≤ 255 := by
  simp [Lit.wf, IntKind.min, IntKind.max, IntKind.bits, IntKind.signed] at h
  omega
theorem big_no (A : Option Addr) (n c : Nat) (w : World) (h : n ≤ 1048576) : Calls Tryd.prog 11 #[.slice A n c] w fun e w' => e = .returned (.bool false) ∧ w = w' := by
  go_enter Tryd.func11, Tryd.ntmps11
  go_wp2
  go_ret
  exact ⟨by simp; omega, rfl⟩
theorem big_yes (A : Option Addr) (n c : Nat) (w : World) (h : ¬ n ≤ 1048576) : Calls Tryd.prog 11 #[.slice A n c] w fun e w' => e = .returned (.bool true) ∧ w = w' := by
  go_enter Tryd.func11, Tryd.ntmps11
  go_wp2
  go_ret
  exact ⟨by simp; omega, rfl⟩
open Go.Sort

theorem fcells_get : ∀ {fs : List (Int × Int)} {k : Nat} {a b : Int}, fs[k]? = some (a, b) → (fcells fs)[k * 2]? = some (.int .i64 a) ∧ (fcells fs)[k * 2 + 1]? = some (.int .i64 b)
  | [], _, _, _, h => by simp at h
  | p :: fs, 0, a, b, h => by
    simp only [List.getElem?_cons_zero, Option.some.injEq] at h
    subst h; exact ⟨rfl, rfl⟩
  | p :: fs, k + 1, a, b, h => by
    have h1 := fcells_get (fs := fs) (k := k) (by simpa using h)
    have e : (k + 1) * 2 = k * 2 + 2 := by omega
    rw [e]
    exact h1
theorem attrs_asc {ats : List AD} {cs : List ByteArray} {xs : List Int} (h : attrsB ats cs xs = true) : xs.Pairwise (· < ·) := asc_pair (by unfold attrsB at h; simp only [Bool.and_eq_true] at h; exact h.1.2)
theorem pair_ne {bs : List (Int × Int)} (h : bs.Pairwise (· ≠ ·)) {i j : Nat} {x y x2 y2 : Int} (hij : i < j) (h2 : bs[i]? = some (x2, y2)) (h1 : bs[j]? = some (x, y)) : ¬ (x = x2 ∧ y = y2) := by
  obtain ⟨l1, e1⟩ := List.getElem?_eq_some_iff.1 h1
  obtain ⟨l2, e2⟩ := List.getElem?_eq_some_iff.1 h2
  have := List.pairwise_iff_getElem.1 h i j l2 l1 hij
  rw [e1, e2] at this
  intro ⟨ex, ey⟩
  exact this (by rw [ex, ey])
theorem tl_ne (T : ByteArray) (h : ¬ T = (⟨#[]⟩ : ByteArray)) : T.toList.isEmpty = false := by
  cases e : T.toList.isEmpty
  · rfl
  · exfalso; apply h
    have := List.isEmpty_iff.1 e
    have h2 : T.toList = T.data.toList := ByteArray.toList_eq T
    rw [h2] at this
    apply ByteArray.ext
    exact Array.toList_inj.1 this
structure FkF (lo hi : Nat) (w : World) (L : Option Addr) (N : Nat) (bs : List (Int × Int)) : Prop where
  len : bs.length = N
  ex : 0 < N → ∃ b, L = some ⟨b, 0, none⟩ ∧ lo ≤ b ∧ b < hi ∧ ∀ k x y, bs[k]? = some (x, y) → w.cell? ⟨b, k * 2, none⟩ = some (.int .i64 x) ∧ w.cell? ⟨b, k * 2 + 1, none⟩ = some (.int .i64 y)
theorem FkF.same {lo hi : Nat} {w w' : World} {L : Option Addr} {N : Nat} {bs : List (Int × Int)} (h : FkF lo hi w L N bs) (s : Same lo hi w w') : FkF lo hi w' L N bs :=
  ⟨h.len, fun hn => by
    obtain ⟨b, e, h1, h2, hc⟩ := h.ex hn
    have eo : ∀ o, w'.cell? ⟨b, o, none⟩ = w.cell? ⟨b, o, none⟩ := fun o => World.cell?_of_block (s b h1 h2)
    exact ⟨b, e, h1, h2, fun k x y hk => ⟨(eo _).trans (hc k x y hk).1, (eo _).trans (hc k x y hk).2⟩⟩⟩
theorem FkF.of {lo N c : Nat} {w : World} {T : TypeId} {L : Option Addr} {bs : List (Int × Int)} (hl : N = bs.length) (h : w.ownsRow lo T 2 (.slice L N c) N (fcells bs)) : FkF lo w.heap.size w L N bs :=
  ⟨hl.symm, fun hn => by
    obtain ⟨b, cap, hv, h1, h2, _, _⟩ := own_form h hn
    simp only [Value.slice.injEq] at hv
    obtain ⟨rfl, _, rfl⟩ := hv
    refine ⟨b, rfl, h1, h2, fun k x y hk => ?_⟩
    have hkl := (List.getElem?_eq_some_iff.1 hk).1
    rw [h.cellAt (k * 2) (by omega), h.cellAt (k * 2 + 1) (by omega)]
    exact fcells_get hk⟩

set_option maxRecDepth 50000 in
set_option maxHeartbeats 16000000 in
theorem walkIn (w : World) (A : Option Addr) (n c : Nat) (xs : List Int) (hn : n ≤ 1048576) (HR : Hid (Rd w A n (xs.map (Value.int .u8)))) (HU : Hid (∀ z ∈ xs, 0 ≤ z ∧ z ≤ 255)) (HTab : Hid (Tab w)) :
    Calls Tryd.prog 4 #[.slice A n c] w fun e w' => e = .returned (.bool true) ∧ Below w.heap.size w w' := by
  have B0 := Below.refl w.heap.size w
  have s0 : w.heap.size ≤ w.heap.size := Nat.le_refl _
  go_enter Tryd.func4, Tryd.ntmps4
  go_wp2_with fail
  refine (big_no A n c _ hn).mono ?_
  rintro e w1 ⟨rfl, rfl⟩
  go_wp2_with fail
  refine (sDrawCandidates_any A n c xs _ HR.out HU.out (by omega)).mono ?_
  rintro e w1 ⟨S1, sn, sc, S2, sm, sd, hs, ats, cs, Z, z, cz, zs, two, rfl, hsf, hz18, hzf, b⟩
  have t_0 := b.size
  have z_0 : w.heap.size ≤ w1.heap.size := by omega
  have B_0 := B0.trans (b.mono (by omega))
  clear B0 b
  have s_r := hsf.rng
  clear hsf
  have z_r := hzf.rng
  clear hzf
  obtain ⟨bs, hbs⟩ : ∃ bs, candL ats cs zs two = bs := ⟨_, rfl⟩
  have HBs := Lib.hid hbs
  clear hbs
  have hzl : zs.length = z := by have := z_r.rd.len; simpa using this
  have HZl := Lib.hid hzl
  clear hzl
  obtain ⟨za, hza⟩ : ∃ za, attrsB ats cs zs = za := ⟨_, rfl⟩
  have HZa := Lib.hid hza
  clear hza
  have s_1 := s_r.same (same_alloc (.cells #[.slice S1 sn sc, .slice S2 sm sd] 32) (by omega))
  clear s_r
  have z_1 := z_r.same (same_alloc (.cells #[.slice S1 sn sc, .slice S2 sm sd] 32) (by omega))
  clear z_r
  have sb_2 : Bx (w1.alloc (.cells #[.slice S1 sn sc, .slice S2 sm sd] 32)) (w1.heap.size) 32 #[.slice S1 sn sc, .slice S2 sm sd] := Bx.new _ _ _
  have B_2 := B_0.alloc z_0 (.cells #[.slice S1 sn sc, .slice S2 sm sd] 32)
  clear B_0
  have csb_3 := sb_2.cells
  have fsb_3 := sb_2.free
  go_wp2_with fail
  refine (iCandidates_any S1 S2 sn sc sm sd hs ats cs Z z cz zs _ s_1.sch z_1.rd (by omega) two).mono ?_
  rw [HBs.out]
  rintro e w2 ⟨L1, lc, N, rfl, hN, o, b⟩
  clear csb_3 fsb_3
  simp only [World.size_alloc] at b o
  have t_4 := b.size
  simp only [World.size_alloc] at t_4
  have z_4 : w.heap.size ≤ w2.heap.size := by omega
  have s_5 := s_1.same (same_below b (by omega))
  clear s_1
  have z_5 := z_1.same (same_below b (by omega))
  clear z_1
  have sb_5 := sb_2.same (same_below b (by omega))
  clear sb_2
  have B_4 := B_2.trans (b.mono (by omega))
  clear B_2 b
  have l_4 := FkF.of hN o
  clear o
  have csb_6 := sb_5.cells
  have fsb_6 := sb_5.free
  have HN := Lib.hid hN
  clear hN
  go_wp2_with fail
  refine (sAttrsOk_any S1 S2 sn sc sm sd hs ats cs Z z cz zs _ s_5.sch z_5.rd (by omega)).mono ?_
  rw [HZa.out]
  rintro e w3 ⟨rfl, b⟩
  clear csb_6 fsb_6
  have t_7 := b.size
  have z_7 : w.heap.size ≤ w3.heap.size := by omega
  have s_8 := s_5.same (same_below b (by omega))
  clear s_5
  have z_8 := z_5.same (same_below b (by omega))
  clear z_5
  have sb_8 := sb_5.same (same_below b (by omega))
  clear sb_5
  have l_8 := l_4.same (same_below b (by omega))
  clear l_4
  have B_7 := B_4.trans (b.mono (by omega))
  clear B_4 b
  have csb_9 := sb_8.cells
  have fsb_9 := sb_8.free
  cases za
  · have hN0 : N = 0 := by rw [HN.out, ← HBs.out]; unfold candL; rw [HZa.out]; rfl
    subst hN0
    go_wp2_with fail
    refine (iAttrsOk_any S1 S2 sn sc sm sd hs ats cs Z z cz zs _ s_8.sch z_8.rd (by omega)).mono ?_
    rw [HZa.out]
    rintro e w4 ⟨rfl, b⟩
    clear csb_9 fsb_9
    have t_10 := b.size
    have z_10 : w.heap.size ≤ w4.heap.size := by omega
    have s_11 := s_8.same (same_below b (by omega))
    clear s_8
    have z_11 := z_8.same (same_below b (by omega))
    clear z_8
    have sb_11 := sb_8.same (same_below b (by omega))
    clear sb_8
    have l_11 := l_8.same (same_below b (by omega))
    clear l_8
    have B_10 := B_7.trans (b.mono (by omega))
    clear B_7 b
    have csb_12 := sb_11.cells
    have fsb_12 := sb_11.free
    go_wp2_with fail
    go_ret
    exact ⟨rfl, B_10⟩
  · have HJ : Hid (candJ ats two zs = bs) := by unfold Hid; rw [← HBs.out]; unfold candL; rw [HZa.out]; rfl
    have hzN : z ≤ N := by rw [HN.out, ← HJ.out, ← HZl.out]; exact cand_len HZa.out
    have hNb : N ≤ 72 := by have h := candJ_len HZa.out (two := two) zs.length (Nat.le_refl _); rw [List.take_length, HJ.out, HZl.out, ← HN.out] at h; omega
    have n1 : ¬ (N : Int) < (z : Int) := by omega
    have n2 : decide (N < z) = false := decide_eq_false (by omega)
    have HS := Lib.hid s_8; have HZr := Lib.hid z_8; have HSb := Lib.hid sb_8; have HL := Lib.hid l_8; have HAc := Lib.hid B_7
    have lsb := sb_8.lt
    have hz0 : w.heap.size ≤ w3.heap.size := by omega
    go_wp2_with fail
    clear csb_9 fsb_9 n1 n2
    have HAp : Hid (bs.Pairwise (· ≠ ·)) := by unfold Hid; rw [← HJ.out]; exact cand_apart HZa.out
    go_loopw [7] (fun si wr => ∃ j : Nat, j ≤ N ∧ si = .int .i64 j ∧ Below w3.heap.size w3 wr) (fun si _ => N - (intOf si).toNat)
    case atStart => exact ⟨0, Nat.zero_le _, rfl, Below.refl _ _⟩
    case round =>
      obtain ⟨j, hj, rfl, hbel⟩ := hrel
      obtain ⟨wo, rfl⟩ : ∃ wo : World, wo = wr := ⟨_, rfl⟩
      have hzo := hbel.size
      have HBel := Lib.hid hbel
      clear hbel
      by_cases hlt : j < N
      · have hji : (j : Int) < (N : Int) := by omega
        have j0 : (0 : Int) ≤ (j : Int) := Int.natCast_nonneg _
        obtain ⟨b1, rfl, hb1l, hb1h, hc1⟩ := (HL.out.same (same_below HBel.out (by omega))).ex (by omega)
        obtain ⟨⟨x, y⟩, hxy⟩ : ∃ p, bs[j]? = some p := ⟨_, List.getElem?_eq_getElem (by rw [← HN.out]; exact hlt)⟩
        have q0 := (hc1 j x y hxy).1; have q1 := (hc1 j x y hxy).2
        have hm := cand_mem HZa.out (show (x, y) ∈ candJ ats two zs by rw [HJ.out]; exact List.mem_of_getElem? hxy)
        have HF := Lib.hid hm.2.1
        have HC1 : Hid (cntL x zs = 1) := cntL_one (attrs_asc HZa.out) hm.1
        have hts := ft_some hm.2.1
        obtain ⟨T, hT⟩ : ∃ T, ftS ats cs x y = T := ⟨_, rfl⟩
        rw [hT] at hts
        have HT := Lib.hid hT; have HXY := Lib.hid hxy
        have t1 : ¬ T = (⟨#[]⟩ : ByteArray) := fun e => by rw [e] at hts; exact absurd hts (by decide)
        have t3 : decide (T = (⟨#[]⟩ : ByteArray)) = false := decide_eq_false t1
        have t4 : T.toList.isEmpty = false := tl_ne T t1
        have HS2 := Lib.hid (HS.out.same (same_below HBel.out (by omega))); have HZ2 := Lib.hid (HZr.out.same (same_below HBel.out (by omega)))
        have HTab2 := Lib.hid (HTab.out.below (HAc.out.trans (HBel.out.mono hz0)))
        have sbx := HSb.out.same (same_below HBel.out (Nat.succ_le_of_lt lsb))
        have qs0 := sbx.cells 0; have qs1 := sbx.cells 1
        simp at qs0 qs1
        have k0 := cell_regrown (w := wo) (a := ⟨b1, j * 2, none⟩) (v := .int .i64 x) q0
        have k1 := cell_regrown (w := wo) (a := ⟨b1, j * 2 + 1, none⟩) (v := .int .i64 y) q1
        have ks0 := cell_regrown (w := wo) (a := ⟨w1.heap.size, 0, none⟩) (v := .slice S1 sn sc) qs0
        have ks1 := cell_regrown (w := wo) (a := ⟨w1.heap.size, 1, none⟩) (v := .slice S2 sm sd) qs1
        clear hc1 hxy hts hT sbx
        go_wp2_with fail
        cases two
        · skip
          have cA : ∀ d' os, Calls Tryd.prog 16 #[.agg #[.slice S1 sn sc, .slice S2 sm sd], .agg #[.int .i64 x, .int .i64 y]] (Go.Sort.grow (redrawn wo d') os) fun e w'' => e = .returned (.bool true) ∧ ∃ p : Regrown, w'' = Go.Sort.grow (redrawn wo p.d) p.os := fun d' os => Calls.regrown_of (by rw [← HF.out]; exact iForkOk_any S1 S2 sn sc sm sd hs ats cs x y _ (HS2.out.sch.below (below_regrown _ d' os) (Nat.le_refl _)))
          have cB : ∀ d' os, Calls Tryd.prog 17 #[.slice Z z cz, .int .i64 x] (Go.Sort.grow (redrawn wo d') os) fun e w'' => e = .returned (.int .i64 1) ∧ ∃ p : Regrown, w'' = Go.Sort.grow (redrawn wo p.d) p.os := fun d' os => Calls.regrown_of (by exact (times_any Z z cz zs x _ (HZ2.out.rd.below (below_regrown _ d' os) (Nat.le_refl _)) (by omega)).mono fun e w' ⟨h1, h2⟩ => ⟨by rw [h1, HC1.out]; rfl, by rw [← h2]; exact Below.refl _ _⟩)
          have cD : ∀ d' os, Calls Tryd.prog 9 #[.agg #[.slice S1 sn sc, .slice S2 sm sd], .agg #[.int .i64 x, .int .i64 y]] (Go.Sort.grow (redrawn wo d') os) fun e w'' => e = .returned (.string T) ∧ ∃ p : Regrown, w'' = Go.Sort.grow (redrawn wo p.d) p.os := fun d' os => Calls.regrown_of (by rw [← HT.out]; exact iForkText_any S1 S2 sn sc sm sd hs ats cs x y _ (HS2.out.sch.below (below_regrown _ d' os) (Nat.le_refl _)) (HTab2.out.below (below_regrown _ d' os)))
          clear hm
          refine wp_region_quiet_below (by kernel_rfl) (by kernel_rfl) ?_
          repeat (first | go_big_quiet_step (first | with_reducible exact cA _ _ | with_reducible exact cB _ _ | with_reducible exact cD _ _) | quiet_step (first | with_reducible exact cA _ _ | with_reducible exact cB _ _ | with_reducible exact cD _ _))
          refine wpQuiet_nil ?_
          intro _ hw'
          obtain ⟨⟨dq, osq⟩, hw''⟩ := hw'
          subst hw''
          have bq := below_regrown wo dq osq
          clear cA cB cD q0 q1 qs0 qs1 k0 k1 ks0 ks1
          generalize Go.Sort.grow (redrawn wo dq) osq = u at bq ⊢
          have HBu := Lib.hid (HBel.out.trans (bq.mono hzo))
          have hzu := HBu.out.size
          clear bq
          go_wp2_with fail
          go_loopw [8] (fun si wr => ∃ i : Nat, i ≤ j ∧ si = .int .i64 i ∧ Below w3.heap.size w3 wr) (fun si _ => j - (intOf si).toNat)
          case atStart => exact ⟨0, Nat.zero_le _, rfl, HBu.out⟩
          case round =>
            obtain ⟨i, hi, rfl, hbi⟩ := hrel
            obtain ⟨wi, rfl⟩ : ∃ wi : World, wi = wr := ⟨_, rfl⟩
            have HBi := Lib.hid hbi
            clear hbi
            by_cases hli : i < j
            · have hlii : (i : Int) < (j : Int) := by omega
              obtain ⟨⟨x2, y2⟩, hxy2⟩ : ∃ p, bs[i]? = some p := ⟨_, List.getElem?_eq_getElem (by rw [← HN.out]; omega)⟩
              have hne := pair_ne HAp.out hli hxy2 HXY.out
              have L3 := HL.out.same (same_below HBi.out (by omega))
              obtain ⟨b3, e3, _, _, hc3⟩ := L3.ex (by omega)
              have eb : b3 = b1 := by simpa using e3.symm
              subst eb
              have r0 := (hc3 j x y HXY.out).1; have r1 := (hc3 j x y HXY.out).2; have r2 := (hc3 i x2 y2 hxy2).1; have r3 := (hc3 i x2 y2 hxy2).2
              have i0 : (0 : Int) ≤ (i : Int) := Int.natCast_nonneg _
              have i1 : (i : Int) < (N : Int) := by omega
              clear hc3 hxy2 L3 e3
              by_cases hx : x = x2
              · subst hx
                have hy : ¬ y = y2 := fun e => hne ⟨rfl, e⟩
                have f1 : (y == y2) = false := beq_false_of_ne hy
                have f2 : decide (y = y2) = false := decide_eq_false hy
                clear hne
                go_wp2_with fail
                go_quiet (fail)
                go_wp2_with fail
                go_roundw
                case rel => exact ⟨i + 1, by omega, by go_num, HBi.out.trans ⟨rfl, rfl, rfl, Nat.le_refl _, fun _ _ => rfl⟩⟩
                case measure => simp [intOf]; omega
              · have f1 : (x == x2) = false := beq_false_of_ne hx
                have f2 : decide (x = x2) = false := decide_eq_false hx
                clear hne
                go_wp2_with fail
                go_quiet (fail)
                go_wp2_with fail
                go_roundw
                case rel => exact ⟨i + 1, by omega, by go_num, HBi.out.trans ⟨rfl, rfl, rfl, Nat.le_refl _, fun _ _ => rfl⟩⟩
                case measure => simp [intOf]; omega
            · have hlii : ¬ (i : Int) < (j : Int) := by omega
              go_wp2_with fail
              go_roundw
              case rel => exact ⟨j + 1, by omega, by go_num, HBi.out⟩
              case measure => simp [intOf]; omega
        · skip
          have HB2 : Hid (brI ats cs x y = 2) := hm.2.2 rfl
          have cA : ∀ d' os, Calls Tryd.prog 16 #[.agg #[.slice S1 sn sc, .slice S2 sm sd], .agg #[.int .i64 x, .int .i64 y]] (Go.Sort.grow (redrawn wo d') os) fun e w'' => e = .returned (.bool true) ∧ ∃ p : Regrown, w'' = Go.Sort.grow (redrawn wo p.d) p.os := fun d' os => Calls.regrown_of (by rw [← HF.out]; exact iForkOk_any S1 S2 sn sc sm sd hs ats cs x y _ (HS2.out.sch.below (below_regrown _ d' os) (Nat.le_refl _)))
          have cB : ∀ d' os, Calls Tryd.prog 17 #[.slice Z z cz, .int .i64 x] (Go.Sort.grow (redrawn wo d') os) fun e w'' => e = .returned (.int .i64 1) ∧ ∃ p : Regrown, w'' = Go.Sort.grow (redrawn wo p.d) p.os := fun d' os => Calls.regrown_of (by exact (times_any Z z cz zs x _ (HZ2.out.rd.below (below_regrown _ d' os) (Nat.le_refl _)) (by omega)).mono fun e w' ⟨h1, h2⟩ => ⟨by rw [h1, HC1.out]; rfl, by rw [← h2]; exact Below.refl _ _⟩)
          have cC : ∀ d' os, Calls Tryd.prog 18 #[.agg #[.slice S1 sn sc, .slice S2 sm sd], .agg #[.int .i64 x, .int .i64 y]] (Go.Sort.grow (redrawn wo d') os) fun e w'' => e = .returned (.int .i64 2) ∧ ∃ p : Regrown, w'' = Go.Sort.grow (redrawn wo p.d) p.os := fun d' os => Calls.regrown_of (by rw [← HB2.out]; exact iBranches_any S1 S2 sn sc sm sd hs ats cs x y _ (HS2.out.sch.below (below_regrown _ d' os) (Nat.le_refl _)))
          have cD : ∀ d' os, Calls Tryd.prog 9 #[.agg #[.slice S1 sn sc, .slice S2 sm sd], .agg #[.int .i64 x, .int .i64 y]] (Go.Sort.grow (redrawn wo d') os) fun e w'' => e = .returned (.string T) ∧ ∃ p : Regrown, w'' = Go.Sort.grow (redrawn wo p.d) p.os := fun d' os => Calls.regrown_of (by rw [← HT.out]; exact iForkText_any S1 S2 sn sc sm sd hs ats cs x y _ (HS2.out.sch.below (below_regrown _ d' os) (Nat.le_refl _)) (HTab2.out.below (below_regrown _ d' os)))
          clear hm
          refine wp_region_quiet_below (by kernel_rfl) (by kernel_rfl) ?_
          repeat (first | go_big_quiet_step (first | with_reducible exact cA _ _ | with_reducible exact cB _ _ | with_reducible exact cC _ _ | with_reducible exact cD _ _) | quiet_step (first | with_reducible exact cA _ _ | with_reducible exact cB _ _ | with_reducible exact cC _ _ | with_reducible exact cD _ _))
          refine wpQuiet_nil ?_
          intro _ hw'
          obtain ⟨⟨dq, osq⟩, hw''⟩ := hw'
          subst hw''
          have bq := below_regrown wo dq osq
          clear cA cB cC cD q0 q1 qs0 qs1 k0 k1 ks0 ks1
          generalize Go.Sort.grow (redrawn wo dq) osq = u at bq ⊢
          have HBu := Lib.hid (HBel.out.trans (bq.mono hzo))
          have hzu := HBu.out.size
          clear bq
          go_wp2_with fail
          go_loopw [8] (fun si wr => ∃ i : Nat, i ≤ j ∧ si = .int .i64 i ∧ Below w3.heap.size w3 wr) (fun si _ => j - (intOf si).toNat)
          case atStart => exact ⟨0, Nat.zero_le _, rfl, HBu.out⟩
          case round =>
            obtain ⟨i, hi, rfl, hbi⟩ := hrel
            obtain ⟨wi, rfl⟩ : ∃ wi : World, wi = wr := ⟨_, rfl⟩
            have HBi := Lib.hid hbi
            clear hbi
            by_cases hli : i < j
            · have hlii : (i : Int) < (j : Int) := by omega
              obtain ⟨⟨x2, y2⟩, hxy2⟩ : ∃ p, bs[i]? = some p := ⟨_, List.getElem?_eq_getElem (by rw [← HN.out]; omega)⟩
              have hne := pair_ne HAp.out hli hxy2 HXY.out
              have L3 := HL.out.same (same_below HBi.out (by omega))
              obtain ⟨b3, e3, _, _, hc3⟩ := L3.ex (by omega)
              have eb : b3 = b1 := by simpa using e3.symm
              subst eb
              have r0 := (hc3 j x y HXY.out).1; have r1 := (hc3 j x y HXY.out).2; have r2 := (hc3 i x2 y2 hxy2).1; have r3 := (hc3 i x2 y2 hxy2).2
              have i0 : (0 : Int) ≤ (i : Int) := Int.natCast_nonneg _
              have i1 : (i : Int) < (N : Int) := by omega
              clear hc3 hxy2 L3 e3
              by_cases hx : x = x2
              · subst hx
                have hy : ¬ y = y2 := fun e => hne ⟨rfl, e⟩
                have f1 : (y == y2) = false := beq_false_of_ne hy
                have f2 : decide (y = y2) = false := decide_eq_false hy
                clear hne
                go_wp2_with fail
                go_quiet (fail)
                go_wp2_with fail
                go_roundw
                case rel => exact ⟨i + 1, by omega, by go_num, HBi.out.trans ⟨rfl, rfl, rfl, Nat.le_refl _, fun _ _ => rfl⟩⟩
                case measure => simp [intOf]; omega
              · have f1 : (x == x2) = false := beq_false_of_ne hx
                have f2 : decide (x = x2) = false := decide_eq_false hx
                clear hne
                go_wp2_with fail
                go_quiet (fail)
                go_wp2_with fail
                go_roundw
                case rel => exact ⟨i + 1, by omega, by go_num, HBi.out.trans ⟨rfl, rfl, rfl, Nat.le_refl _, fun _ _ => rfl⟩⟩
                case measure => simp [intOf]; omega
            · have hlii : ¬ (i : Int) < (j : Int) := by omega
              go_wp2_with fail
              go_roundw
              case rel => exact ⟨j + 1, by omega, by go_num, HBi.out⟩
              case measure => simp [intOf]; omega
      · have hji : ¬ (j : Int) < (N : Int) := by omega
        have HB9 := Lib.hid (HAc.out.trans (HBel.out.mono hz0))
        go_wp2_with fail
        go_ret
        exact ⟨rfl, HB9.out⟩

set_option maxRecDepth 50000 in
theorem walk (w : World) (A : Option Addr) (n c : Nat) (xs : List Int) (hl : n ≤ c) (hm : c ≤ maxLen) (hr : Rd w A n (xs.map (Value.int .u8))) (hu : ∀ z ∈ xs, (Lit.int .u8 z).wf = true) (htab : Tab w) :
    Calls Tryd.prog 4 #[.slice A n c] w fun e w' => e = .returned (.bool true) ∧ Below w.heap.size w w' := by
  unfold maxLen at hm
  have HR := Lib.hid hr
  have HU : Hid (∀ z ∈ xs, 0 ≤ z ∧ z ≤ 255) := fun z hz => u8wf (hu z hz)
  clear hr hu
  by_cases hn : n ≤ 1048576
  · exact walkIn w A n c xs hn HR HU (Lib.hid htab)
  · go_enter Tryd.func4, Tryd.ntmps4
    go_wp2_with fail
    refine (big_yes A n c w hn).mono ?_
    rintro e _ ⟨rfl, rfl⟩
    go_wp2_with fail
    go_ret
    exact ⟨rfl, Below.refl _ _⟩

set_option maxRecDepth 100000 in
theorem walks : WalksL 4 Tryd.f4 := by
  intro H enc W base args ds ps hval hA _ htab
  rw [Tryd.params4] at hA hval
  obtain ⟨v0, vs0, d0, ds0, p0, q0, hargs, rfl, rfl, h0, r0⟩ := trodAll_cons hA
  obtain ⟨rfl, rfl, rfl⟩ := trodAll_nil r0
  obtain rfl : args = #[v0] := by cases args; simp_all
  obtain ⟨f0, y0, z0⟩ := slice_cell Tryd.underlying38 (hval 0 38 v0 rfl rfl) h0
  obtain ⟨A0, n0, c0, a0, rfl, hl0, hm0, hr0, w0⟩ := open_ints_rd Tryd.underlying38 (by kernel_rfl) Tryd.underlying5 z0
  exact walk (w := W) A0 n0 c0 a0 hl0 hm0 hr0 w0 htab

set_option maxRecDepth 100000 in
theorem lifted (os : Os) (started : os.Started) (H : Type) (enc : TypeId × Value → H) :
    ReturnsInHanded {} Tryd.checked os 4 .any (fun w args => (Rows.fnCandidatesSpec.pre enc Tryd.prog Tryd.f4 [] false w args ∧ laidMetH Tryd.prog laidL w) ∧ sizedMet enc Tryd.prog Tryd.f4 (OpenSpec.ofChange Rows.fnCandidatesSpec) false w args) (Rows.fnCandidatesSpec.post enc Tryd.prog Tryd.f4 false true false false) :=
  law_liftedL started (by kernel_rfl) Tryd.func4
    (ChangeSpec.witness_shaped (enc := enc) (C := Tryd.checked) (os := os) (X := fun w _ => laidMetH Tryd.prog laidL w) false (World.doorLaid Tryd.prog 24 os) #[.slice none 0 0] 8 rfl (World.shaped_of_RefB (by kernel_rfl) (by kernel_rfl)) (by kernel_rfl) (by kernel_rfl) (by kernel_rfl) (door_met os _))
    rfl rfl Tryd.underlying4 (fun ds h => match ds, h with | [_], _ => rfl) (by
      rw [Tryd.params4]
      intro t ht
      simp only [List.mem_cons, List.not_mem_nil, or_false] at ht
      subst ht
      exact ⟨by kernel_rfl, of_decide_eq_true (by kernel_rfl)⟩) walks

theorem over : Rows.fnCandidatesRow.holds Tryd.pinned (OpenSpec.ofChange Rows.fnCandidatesSpec) :=
  OpenClaim.holds_of_wide 4 Tryd.f4 rfl rfl rfl rfl rfl rfl rfl ⟨rfl, rfl, rfl, rfl, rfl⟩ rfl rfl rfl rfl rfl (by kernel_rfl) Tryd.func4 (by kernel_rfl)
    (of_decide_eq_true (by kernel_rfl)) (by unfold Func.isWrapper; first | (rw [if_pos (by decide +kernel)]; kernel_rfl) | (rw [if_neg (by decide +kernel)]; exact ⟨rfl, rfl⟩))
    (fun os started H enc _ => lifted os started H enc)

theorem proved : Rows.FnCandidatesCardSaid :=
  Claim7.holds_tied_plain_at .later [] [.data, .data, .data] true (true, "2532b35abd3b2030fb8c4bd463dd7841b59a6df0bbc4ddcff90a3440bf776286") false
    over (fun _ h => by cases h) (by kernel_rfl) (fun _ h => by cases h) fnCandidates_row_tie rfl ⟨rfl, rfl⟩ (by kernel_rfl) rfl
    (fun f fn hf hfn => by
      obtain rfl : f = 4 := Option.some.inj ((show Tryd.prog.funcNamed Rows.fnCandidatesRow.func = some 4 by kernel_rfl).symm.trans hf) |>.symm
      obtain rfl : fn = Tryd.f4 := (Option.some.inj (Tryd.func4.symm.trans hfn)).symm
      exact ⟨by kernel_rfl, fun j t ht => by
        have hall : (Tryd.f4.params.toList.all fun u => !Tryd.prog.wantsStandIn u) = true := by kernel_rfl
        have hm : t ∈ Tryd.f4.params.toList := by simpa using Array.mem_of_getElem? ht
        exact (show Tryd.prog.wantsStandIn t = false by simpa using List.all_eq_true.1 hall t hm)⟩)
    (by kernel_rfl)
#print axioms proved

end LawFCandidates
end Go.Proofs.YtchkmcikpamdeaaDoor
