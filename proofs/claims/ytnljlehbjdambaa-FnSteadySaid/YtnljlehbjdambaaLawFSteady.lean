/-
  Proved: laws.FnSteady returns true for every list of bytes. Conditions: none.
-/
import Derived.Test.YtnljlehbjdambaaSteI
import Derived.Test.YtnljlehbjdambaaOpen
import Derived.Test.YtnljlehbjdambaaObj
import Derived.Deep.DeepCutAuto
import Derived.Deep.RegionHeld3
namespace Go.Proofs.Ytnljlehbjdambaa
open Go.ChangeShapes Go.WideShapes Go.ChangeAt Go.RowKit Go.Deep
namespace LawFSteady
set_option linter.unusedSimpArgs false
set_option linter.unusedVariables false
theorem u8wf {z : Int} (h : (Lit.int .u8 z).wf = true) : 0 ≤ z ∧ z ≤ 255 := by
  simp [Lit.wf, IntKind.min, IntKind.max, IntKind.bits, IntKind.signed] at h
  omega
theorem big_no (A : Option Addr) (n c : Nat) (w : World) (h : n ≤ 1048576) : Calls Try.prog 8 #[.slice A n c] w fun e w' => e = .returned (.bool false) ∧ w = w' := by
  go_enter Try.func8, Try.ntmps8
  go_wp2
  go_ret
  exact ⟨by simp; omega, rfl⟩
theorem big_yes (A : Option Addr) (n c : Nat) (w : World) (h : ¬ n ≤ 1048576) : Calls Try.prog 8 #[.slice A n c] w fun e w' => e = .returned (.bool true) ∧ w = w' := by
  go_enter Try.func8, Try.ntmps8
  go_wp2
  go_ret
  exact ⟨by simp; omega, rfl⟩
def at0V (xs : List Int) (j : Nat) : Int := if j < xs.length then xs.getD j 0 else ((j : Int) * 7 + (xs.length : Int)) % 256
theorem at0V_bd {xs : List Int} (hu : ∀ z ∈ xs, 0 ≤ z ∧ z ≤ 255) (j : Nat) : 0 ≤ at0V xs j ∧ at0V xs j ≤ 255 := by
  unfold at0V
  split
  · rename_i h
    have : xs.getD j 0 ∈ xs := getD_mem0 h
    exact hu _ this
  · omega
set_option maxHeartbeats 1000000 in
theorem at0_any (A : Option Addr) (n c : Nat) (xs : List Int) (j : Nat) (w : World) (h : Rd w A n (xs.map (Value.int .u8))) (hn : n ≤ 1048576) (hu : ∀ z ∈ xs, 0 ≤ z ∧ z ≤ 255) (hj : j ≤ 100) :
    Calls Try.prog 9 #[.slice A n c, .int .i64 j] w fun e w' => e = .returned (.int .i64 (at0V xs j)) ∧ w = w' := by
  have hl : xs.length = n := by simpa using h.len
  have H := Lib.hid h
  by_cases hlt : j < n
  · have HV : Hid (at0V xs j = xs.getD j 0) := by unfold Hid at0V; rw [if_pos (by omega)]
    have hb := hu _ (getD_mem0 (l := xs) (i := j) (by omega))
    obtain ⟨b, off, rfl, hbl, hc⟩ := H.out.ex (by omega)
    have hcell := hc j (.int .u8 (xs.getD j 0)) (by rw [List.getElem?_map, show xs[j]? = some (xs.getD j 0) from by simp [List.getD, List.getElem?_eq_getElem (show j < xs.length by omega)]]; rfl)
    obtain ⟨x, hx⟩ : ∃ x, xs.getD j 0 = x := ⟨_, rfl⟩
    rw [hx] at hb hcell
    have HX := Lib.hid hx
    have hwx : IntKind.i64.wrap x = x := IntWalk.i64_in _ (by omega)
    have j0 : (0 : Int) ≤ (j : Int) := Int.natCast_nonneg _
    clear h hu hx hc hl
    go_enter Try.func9, Try.ntmps9
    go_wp2
    go_ret
    exact ⟨by rw [HV.out, HX.out]; rfl, rfl⟩
  · have HV : Hid (at0V xs j = ((j : Int) * 7 + (n : Int)) % 256) := by unfold Hid at0V; rw [if_neg (by omega), hl]
    have j0 : (0 : Int) ≤ (j : Int) := Int.natCast_nonneg _
    have j1 : (j : Int) ≤ 100 := by omega
    have n0 : (n : Int) ≤ 1048576 := by omega
    clear h hu hl
    go_enter Try.func9, Try.ntmps9
    go_wp2
    go_ret
    exact ⟨by rw [HV.out]; rfl, rfl⟩
theorem at0_1 (A : Option Addr) (n c : Nat) (xs : List Int) (w : World) (h : Rd w A n (xs.map (Value.int .u8))) (hn : n ≤ 1048576) (hu : ∀ z ∈ xs, 0 ≤ z ∧ z ≤ 255) :
    Calls Try.prog 9 #[.slice A n c, .int .i64 1] w fun e w' => e = .returned (.int .i64 (at0V xs 1)) ∧ w = w' := at0_any A n c xs 1 w h hn hu (by omega)
theorem at0_2 (A : Option Addr) (n c : Nat) (xs : List Int) (w : World) (h : Rd w A n (xs.map (Value.int .u8))) (hn : n ≤ 1048576) (hu : ∀ z ∈ xs, 0 ≤ z ∧ z ≤ 255) :
    Calls Try.prog 9 #[.slice A n c, .int .i64 2] w fun e w' => e = .returned (.int .i64 (at0V xs 2)) ∧ w = w' := at0_any A n c xs 2 w h hn hu (by omega)
theorem at0_3 (A : Option Addr) (n c : Nat) (xs : List Int) (w : World) (h : Rd w A n (xs.map (Value.int .u8))) (hn : n ≤ 1048576) (hu : ∀ z ∈ xs, 0 ≤ z ∧ z ≤ 255) :
    Calls Try.prog 9 #[.slice A n c, .int .i64 3] w fun e w' => e = .returned (.int .i64 (at0V xs 3)) ∧ w = w' := at0_any A n c xs 3 w h hn hu (by omega)
theorem step_from (A : Option Addr) (n c : Nat) (hs : List Hd) (xss : List (List Int)) (bit : Int) (i : Nat) (k : Int) (w : World) (h : RdSS w A n hs (iss xss)) (hb : totI xss ≤ 1048576) (hn : n ≤ 1048576) (hwf : ∀ xs ∈ xss, ∀ x ∈ xs, -9223372036854775808 ≤ x ∧ x ≤ 9223372036854775807) (hst : Steady bit i xss) (h0 : 0 ≤ bit) (h1 : bit ≤ 1) (hi : i < 100) (hk : 1 ≤ k ∧ k ≤ 9) (W0 : World) (B : Nat) (hB : Below B W0 w) (hs' : B ≤ W0.heap.size) :
    Calls Try.prog 10 #[.agg #[.slice A n c], .int .i64 bit, .int .i64 k] w fun e w' => (∃ lo A' n' c' hs', e = .returned (.tuple #[.agg #[.slice A' n' c'], .bool false, .bool true]) ∧ lo = w.heap.size ∧ n' ≤ 8 ∧ OwSS lo w'.heap.size w' A' n' c' hs' (iss (addR xss bit)) ∧ Below w.heap.size w w') ∧ Below B W0 w' :=
  lift ((iWindowStep_steady A n c hs xss bit i k w h hb hn hwf hst h0 h1 hi hk).mono fun _ _ ⟨A', n', c', hs', h1, h2, h3, h4⟩ => ⟨⟨w.heap.size, A', n', c', hs', h1, rfl, h2, h3, h4⟩, h4⟩) hB hs'
theorem win_pre {lo B n c : Nat} {z : Value} {w' : World} {A : Option Addr} {hs : List Hd} {yss : List (List Int)} (o : OwSS lo w'.heap.size w' A n c hs (iss yss)) (hB : B < lo) (hx : Bx w' B 26 #[z]) : Win lo B (w'.setCell ⟨B, 0, none⟩ (.slice A n c)) A n c hs yss := by
  refine ⟨?_, fun e => ?_, fun j x hj e => ?_, ?_⟩
  · rw [setc_size]; exact o.same (same_setc hB)
  · have := (o.hd.own.lt B e).1; omega
  · have := (o.rows.top j x B hj e).1; omega
  · simpa using hx.set_ 0 (.slice A n c)
theorem win_post {lo n c : Nat} {z : Value} {w' : World} {A : Option Addr} {hs : List Hd} {yss : List (List Int)} (o : OwSS lo w'.heap.size w' A n c hs (iss yss)) : Win lo w'.heap.size ((w'.alloc (.cells #[z] 26)).setCell ⟨w'.heap.size, 0, none⟩ (.slice A n c)) A n c hs yss := by
  have h1 : OwSS lo w'.heap.size (w'.alloc (.cells #[z] 26)) A n c hs (iss yss) := o.same (same_alloc _ (Nat.le_refl _))
  have hA : (Value.slice A n c).ownBlock ≠ some w'.heap.size := fun e => by have := o.hd.top _ e; omega
  have hR : ∀ (j : Nat) (x : Hd), hs[j]? = some x → (hdV x).ownBlock ≠ some w'.heap.size := fun j x hj e => by have := (o.rows.top j x _ hj e).2; omega
  refine ⟨?_, hA, hR, ?_⟩
  · rw [setc_size, World.size_alloc]; exact (h1.off_set hA hR).wide (Nat.le_refl _) (Nat.le_succ _)
  · simpa using (Bx.new w' 26 #[z]).set_ 0 (.slice A n c)
theorem win_at {lo n c : Nat} {w' : World} {A : Option Addr} {hs : List Hd} {yss : List (List Int)} (o : OwSS lo w'.heap.size w' A n c hs (iss yss)) : Win lo w'.heap.size (w'.alloc (.cells #[.slice A n c] 26)) A n c hs yss :=
  Win.start (o.same (same_alloc _ (Nat.le_refl _))) (Nat.le_refl _) (by rw [World.size_alloc]; exact Nat.le_succ _) (Bx.new _ _ _)
theorem Win.lower {lo lo' b n c : Nat} {w : World} {A : Option Addr} {hs : List Hd} {yss : List (List Int)} (h : Win lo b w A n c hs yss) (hl : lo' ≤ lo) : Win lo' b w A n c hs yss := ⟨h.ow.wide hl (Nat.le_refl _), h.offA, h.offR, h.bx⟩

/-- A box of the region's own, laid behind the first k blocks. -/
structure Lain (k : Nat) (w : World) (b : Nat) (t : TypeId) (cs : Array Value) : Prop where
  le : k ≤ b
  bx : Bx w b t cs
theorem Lain.next {k b : Nat} {w w' : World} {t : TypeId} {cs : Array Value} (x : Lain k w b t cs) (c : Below w.heap.size w w') : Lain k w' b t cs := ⟨x.1, x.2.same (same_below c (Nat.succ_le_of_lt x.2.lt))⟩
theorem Lain.first {v w' : World} {t : TypeId} {cs : Array Value} (c : Below (v.alloc (.cells cs t)).drew.heap.size (v.alloc (.cells cs t)).drew w') : Lain v.heap.size w' v.heap.size t cs :=
  ⟨Nat.le_refl _, ((Bx.new v t cs).same (w' := (v.alloc (.cells cs t)).drew) (fun _ _ _ => rfl)).same (same_below c (by show v.heap.size + 1 ≤ (v.alloc (.cells cs t)).heap.size; simp only [World.size_alloc, Nat.le_refl]))⟩
theorem Lain.mid {B : Nat} {v0 v w' : World} {t : TypeId} {cs : Array Value} (h : Below B v0 v) (c : Below (v.alloc (.cells cs t)).heap.size (v.alloc (.cells cs t)) w') : Lain v0.heap.size w' v.heap.size t cs :=
  ⟨h.size, (Bx.new v t cs).same (same_below c (by simp only [World.size_alloc, Nat.le_refl]))⟩

set_option maxRecDepth 50000 in
set_option maxHeartbeats 8000000 in
theorem walkIn (w : World) (A : Option Addr) (n c : Nat) (xs : List Int) (hn : n ≤ 1048576) (HR : Hid (Rd w A n (xs.map (Value.int .u8)))) (HU : Hid (∀ z ∈ xs, 0 ≤ z ∧ z ≤ 255)) :
    Calls Try.prog 3 #[.slice A n c] w fun e w' => e = .returned (.bool true) ∧ Below w.heap.size w w' := by
  obtain ⟨x1, hx1⟩ : ∃ x, at0V xs 1 = x := ⟨_, rfl⟩
  obtain ⟨x2, hx2⟩ : ∃ x, at0V xs 2 = x := ⟨_, rfl⟩
  obtain ⟨x3, hx3⟩ : ∃ x, at0V xs 3 = x := ⟨_, rfl⟩
  have b1 := at0V_bd HU.out 1; have b2 := at0V_bd HU.out 2; have b3 := at0V_bd HU.out 3
  rw [hx1] at b1; rw [hx2] at b2; rw [hx3] at b3
  obtain ⟨bit, hbit⟩ : ∃ b, x1 % 2 = b := ⟨_, rfl⟩
  obtain ⟨N, hN⟩ : ∃ N : Nat, x2 % 60 = (N : Int) := Int.eq_ofNat_of_zero_le (by omega)
  obtain ⟨k9, hk9⟩ : ∃ k, 1 + x3 % 9 = k := ⟨_, rfl⟩
  have h0 : 0 ≤ bit := by omega
  have h1 : bit ≤ 1 := by omega
  have hN60 : N < 60 := by omega
  have hk : 1 ≤ k9 ∧ k9 ≤ 9 := by omega
  have t1 : x1.tmod 2 = bit := by rw [Int.tmod_eq_emod_of_nonneg b1.1]; exact hbit
  have t2 : x2.tmod 60 = (N : Int) := by rw [Int.tmod_eq_emod_of_nonneg b2.1]; exact hN
  have t3 : IntKind.i64.wrap (x3.tmod 9) = k9 - 1 := by rw [Int.tmod_eq_emod_of_nonneg b3.1]; rw [IntWalk.i64_in _ (by omega)]; omega
  have t3' : x3 % 9 = k9 - 1 := by omega
  have t4 : IntKind.i64.wrap (1 + (k9 - 1)) = k9 := by rw [show 1 + (k9 - 1) = k9 by omega]; exact IntWalk.i64_in _ (by omega)
  have t6 : IntKind.i64.wrap (1 + x3.tmod 9) = k9 := by rw [Int.tmod_eq_emod_of_nonneg b3.1]; rw [show 1 + x3 % 9 = k9 by omega]; exact IntWalk.i64_in _ (by omega)
  have w1_ : IntKind.i64.wrap bit = bit := IntWalk.i64_in _ (by omega)
  have w2_ : IntKind.i64.wrap (N : Int) = (N : Int) := IntWalk.i64_in _ (by omega)
  have HKK := Lib.hid hk; have HX1 := Lib.hid hx1; have HX2 := Lib.hid hx2; have HX3 := Lib.hid hx3
  have HT6 := Lib.hid t6; have HT3 := Lib.hid t3; have HT3' := Lib.hid t3'; have HT4 := Lib.hid t4; have HT5 := Lib.hid (show IntKind.i64.wrap (k9 - 1) = k9 - 1 from IntWalk.i64_in _ (by omega))
  clear hx1 hx2 hx3 hk9 t3 t3' t4 t6
  have B0 := Below.refl w.heap.size w
  have hw0 : Bx (w.alloc (.cells #[.slice none 0 0] 26)) w.heap.size 26 #[.slice none 0 0] := Bx.new _ _ _
  have HB0 : Hid (Below w.heap.size w (w.alloc (.cells #[.slice none 0 0] 26))) := below_alloc1 _
  have HRa := Lib.hid (HR.out.below HB0.out (Nat.le_refl _))
  go_enter Try.func3, Try.ntmps3
  go_wp2_with fail
  refine (big_no A n c _ hn).mono ?_
  rintro e w2 ⟨rfl, rfl⟩
  go_wp2_with fail
  refine (at0_1 A n c xs _ HRa.out hn HU.out).mono ?_
  rw [HX1.out]
  rintro e w2 ⟨rfl, rfl⟩
  go_wp2_with fail
  refine (at0_2 A n c xs _ HRa.out hn HU.out).mono ?_
  rw [HX2.out]
  rintro e w2 ⟨rfl, rfl⟩
  have HBx := Lib.hid hw0
  clear hw0
  go_wp2_with fail
  clear t1 t2 hbit hN w1_ w2_
  go_loopw [6] (fun si wr => ∃ (j : Nat) (A1 : Option Addr) (n1 c1 : Nat) (g1 : List Hd) (yss : List (List Int)), j ≤ N ∧ si = .int .i64 j ∧ Bx wr w.heap.size 26 #[.slice A1 n1 c1] ∧ OwSS (w.heap.size + 1) wr.heap.size wr A1 n1 c1 g1 (iss yss) ∧ Steady bit j yss ∧ Below w.heap.size w wr) (fun si _ => N - (intOf si).toNat)
  case atStart => exact ⟨0, none, 0, 0, [], [], Nat.zero_le _, rfl, HBx.out, OwSS.nil _ _ _, steady_nil bit, HB0.out⟩
  case round =>
    obtain ⟨j, A1, n1, c1, g1, yss, hj, rfl, hbx, how, hst, hbel⟩ := hrel
    obtain ⟨wo, rfl⟩ : ∃ wo : World, wo = wr := ⟨_, rfl⟩
    have HB := Lib.hid hbel; have HBw := Lib.hid hbx; have HOw := Lib.hid how; have HSt := Lib.hid hst
    have hzo := hbel.size
    have lbx := hbx.lt
    have p0 := hbx.cells 0; have pf := hbx.free 0
    simp at p0
    obtain ⟨hyl, hyt, hyw⟩ := steady_small hst
    have HYw := Lib.hid hyw
    have HN1 : Hid (yss.length = n1) := by have := how.len; rwa [iss_len] at this
    have hn1 : n1 ≤ 8 := by have := HN1.out; omega
    have HRo := Lib.hid (HR.out.below hbel (Nat.le_refl _))
    clear hbx how hst hbel hyw
    by_cases hlt : j < N
    · have HK : Hid (∀ w' : World, Below wo.heap.size wo w' → w'.cell? ⟨w.heap.size, 0, none⟩ = some (.slice A1 n1 c1) ∧ Below wo.heap.size wo w') := fun w' hb => ⟨(hb.cell (p := ⟨w.heap.size, 0, none⟩) lbx).trans p0, hb⟩
      have hst2 := steady_add HSt.out h0 h1 (show j < 100 by omega)
      obtain ⟨zss, hzs⟩ : ∃ zss, addR yss bit = zss := ⟨_, rfl⟩
      rw [hzs] at hst2
      obtain ⟨hzl, hzt, hzw⟩ := steady_small hst2
      obtain ⟨s1, s2⟩ := steady_tot hst2
      have HSt2 := Lib.hid hst2; have HZw := Lib.hid hzw; have HZs := Lib.hid hzs
      obtain ⟨bj, hbj⟩ : ∃ b, bit * ((j : Int) + 1) = b := ⟨_, rfl⟩
      have hbjb : 0 ≤ bj ∧ bj ≤ 60 := by
        rw [← hbj]
        rcases (show bit = 0 ∨ bit = 1 by omega) with rfl | rfl <;> omega
      have HS1 : Hid (sm1 (bucketsL zss) = (j : Int) + 1) := by unfold Hid; rw [s1]; omega
      have HS2 : Hid (sm2 (bucketsL zss) = bj) := by unfold Hid; rw [s2, ← hbj]; first | rfl | (congr 1; omega)
      have HBJ := Lib.hid hbj
      clear hst2 hzw s1 s2 hzs hbj
      have e6 := HT6.out; have e3 := HT3.out; have e3' := HT3'.out; have e4 := HT4.out; have e5 := HT5.out
      have j0 : (0 : Int) ≤ (j : Int) := Int.natCast_nonneg _
      have j1 : (j : Int) < (N : Int) := by omega
      go_upto_region 9 with fail
      go_cut [7, 8, 9] (fun s7 s8 s9 wx => ∃ (lo B : Nat) (A2 : Option Addr) (n2 c2 : Nat) (g2 : List Hd), s7 = .pointer (some ⟨B, 0, none⟩) ∧ s8 = .bool false ∧ s9 = .bool true ∧ wo.heap.size ≤ lo ∧ wo.heap.size ≤ B ∧ n2 ≤ 8 ∧ Win lo B wx A2 n2 c2 g2 zss ∧ Below wo.heap.size wo wx)
      case first =>
        go_region_held3 (fun w' => w'.cell? ⟨w.heap.size, 0, none⟩ = some (.slice A1 n1 c1) ∧ Below wo.heap.size wo w')
          ((refine HK.out _ ?_; first | exact (Below.refl _ _).drew | assumption | exact Below.alloc (Below.refl _ _).drew (Nat.le_refl _) _ | exact ((Below.refl _ _).alloc (Nat.le_refl _) _).drew | exact Below.alloc (by assumption) (Below.size (by assumption)) _ | exact Below.setCell (p := ⟨_, 0, none⟩) (by assumption) (by first | exact x0.1 | (show _ ≤ _; omega)) _ | exact Below.setCell (p := ⟨_, 0, none⟩) (Below.alloc (by assumption) (Below.size (by assumption)) _) (Below.size (by assumption)) _ | go_grown))
          (first
            | (go_at_call 9; go_split_ands; (with_reducible refine (at0_3 A n c xs _ (HRo.out.below (by assumption) (Nat.le_refl _)) hn HU.out).mono ?_); rw [HX3.out]; rintro e w7 ⟨rfl, rfl⟩)
            | (go_at_call 10; go_split_ands; (with_reducible refine (step_from A1 n1 c1 g1 yss bit j k9 _ (HOw.out.rd.below (by assumption) (Nat.le_refl _)) hyt (by omega) HYw.out HSt.out h0 h1 (by omega) HKK.out wo wo.heap.size (by assumption) (Nat.le_refl _)).mono ?_); rw [HZs.out]; rintro e w8 ⟨⟨lo, A2, n2, c2, g2, rfl, hlo, hn2, o8, d8⟩, b8⟩; (first | (have x0 := Lain.first d8) | skip); (try (have xc0 := x0.2.cells 0; have xf0 := x0.2.free 0; simp at xc0))))
        all_goals (go_wp2_with fail; go_meet)
        all_goals (refine ⟨lo, _, A2, n2, c2, g2, rfl, rfl, rfl, ?_, ?_, hn2, ?_, ?_⟩)
        all_goals first
          | (rw [hlo]; first | exact Nat.le_refl _ | exact Nat.le_succ _ | (simp only [World.size_alloc, World.size_drew]; omega); done)
          | exact Nat.le_refl _
          | exact win_post o8
          | exact win_pre o8 (by rw [hlo]; first | exact Nat.lt_succ_self _ | (simp only [World.size_alloc, World.size_drew]; omega)) x0.2
          | exact Below.setCell (p := ⟨_, 0, none⟩) (by assumption) x0.1 _
          | exact Below.setCell (p := ⟨_, 0, none⟩) (Below.alloc (by assumption) (Below.size (by assumption)) _) (Below.size (by assumption)) _
          | exact Below.size (by assumption)
          | exact x0.1
          | exact win_at o8
          | exact Below.alloc (by assumption) (Below.size (by assumption)) _
      obtain ⟨lo, B, A2, n2, c2, g2, rfl, rfl, rfl, hlo1, hB1, hn2, hw2, hb2⟩ := hcut
      obtain ⟨u, rfl⟩ : ∃ u : World, u = wc := ⟨_, rfl⟩
      have hzu := hb2.size
      have HW2 := Lib.hid hw2; have HB2 := Lib.hid hb2
      have lB := hw2.bx.lt
      have q0 := hw2.bcell
      clear hw2 hb2 HK e3 e3' e4 e5 e6 p0 pf
      go_wp2_with fail
      refine (iWindowTotal_any A2 n2 c2 g2 zss _ HW2.out.ow.rd hzt (by omega) HZw.out).mono ?_
      rw [HS1.out]
      rintro e u1 ⟨rfl, c1'⟩
      have hz1 := c1'.size
      have HR1 := Lib.hid (HW2.out.ow.rd.below c1' (Nat.le_refl _))
      have q1 : u1.cell? ⟨B, 0, none⟩ = some (.slice A2 n2 c2) := (c1'.cell (p := ⟨B, 0, none⟩) lB).trans q0
      have HC1 := Lib.hid c1'
      have hp1 : IntKind.i64.wrap (bit * ((j : Int) + 1)) = bj := by rw [HBJ.out]; exact IntWalk.i64_in _ (by omega)
      have hp2 : RowKit.wrap64 (bit * ((j : Int) + 1)) = bj := by rw [HBJ.out]; unfold wrap64; omega
      have hp3 := HBJ.out
      clear c1' q0
      go_wp2_with fail
      refine (iWindowOnes_any A2 n2 c2 g2 zss _ HR1.out hzt (by omega) HZw.out).mono ?_
      rw [HS2.out]
      rintro e u2 ⟨rfl, c2'⟩
      have hz2 := c2'.size
      have q2 : u2.cell? ⟨B, 0, none⟩ = some (.slice A2 n2 c2) := (c2'.cell (p := ⟨B, 0, none⟩) (show B < _ by omega)).trans q1
      have HB12 : Hid (Below u.heap.size u u2) := HC1.out.trans (c2'.mono hz1)
      have HBx2 := Lib.hid ((HBw.out.same (same_below HB2.out (by omega))).same (same_below HB12.out (by omega)))
      have r2 := HBx2.out.cells 0; have rf2 := HBx2.out.free 0
      simp at r2
      have HO2 := Lib.hid (HW2.out.ow.same (same_below HB12.out (Nat.le_refl _)))
      have hfin : ∀ w9, w9 = u2.setCell ⟨w.heap.size, 0, none⟩ (.slice A2 n2 c2) → Bx w9 w.heap.size 26 #[.slice A2 n2 c2] ∧ OwSS (w.heap.size + 1) w9.heap.size w9 A2 n2 c2 g2 (iss zss) ∧ Below w.heap.size w w9 := by
        intro w9 h9
        subst h9
        refine ⟨by simpa using HBx2.out.set_ 0 (.slice A2 n2 c2), ?_, ?_⟩
        · rw [setc_size]
          exact (HO2.out.same (same_setc (by omega))).wide (by omega) (by omega)
        · exact Below.setCell (p := ⟨w.heap.size, 0, none⟩) (HB.out.trans ((HB2.out.trans (HB12.out.mono (by omega))).mono (by omega))) (Nat.le_refl _) _
      have HFin := Lib.hid hfin
      clear hfin c2' q1
      go_wp2_with fail
      clear hp1 hp2 hp3
      go_roundw
      case rel => exact ⟨j + 1, A2, n2, c2, g2, zss, by omega, by go_num, (HFin.out _ rfl).1, (HFin.out _ rfl).2.1, HSt2.out, (HFin.out _ rfl).2.2⟩
      case measure => simp [intOf]; omega
    · have HC0 : Hid (cutB 20 (20 * bit) 30 (30 * bit) 1 = false) := by unfold Hid; rw [Int.mul_comm 20 bit, Int.mul_comm 30 bit]; exact cut_const bit 20 30 1
      have HWin := Lib.hid HSt.out.win
      go_wp2_with fail
      refine (iCutHere_any _ _ _ _ _ _).mono ?_
      rw [HC0.out]
      rintro e w' ⟨rfl, rfl⟩
      go_wp2_with fail
      refine (iCutAt_steady A1 n1 c1 g1 yss bit j 1 _ HOw.out.rd hyt (by omega) HYw.out HSt.out h0 h1).mono ?_
      rintro e u1 ⟨rfl, c1'⟩
      have hz1 := c1'.size
      have q1 : u1.cell? ⟨w.heap.size, 0, none⟩ = some (.slice A1 n1 c1) := (c1'.cell (p := ⟨w.heap.size, 0, none⟩) lbx).trans p0
      have HR1 := Lib.hid (HOw.out.rd.below c1' (Nat.le_refl _))
      have HC1 := Lib.hid c1'
      clear c1' p0 pf
      go_wp2_with fail
      refine (iWindowOk_any A1 n1 c1 g1 yss _ HR1.out hyt (by omega) HYw.out).mono ?_
      rw [HWin.out]
      rintro e u2 ⟨rfl, c2'⟩
      have HB9 := Lib.hid (HB.out.trans ((HC1.out.trans (c2'.mono hz1)).mono (by omega)))
      clear c2' q1
      go_wp2_with fail
      go_ret
      exact ⟨rfl, HB9.out⟩

theorem walk (w : World) (A : Option Addr) (n c : Nat) (xs : List Int) (hl : n ≤ c) (hm : c ≤ maxLen) (hr : Rd w A n (xs.map (Value.int .u8))) (hu : ∀ z ∈ xs, (Lit.int .u8 z).wf = true) :
    Calls Try.prog 3 #[.slice A n c] w fun e w' => e = .returned (.bool true) ∧ Below w.heap.size w w' := by
  unfold maxLen at hm
  have HR := Lib.hid hr
  have HU : Hid (∀ z ∈ xs, 0 ≤ z ∧ z ≤ 255) := fun z hz => u8wf (hu z hz)
  clear hr hu
  by_cases hn : n ≤ 1048576
  · exact walkIn w A n c xs hn HR HU
  · go_enter Try.func3, Try.ntmps3
    go_wp2_with fail
    refine (big_yes A n c w hn).mono ?_
    rintro e _ ⟨rfl, rfl⟩
    go_wp2_with fail
    go_ret
    exact ⟨rfl, Below.refl _ _⟩

set_option maxRecDepth 100000 in
theorem walks : Walks 3 Try.f3 := by
  intro H enc W base args ds ps hval hA _
  rw [Try.params3] at hA hval
  obtain ⟨v0, vs0, d0, ds0, p0, q0, hargs, rfl, rfl, h0, r0⟩ := trodAll_cons hA
  obtain ⟨rfl, rfl, rfl⟩ := trodAll_nil r0
  obtain rfl : args = #[v0] := by cases args; simp_all
  obtain ⟨f0, y0, z0⟩ := slice_cell Try.underlying22 (hval 0 22 v0 rfl rfl) h0
  obtain ⟨A0, n0, c0, a0, rfl, hl0, hm0, hr0, w0⟩ := open_ints_rd Try.underlying22 (by kernel_rfl) Try.underlying5 z0
  exact walk (w := W) A0 n0 c0 a0 hl0 hm0 hr0 w0

set_option maxRecDepth 100000 in
theorem lifted (os : Os) (started : os.Started) (H : Type) (enc : TypeId × Value → H) :
    ReturnsInHanded {} Try.checked os 3 .any (Rows.fnSteadySpec.pre6 enc Try.prog Try.f3 Rows.fnSteadyRow.domain false) (Rows.fnSteadySpec.post enc Try.prog Try.f3 false true false false) :=
  law_lifted started (by kernel_rfl) Try.func3
    (ChangeSpec.witness6 (enc := enc) (C := Try.checked) false ⟨#[], #[.slice none 0 0], []⟩ 8 (by kernel_rfl) (by kernel_rfl) (by kernel_rfl) (by kernel_rfl))
    rfl rfl Try.underlying4 (fun ds h => match ds, h with | [_], _ => rfl) (by
      rw [Try.params3]
      intro t ht
      simp only [List.mem_cons, List.not_mem_nil, or_false] at ht
      subst ht
      exact ⟨by kernel_rfl, of_decide_eq_true (by kernel_rfl)⟩) walks

theorem over : Rows.fnSteadyRow.holds Try.pinned (OpenSpec.ofChange Rows.fnSteadySpec) :=
  OpenClaim.holds_of_wide 3 Try.f3 rfl rfl rfl rfl rfl rfl rfl ⟨rfl, rfl, rfl, rfl, rfl⟩ rfl rfl rfl rfl rfl (by kernel_rfl) Try.func3 (by kernel_rfl)
    (of_decide_eq_true (by kernel_rfl)) (by unfold Func.isWrapper; first | (rw [if_pos (by decide +kernel)]; kernel_rfl) | (rw [if_neg (by decide +kernel)]; exact ⟨rfl, rfl⟩))
    (fun os started H enc _ => lifted os started H enc)

theorem proved : Rows.FnSteadySaid := over
#print axioms proved

end LawFSteady
end Go.Proofs.Ytnljlehbjdambaa
