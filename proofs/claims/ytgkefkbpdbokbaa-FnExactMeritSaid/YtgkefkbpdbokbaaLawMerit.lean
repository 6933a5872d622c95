/-
  Proved: laws.FnExactMerit returns true for every schema, stats and fork. Conditions: none.
-/
import Derived.Test.YtgkefkbpdbokbaaMerI
import Derived.Test.YtgkefkbpdbokbaaMerS
import Derived.Test.YtgkefkbpdbokbaaStatW
import Derived.Test.YtgkefkbpdbokbaaOpenSch
import Derived.Test.YtgkefkbpdbokbaaOpenSS
import Derived.Test.YtgkefkbpdbokbaaObj
import Derived.Deep.DeepCutAuto
namespace Go.Proofs.Ytgkefkbpdbokbaa
open Go.ChangeShapes Go.WideShapes Go.ChangeAt Go.RowKit Go.Deep
namespace LawMerit
set_option linter.unusedSimpArgs false
set_option linter.unusedVariables false

/-- toSchema, read from an earlier world on: what it returns reads as the schema. -/
theorem to2 (A C : Option Addr) (n c m d : Nat) (hs : List AH) (ats : List AD) (cs : List ByteArray) (w W0 : World) (B : Nat) (r : RdSch w A C n m hs ats cs) (hn : n ≤ 1048576) (hb : asTot ats ≤ 1048576) (hm : m ≤ 1048576) (ok : ∀ a ∈ ats, ADok a) (cok : ∀ s ∈ cs, s.size ≤ 9223372036854775807) (hB : Below B W0 w) (hs' : B ≤ W0.heap.size) :
    Calls Try.prog 15 #[.agg #[.slice A n c, .slice C m d]] w fun e w' => (∃ g1 g2 gs, e = .returned (.agg #[.slice (some ⟨g1, 0, none⟩) n n, .slice (some ⟨g2, 0, none⟩) m m]) ∧ Sch w' (some ⟨g1, 0, none⟩) (some ⟨g2, 0, none⟩) n m m gs ats cs ∧ Below w.heap.size w w') ∧ Below B W0 w' :=
  lift ((toSchema_any A C n c m d hs ats cs w r hn hb hm).mono fun _ _ ⟨g1, g2, mid, gs, h1, h2, h3⟩ => ⟨⟨g1, g2, gs, h1, h2.sch hn hb hm ok cok, h3⟩, h3⟩) hB hs'

/-- toStats, read from an earlier world on: what it returns reads as the totals and cells. -/
theorem to3 (A C : Option Addr) (n c m d : Nat) (gs : List Hd) (ts : List Int) (xss : List (List Int)) (w W0 : World) (B : Nat) (r : Sta w A C n m gs ts xss) (hB : Below B W0 w) (hs' : B ≤ W0.heap.size) :
    Calls Try.prog 36 #[.agg #[.slice A n c, .slice C m d]] w fun e w' => (∃ g1 g2 hs, e = .returned (.agg #[.slice (some ⟨g1, 0, none⟩) n n, .slice (some ⟨g2, 0, none⟩) m m]) ∧ Sta w' (some ⟨g1, 0, none⟩) (some ⟨g2, 0, none⟩) n m hs ts xss ∧ Below w.heap.size w w') ∧ Below B W0 w' :=
  lift ((toStats_any A C n c m d gs ts xss w r).mono fun _ _ ⟨g1, g2, mid, hs, h1, h2, h3⟩ => ⟨⟨g1, g2, hs, h1, h2.sta r.hq r.hp r.hb, h3⟩, h3⟩) hB hs'

theorem lift2 {P : Program} {F : FuncId} {args : Array Value} {w W0 : World} {B : Nat} {R : Ending → World → Prop} (h : Calls P F args w fun e w' => R e w' ∧ Below w.heap.size w w') (hB : Below B W0 w) (hs : B ≤ W0.heap.size) :
    Calls P F args w fun e w' => R e w' ∧ Below w.heap.size w w' ∧ Below B W0 w' :=
  h.mono fun _ _ ⟨h1, h2⟩ => ⟨h1, h2, hB.trans (h2.mono (Nat.le_trans hs hB.size))⟩

/-- A box of the region's own, laid behind the first k blocks. -/
structure Lain (k : Nat) (w : World) (b : Nat) (t : TypeId) (cs : Array Value) : Prop where
  le : k ≤ b
  bx : Bx w b t cs
theorem Lain.next {k b : Nat} {w w' : World} {t : TypeId} {cs : Array Value} (x : Lain k w b t cs) (c : Below w.heap.size w w') : Lain k w' b t cs := ⟨x.1, x.2.same (same_below c (Nat.succ_le_of_lt x.2.lt))⟩
theorem Lain.first {v w' : World} {t : TypeId} {cs : Array Value} (c : Below (v.alloc (.cells cs t)).drew.heap.size (v.alloc (.cells cs t)).drew w') : Lain v.heap.size w' v.heap.size t cs :=
  ⟨Nat.le_refl _, ((Bx.new v t cs).same (w' := (v.alloc (.cells cs t)).drew) (fun _ _ _ => rfl)).same (same_below c (by show v.heap.size + 1 ≤ (v.alloc (.cells cs t)).heap.size; simp only [World.size_alloc, Nat.le_refl]))⟩
theorem Lain.mid {B : Nat} {v0 v w' : World} {t : TypeId} {cs : Array Value} (h : Below B v0 v) (c : Below (v.alloc (.cells cs t)).heap.size (v.alloc (.cells cs t)) w') : Lain v0.heap.size w' v.heap.size t cs :=
  ⟨h.size, (Bx.new v t cs).same (same_below c (by simp only [World.size_alloc, Nat.le_refl]))⟩

set_option maxHeartbeats 8000000 in
theorem walk (w : World) (A : Option Addr) (n c : Nat) (hs : List AH) (ats : List AD) (C : Option Addr) (m d : Nat) (cs : List ByteArray) (T : Option Addr) (q e0 : Nat) (ts : List Int) (X : Option Addr) (p f0 : Nat) (gs : List Hd) (xss : List (List Int)) (fa ft : Int) (hl : n ≤ c) (hm : c ≤ maxLen) (hr : RdAS w A n hs ats) (hg : ∀ h ∈ hs, AHw h) (hx : ∀ a ∈ ats, ADw a) (hl2 : m ≤ d) (hm2 : d ≤ maxLen) (hr2 : Rd w C m (cs.map Value.string)) (hw2 : ∀ s ∈ cs, s.size ≤ maxLen) (hlt : q ≤ e0) (hmt : e0 ≤ maxLen) (hrt : Rd w T q (ts.map (Value.int .i64))) (hwt : ∀ z ∈ ts, (Lit.int .i64 z).wf = true) (hlx : p ≤ f0) (hmx : f0 ≤ maxLen) (hrx : RdSS w X p gs (iss xss)) (hbx : ∀ x ∈ gs, x.2.1 ≤ x.2.2 ∧ x.2.2 ≤ maxLen) (hwx : ∀ xs ∈ xss, ∀ z ∈ xs, (Lit.int .i64 z).wf = true) (_ : (Lit.int .i64 fa).wf = true) (_ : (Lit.int .i64 ft).wf = true) :
    Calls Try.prog 12 #[.agg #[.slice A n c, .slice C m d], .agg #[.slice T q e0, .slice X p f0], .agg #[.int .i64 fa, .int .i64 ft]] w fun e w' => e = .returned (.bool true) ∧ Below w.heap.size w w' := by
  unfold maxLen at hm hm2 hmt hmx
  have HRS : Hid (RdSch w A C n m hs ats cs) := ⟨hr, hr2⟩
  have HOk : Hid (∀ a ∈ ats, ADok a) := fun a ha => ⟨by have := (hx a ha).1; unfold maxLen at this; omega, fun s hs => by have := (hx a ha).2.2 s hs; unfold maxLen at this; omega⟩
  have HHs : Hid (∀ h ∈ hs, AHok h) := fun h hh => ⟨by have := (hg h hh).1; unfold maxLen at this; omega, by have := (hg h hh).2; unfold maxLen at this; omega⟩
  have HCs : Hid (∀ s ∈ cs, s.size ≤ 9223372036854775807) := fun s hs => by have := hw2 s hs; unfold maxLen at this; omega
  have HRX := Lib.hid hrx; have HRT := Lib.hid hrt
  have HBX : Hid (∀ x ∈ gs, x.2.1 ≤ 9223372036854775807) := fun x hx => by have := hbx x hx; unfold maxLen at this; omega
  have HTI := Lib.hid (tot_iss xss)
  clear hr hr2 hg hx hw2 hrt hwt hrx hbx hwx
  obtain ⟨y1, hy1⟩ : ∃ y1, merN ats cs ts xss fa ft = y1 := ⟨_, rfl⟩
  obtain ⟨y2, hy2⟩ : ∃ y2, merD ats cs ts xss fa ft = y2 := ⟨_, rfl⟩
  have HD1 := Lib.hid hy1; have HD2 := Lib.hid hy2
  clear hy1 hy2
  by_cases hn : ((n : Int) + (asTot ats : Int) + ((m : Int) + (bytesOf cs : Int))) ≤ 1048576
  · have HZ := Lib.hid (szI_yes hn)
    by_cases hnt : ((q : Int) + ((p : Int) + (tot (iss xss) : Int))) ≤ (1048576 - ((n : Int) + (asTot ats : Int) + ((m : Int) + (bytesOf cs : Int))))
    · have HZT := Lib.hid (szI_yes hnt)
      have htot : totI xss = tot (iss xss) := HTI.out.symm
      have HST : Hid (Sta w T X q p gs ts xss) := ⟨HRT.out, HRX.out, by omega, by omega, by omega⟩
      have B0 := Below.refl w.heap.size w
      have s0 : w.heap.size ≤ w.heap.size := Nat.le_refl _
      go_enter Try.func12, Try.ntmps12
      have p_2 : Bx (w.alloc (.cells #[.slice A n c, .slice C m d] 25)) (w.heap.size) 25 #[.slice A n c, .slice C m d] := Bx.new _ _ _
      have B_2 := B0.alloc s0 (.cells #[.slice A n c, .slice C m d] 25)
      clear B0
      have cp_3 := p_2.cells
      have fp_3 := p_2.free
      clear cp_3 fp_3
      have p_4 := p_2.same (same_alloc (.cells #[.slice T q e0, .slice X p f0] 55) (by simp only [World.size_alloc]; omega))
      clear p_2
      have t_5 : Bx ((w.alloc (.cells #[.slice A n c, .slice C m d] 25)).alloc (.cells #[.slice T q e0, .slice X p f0] 55)) (w.heap.size + 1) 55 #[.slice T q e0, .slice X p f0] := by
        have h := Bx.new (w.alloc (.cells #[.slice A n c, .slice C m d] 25)) 55 #[.slice T q e0, .slice X p f0]
        simpa only [World.size_alloc] using h
      have B_5 := B_2.alloc (by simp only [World.size_alloc]; omega) (.cells #[.slice T q e0, .slice X p f0] 55)
      clear B_2
      have cp_6 := p_4.cells
      have fp_6 := p_4.free
      have ct_7 := t_5.cells
      have ft_7 := t_5.free
      clear cp_6 fp_6
      clear ct_7 ft_7
      have p_8 := p_4.same (same_alloc (.cells #[.int .i64 fa, .int .i64 ft] 38) (by simp only [World.size_alloc]; omega))
      clear p_4
      have t_8 := t_5.same (same_alloc (.cells #[.int .i64 fa, .int .i64 ft] 38) (by simp only [World.size_alloc]; omega))
      clear t_5
      have q_9 : Bx (((w.alloc (.cells #[.slice A n c, .slice C m d] 25)).alloc (.cells #[.slice T q e0, .slice X p f0] 55)).alloc (.cells #[.int .i64 fa, .int .i64 ft] 38)) (w.heap.size + 1 + 1) 38 #[.int .i64 fa, .int .i64 ft] := by
        have h := Bx.new ((w.alloc (.cells #[.slice A n c, .slice C m d] 25)).alloc (.cells #[.slice T q e0, .slice X p f0] 55)) 38 #[.int .i64 fa, .int .i64 ft]
        simpa only [World.size_alloc] using h
      have B_9 := B_5.alloc (by simp only [World.size_alloc]; omega) (.cells #[.int .i64 fa, .int .i64 ft] 38)
      clear B_5
      have cp_10 := p_8.cells
      have fp_10 := p_8.free
      have ct_11 := t_8.cells
      have ft_11 := t_8.free
      have cq_12 := q_9.cells
      have fq_12 := q_9.free
      go_wp2_with fail
      refine (szSchema_any A C n c m d hs ats cs 1048576 _ (HRS.out.below B_9 (Nat.le_refl _)).at_ (HRS.out.below B_9 (Nat.le_refl _)).cl HOk.out HHs.out HCs.out (by omega) (by omega) (by omega) (by omega)).mono ?_
      rw [HZ.out]
      rintro e w1 ⟨rfl, b⟩
      clear cp_10 fp_10
      clear ct_11 ft_11
      clear cq_12 fq_12
      simp only [World.size_alloc] at b
      have t_13 := b.size
      simp only [World.size_alloc] at t_13
      have z_13 : w.heap.size ≤ w1.heap.size := by omega
      have p_14 := p_8.same (same_below b (by omega))
      clear p_8
      have t_14 := t_8.same (same_below b (by omega))
      clear t_8
      have q_14 := q_9.same (same_below b (by omega))
      clear q_9
      have B_13 := B_9.trans (b.mono (by omega))
      clear B_9 b
      have cp_15 := p_14.cells
      have fp_15 := p_14.free
      have ct_16 := t_14.cells
      have ft_16 := t_14.free
      have cq_17 := q_14.cells
      have fq_17 := q_14.free
      go_wp2_with fail
      refine (szStats_any T X q e0 p f0 gs xss (1048576 - ((n : Int) + (asTot ats : Int) + ((m : Int) + (bytesOf cs : Int)))) _ (HRX.out.below B_13 (Nat.le_refl _)) HBX.out (by omega) (by omega) (by omega) (by omega)).mono ?_
      rw [HZT.out]
      rintro e w2 ⟨rfl, b⟩
      clear cp_15 fp_15
      clear ct_16 ft_16
      clear cq_17 fq_17
      have t_18 := b.size
      have z_18 : w.heap.size ≤ w2.heap.size := by omega
      have p_19 := p_14.same (same_below b (by omega))
      clear p_14
      have t_19 := t_14.same (same_below b (by omega))
      clear t_14
      have q_19 := q_14.same (same_below b (by omega))
      clear q_14
      have B_18 := B_13.trans (b.mono (by omega))
      clear B_13 b
      have cp_20 := p_19.cells
      have fp_20 := p_19.free
      have ct_21 := t_19.cells
      have ft_21 := t_19.free
      have cq_22 := q_19.cells
      have fq_22 := q_19.free
      go_upto_region 8 with fail
      have lp_23 := p_19.lt
      have dp0_23 : Hid (w2.cell? ⟨w.heap.size, 0, none⟩ = some (.slice A n c)) := p_19.cells 0
      have dp1_23 : Hid (w2.cell? ⟨w.heap.size, 1, none⟩ = some (.slice C m d)) := p_19.cells 1
      have lt_23 := t_19.lt
      have dt0_23 : Hid (w2.cell? ⟨w.heap.size + 1, 0, none⟩ = some (.slice T q e0)) := t_19.cells 0
      have dt1_23 : Hid (w2.cell? ⟨w.heap.size + 1, 1, none⟩ = some (.slice X p f0)) := t_19.cells 1
      have lq_23 := q_19.lt
      have dq0_23 : Hid (w2.cell? ⟨w.heap.size + 1 + 1, 0, none⟩ = some (.int .i64 fa)) := q_19.cells 0
      have dq1_23 : Hid (w2.cell? ⟨w.heap.size + 1 + 1, 1, none⟩ = some (.int .i64 ft)) := q_19.cells 1
      clear cp_20 fp_20
      clear ct_21 ft_21
      clear cq_22 fq_22
      have HK_23 : Hid (∀ w' : World, Below w2.heap.size w2 w' → w'.cell? ⟨w.heap.size, 0, none⟩ = some (.slice A n c) ∧ w'.cell? ⟨w.heap.size, 1, none⟩ = some (.slice C m d) ∧ w'.cell? ⟨w.heap.size + 1, 0, none⟩ = some (.slice T q e0) ∧ w'.cell? ⟨w.heap.size + 1, 1, none⟩ = some (.slice X p f0) ∧ w'.cell? ⟨w.heap.size + 1 + 1, 0, none⟩ = some (.int .i64 fa) ∧ w'.cell? ⟨w.heap.size + 1 + 1, 1, none⟩ = some (.int .i64 ft) ∧ Below w2.heap.size w2 w') := fun w' hb => ⟨(Below.cell (p := ⟨w.heap.size, 0, none⟩) hb lp_23).trans dp0_23.out, (Below.cell (p := ⟨w.heap.size, 1, none⟩) hb lp_23).trans dp1_23.out, (Below.cell (p := ⟨w.heap.size + 1, 0, none⟩) hb lt_23).trans dt0_23.out, (Below.cell (p := ⟨w.heap.size + 1, 1, none⟩) hb lt_23).trans dt1_23.out, (Below.cell (p := ⟨w.heap.size + 1 + 1, 0, none⟩) hb lq_23).trans dq0_23.out, (Below.cell (p := ⟨w.heap.size + 1 + 1, 1, none⟩) hb lq_23).trans dq1_23.out, hb⟩
      have HA_23 := Lib.hid B_18
      have lo_23 := B_18.size
      go_cut [8] (fun s8 wx => ∃ B : Nat, s8 = .pointer (some ⟨B, 0, none⟩) ∧ w2.heap.size ≤ B ∧ Bx wx B 77 #[.int .i64 y1, .int .i64 y2] ∧ Below w2.heap.size w2 wx)
      case first =>
        go_region_held3 (fun w' => w'.cell? ⟨w.heap.size, 0, none⟩ = some (.slice A n c) ∧ w'.cell? ⟨w.heap.size, 1, none⟩ = some (.slice C m d) ∧ w'.cell? ⟨w.heap.size + 1, 0, none⟩ = some (.slice T q e0) ∧ w'.cell? ⟨w.heap.size + 1, 1, none⟩ = some (.slice X p f0) ∧ w'.cell? ⟨w.heap.size + 1 + 1, 0, none⟩ = some (.int .i64 fa) ∧ w'.cell? ⟨w.heap.size + 1 + 1, 1, none⟩ = some (.int .i64 ft) ∧ Below w2.heap.size w2 w') ((refine HK_23.out _ ?_; first | exact (Below.refl _ _).drew | assumption | exact Below.alloc (Below.refl _ _).drew (Nat.le_refl _) _ | exact ((Below.refl _ _).alloc (Nat.le_refl _) _).drew | exact Below.alloc (by assumption) (Below.size (by assumption)) _ | exact (Below.setCell (p := ⟨_, 1, none⟩) (Below.setCell (p := ⟨_, 0, none⟩) (by assumption) (by first | exact x0.1 | (show _ ≤ _; omega)) _) (by first | exact x0.1 | (show _ ≤ _; omega)) _) | go_grown))
          (first
            | (go_at_call 15; go_split_ands; refine (to2 A C n c m d hs ats cs _ w2 w2.heap.size (HRS.out.below (HA_23.out.trans (Below.mono (by assumption) HA_23.out.size)) (Nat.le_refl _)) (by omega) (by omega) (by omega) HOk.out HCs.out (by assumption) (Nat.le_refl _)).mono ?_; rintro e w' ⟨⟨ga8, gb8, gs8, rfl, r8, c8⟩, b8⟩; (first | (replace x0 := x0.next c8) | (have x0 := Lain.first c8) | (have x0 := Lain.mid (v0 := w2) (by assumption) c8) | skip))
            | (go_at_call 36; go_split_ands; refine (to3 T X q e0 p f0 gs ts xss _ w2 w2.heap.size (HST.out.below (HA_23.out.trans (Below.mono (by assumption) HA_23.out.size)) (Nat.le_refl _)) (by assumption) (Nat.le_refl _)).mono ?_; rintro e w' ⟨⟨ga7, gb7, gs7, rfl, r7, c7⟩, b7⟩; (try (first | (replace r8 := r8.below c7 (Nat.le_refl _)) | (replace r8 := (r8.below (below_alloc1 _) (Nat.le_refl _)).below c7 (Nat.le_refl _)))); (first | (replace x0 := x0.next c7) | (have x0 := Lain.first c7) | (have x0 := Lain.mid (v0 := w2) (by assumption) c7) | skip))
            | (go_at_call 21; go_split_ands; refine (lift2 (W0 := w2) (B := w2.heap.size) (toFork_any fa ft _) (by assumption) (Nat.le_refl _)).mono ?_; rintro e w' ⟨rfl, c6, b6⟩; (try (first | (replace r8 := r8.below c6 (Nat.le_refl _)) | (replace r8 := (r8.below (below_alloc1 _) (Nat.le_refl _)).below c6 (Nat.le_refl _)))); (try (first | (replace r7 := r7.below c6 (Nat.le_refl _)) | (replace r7 := (r7.below (below_alloc1 _) (Nat.le_refl _)).below c6 (Nat.le_refl _)))); (first | (replace x0 := x0.next c6) | (have x0 := Lain.first c6) | (have x0 := Lain.mid (v0 := w2) (by assumption) c6) | skip))
            | (go_at_call 52; go_split_ands; (first | (refine (lift2 (W0 := w2) (B := w2.heap.size) (sMerit_any _ _ _ _ _ _ _ ats cs _ _ _ _ _ _ _ ts xss _ r8 r7 fa ft) (by assumption) (Nat.le_refl _)).mono ?_) | (refine (lift2 (W0 := w2) (B := w2.heap.size) (sMerit_any _ _ _ _ _ _ _ ats cs _ _ _ _ _ _ _ ts xss _ (r8.below (below_alloc1 _) (Nat.le_refl _)) (r7.below (below_alloc1 _) (Nat.le_refl _)) fa ft) (by assumption) (Nat.le_refl _)).mono ?_)); rw [HD1.out, HD2.out]; rintro e wl ⟨rfl, c9, b9⟩; (first | (replace x0 := x0.next c9) | (have x0 := Lain.first c9) | (have x0 := Lain.mid (v0 := w2) (by assumption) c9) | skip); (try (have xc0 := x0.2.cells 0; have xf0 := x0.2.free 0; have xc1 := x0.2.cells 1; have xf1 := x0.2.free 1; simp at xc0 xc1))))
        all_goals (go_wp2_with fail; go_meet)
        all_goals (refine ⟨_, rfl, ?_, ?_, ?_⟩)
        all_goals (first | exact x0.1 | exact Below.size (by assumption) | omega | exact Bx.new _ _ _ | exact ((x0.2.set_ 0 _).set_ 1 _) | assumption | exact Below.alloc (by assumption) (Below.size (by assumption)) _ | exact (Below.setCell (p := ⟨_, 1, none⟩) (Below.setCell (p := ⟨_, 0, none⟩) (by assumption) (by first | exact x0.1 | (show _ ≤ _; omega)) _) (by first | exact x0.1 | (show _ ≤ _; omega)) _) | (go_grown; done))
      obtain ⟨Bv0, rfl, hBv0, hxv0, b_23⟩ := hcut
      have lx_23 := hxv0.lt
      obtain ⟨w3, rfl⟩ : ∃ w3 : World, w3 = wc := ⟨_, rfl⟩
      have t_23 := b_23.size
      have z_23 : w.heap.size ≤ w3.heap.size := by omega
      have p_24 := p_19.same (same_below b_23 (by omega))
      clear p_19
      have t_24 := t_19.same (same_below b_23 (by omega))
      clear t_19
      have q_24 := q_19.same (same_below b_23 (by omega))
      clear q_19
      have B_23 := B_18.trans (b_23.mono (by omega))
      clear B_18 b_23
      have cp_25 := p_24.cells
      have fp_25 := p_24.free
      have ct_26 := t_24.cells
      have ft_26 := t_24.free
      have cq_27 := q_24.cells
      have fq_27 := q_24.free
      have cv0_28 := hxv0.cells
      have fv0_28 := hxv0.free
      go_wp2_with fail
      refine (toSchema_any A C n c m d hs ats cs _ (HRS.out.below B_23 (Nat.le_refl _)) (by omega) (by omega) (by omega)).mono ?_
      rintro e w4 ⟨g1, g2, midx, gsx, rfl, o, b⟩
      clear cp_25 fp_25
      clear ct_26 ft_26
      clear cq_27 fq_27
      clear cv0_28 fv0_28
      have t_29 := b.size
      have z_29 : w.heap.size ≤ w4.heap.size := by omega
      have p_30 := p_24.same (same_below b (by omega))
      clear p_24
      have t_30 := t_24.same (same_below b (by omega))
      clear t_24
      have q_30 := q_24.same (same_below b (by omega))
      clear q_24
      have v0_30 := hxv0.same (same_below b (by omega))
      clear hxv0
      have B_29 := B_23.trans (b.mono (by omega))
      clear B_23 b
      have x_29 := o
      clear o
      have cp_31 := p_30.cells
      have fp_31 := p_30.free
      have ct_32 := t_30.cells
      have ft_32 := t_30.free
      have cq_33 := q_30.cells
      have fq_33 := q_30.free
      have cv0_34 := v0_30.cells
      have fv0_34 := v0_30.free
      clear cp_31 fp_31
      clear ct_32 ft_32
      clear cq_33 fq_33
      clear cv0_34 fv0_34
      have p_35 := p_30.same (same_alloc (.cells #[.slice (some ⟨g1, 0, none⟩) n n, .slice (some ⟨g2, 0, none⟩) m m] 31) (by omega))
      clear p_30
      have t_35 := t_30.same (same_alloc (.cells #[.slice (some ⟨g1, 0, none⟩) n n, .slice (some ⟨g2, 0, none⟩) m m] 31) (by omega))
      clear t_30
      have q_35 := q_30.same (same_alloc (.cells #[.slice (some ⟨g1, 0, none⟩) n n, .slice (some ⟨g2, 0, none⟩) m m] 31) (by omega))
      clear q_30
      have v0_35 := v0_30.same (same_alloc (.cells #[.slice (some ⟨g1, 0, none⟩) n n, .slice (some ⟨g2, 0, none⟩) m m] 31) (by omega))
      clear v0_30
      have x_35 := x_29.same (same_alloc (.cells #[.slice (some ⟨g1, 0, none⟩) n n, .slice (some ⟨g2, 0, none⟩) m m] 31) (by omega))
      clear x_29
      have x0_36 : Bx (w4.alloc (.cells #[.slice (some ⟨g1, 0, none⟩) n n, .slice (some ⟨g2, 0, none⟩) m m] 31)) (w4.heap.size) 31 #[.slice (some ⟨g1, 0, none⟩) n n, .slice (some ⟨g2, 0, none⟩) m m] := Bx.new _ _ _
      have B_36 := B_29.alloc z_29 (.cells #[.slice (some ⟨g1, 0, none⟩) n n, .slice (some ⟨g2, 0, none⟩) m m] 31)
      clear B_29
      have cp_37 := p_35.cells
      have fp_37 := p_35.free
      have ct_38 := t_35.cells
      have ft_38 := t_35.free
      have cq_39 := q_35.cells
      have fq_39 := q_35.free
      have cv0_40 := v0_35.cells
      have fv0_40 := v0_35.free
      have cx0_41 := x0_36.cells
      have fx0_41 := x0_36.free
      go_wp2_with fail
      refine (toStats_any T X q e0 p f0 gs ts xss _ (HST.out.below B_36 (Nat.le_refl _))).mono ?_
      rintro e w5 ⟨g3, g4, midy, gsy, rfl, o, b⟩
      clear cp_37 fp_37
      clear ct_38 ft_38
      clear cq_39 fq_39
      clear cv0_40 fv0_40
      clear cx0_41 fx0_41
      simp only [World.size_alloc] at b o
      have t_42 := b.size
      simp only [World.size_alloc] at t_42
      have z_42 : w.heap.size ≤ w5.heap.size := by omega
      have p_43 := p_35.same (same_below b (by omega))
      clear p_35
      have t_43 := t_35.same (same_below b (by omega))
      clear t_35
      have q_43 := q_35.same (same_below b (by omega))
      clear q_35
      have v0_43 := v0_35.same (same_below b (by omega))
      clear v0_35
      have x_43 := x_35.same (same_below b (by omega))
      clear x_35
      have x0_43 := x0_36.same (same_below b (by omega))
      clear x0_36
      have B_42 := B_36.trans (b.mono (by omega))
      clear B_36 b
      have y_42 := o
      clear o
      have cp_44 := p_43.cells
      have fp_44 := p_43.free
      have ct_45 := t_43.cells
      have ft_45 := t_43.free
      have cq_46 := q_43.cells
      have fq_46 := q_43.free
      have cv0_47 := v0_43.cells
      have fv0_47 := v0_43.free
      have cx0_48 := x0_43.cells
      have fx0_48 := x0_43.free
      clear cp_44 fp_44
      clear ct_45 ft_45
      clear cq_46 fq_46
      clear cv0_47 fv0_47
      clear cx0_48 fx0_48
      have p_49 := p_43.same (same_alloc (.cells #[.slice (some ⟨g3, 0, none⟩) q q, .slice (some ⟨g4, 0, none⟩) p p] 58) (by omega))
      clear p_43
      have t_49 := t_43.same (same_alloc (.cells #[.slice (some ⟨g3, 0, none⟩) q q, .slice (some ⟨g4, 0, none⟩) p p] 58) (by omega))
      clear t_43
      have q_49 := q_43.same (same_alloc (.cells #[.slice (some ⟨g3, 0, none⟩) q q, .slice (some ⟨g4, 0, none⟩) p p] 58) (by omega))
      clear q_43
      have v0_49 := v0_43.same (same_alloc (.cells #[.slice (some ⟨g3, 0, none⟩) q q, .slice (some ⟨g4, 0, none⟩) p p] 58) (by omega))
      clear v0_43
      have x_49 := x_43.same (same_alloc (.cells #[.slice (some ⟨g3, 0, none⟩) q q, .slice (some ⟨g4, 0, none⟩) p p] 58) (by omega))
      clear x_43
      have x0_49 := x0_43.same (same_alloc (.cells #[.slice (some ⟨g3, 0, none⟩) q q, .slice (some ⟨g4, 0, none⟩) p p] 58) (by omega))
      clear x0_43
      have y_49 := y_42.same (same_alloc (.cells #[.slice (some ⟨g3, 0, none⟩) q q, .slice (some ⟨g4, 0, none⟩) p p] 58) (by omega))
      clear y_42
      have y0_50 : Bx (w5.alloc (.cells #[.slice (some ⟨g3, 0, none⟩) q q, .slice (some ⟨g4, 0, none⟩) p p] 58)) (w5.heap.size) 58 #[.slice (some ⟨g3, 0, none⟩) q q, .slice (some ⟨g4, 0, none⟩) p p] := Bx.new _ _ _
      have B_50 := B_42.alloc z_42 (.cells #[.slice (some ⟨g3, 0, none⟩) q q, .slice (some ⟨g4, 0, none⟩) p p] 58)
      clear B_42
      have cp_51 := p_49.cells
      have fp_51 := p_49.free
      have ct_52 := t_49.cells
      have ft_52 := t_49.free
      have cq_53 := q_49.cells
      have fq_53 := q_49.free
      have cv0_54 := v0_49.cells
      have fv0_54 := v0_49.free
      have cx0_55 := x0_49.cells
      have fx0_55 := x0_49.free
      have cy0_56 := y0_50.cells
      have fy0_56 := y0_50.free
      go_upto_region 11 with fail
      clear cp_51 fp_51
      clear ct_52 ft_52
      clear cq_53 fq_53
      clear cv0_54 fv0_54
      clear cx0_55 fx0_55
      clear cy0_56 fy0_56
      obtain ⟨v57, hv57⟩ : ∃ v57, v57 = (w5.alloc (.cells #[.slice (some ⟨g3, 0, none⟩) q q, .slice (some ⟨g4, 0, none⟩) p p] 58)) := ⟨_, rfl⟩
      have zv57 : w5.heap.size + 1 ≤ v57.heap.size := by rw [hv57]; simp
      rw [← hv57] at p_49 t_49 q_49 v0_49 x_49 x0_49 y_49 y0_50 B_50 ⊢
      clear hv57
      have HXs := Lib.hid (x_49.sch (by omega) (by omega) (by omega) HOk.out HCs.out); have HYs := Lib.hid (y_49.sta (by omega) (by omega) (by omega))
      go_upto_region 11 with fail
      have lx0_58 := x0_49.lt
      have dx00_58 : Hid (v57.cell? ⟨w4.heap.size, 0, none⟩ = some (.slice (some ⟨g1, 0, none⟩) n n)) := x0_49.cells 0
      have dx01_58 : Hid (v57.cell? ⟨w4.heap.size, 1, none⟩ = some (.slice (some ⟨g2, 0, none⟩) m m)) := x0_49.cells 1
      have ly0_58 := y0_50.lt
      have dy00_58 : Hid (v57.cell? ⟨w5.heap.size, 0, none⟩ = some (.slice (some ⟨g3, 0, none⟩) q q)) := y0_50.cells 0
      have dy01_58 : Hid (v57.cell? ⟨w5.heap.size, 1, none⟩ = some (.slice (some ⟨g4, 0, none⟩) p p)) := y0_50.cells 1
      have lq_58 := q_49.lt
      have dq0_58 : Hid (v57.cell? ⟨w.heap.size + 1 + 1, 0, none⟩ = some (.int .i64 fa)) := q_49.cells 0
      have dq1_58 : Hid (v57.cell? ⟨w.heap.size + 1 + 1, 1, none⟩ = some (.int .i64 ft)) := q_49.cells 1
      have HK_58 : Hid (∀ w' : World, Below v57.heap.size v57 w' → w'.cell? ⟨w4.heap.size, 0, none⟩ = some (.slice (some ⟨g1, 0, none⟩) n n) ∧ w'.cell? ⟨w4.heap.size, 1, none⟩ = some (.slice (some ⟨g2, 0, none⟩) m m) ∧ w'.cell? ⟨w5.heap.size, 0, none⟩ = some (.slice (some ⟨g3, 0, none⟩) q q) ∧ w'.cell? ⟨w5.heap.size, 1, none⟩ = some (.slice (some ⟨g4, 0, none⟩) p p) ∧ w'.cell? ⟨w.heap.size + 1 + 1, 0, none⟩ = some (.int .i64 fa) ∧ w'.cell? ⟨w.heap.size + 1 + 1, 1, none⟩ = some (.int .i64 ft) ∧ Below v57.heap.size v57 w') := fun w' hb => ⟨(Below.cell (p := ⟨w4.heap.size, 0, none⟩) hb lx0_58).trans dx00_58.out, (Below.cell (p := ⟨w4.heap.size, 1, none⟩) hb lx0_58).trans dx01_58.out, (Below.cell (p := ⟨w5.heap.size, 0, none⟩) hb ly0_58).trans dy00_58.out, (Below.cell (p := ⟨w5.heap.size, 1, none⟩) hb ly0_58).trans dy01_58.out, (Below.cell (p := ⟨w.heap.size + 1 + 1, 0, none⟩) hb lq_58).trans dq0_58.out, (Below.cell (p := ⟨w.heap.size + 1 + 1, 1, none⟩) hb lq_58).trans dq1_58.out, hb⟩
      have HA_58 := Lib.hid B_50
      have lo_58 := B_50.size
      go_cut [11] (fun s8 wx => ∃ B : Nat, s8 = .pointer (some ⟨B, 0, none⟩) ∧ v57.heap.size ≤ B ∧ Bx wx B 77 #[.int .i64 y1, .int .i64 y2] ∧ Below v57.heap.size v57 wx)
      case first =>
        go_region_held3 (fun w' => w'.cell? ⟨w4.heap.size, 0, none⟩ = some (.slice (some ⟨g1, 0, none⟩) n n) ∧ w'.cell? ⟨w4.heap.size, 1, none⟩ = some (.slice (some ⟨g2, 0, none⟩) m m) ∧ w'.cell? ⟨w5.heap.size, 0, none⟩ = some (.slice (some ⟨g3, 0, none⟩) q q) ∧ w'.cell? ⟨w5.heap.size, 1, none⟩ = some (.slice (some ⟨g4, 0, none⟩) p p) ∧ w'.cell? ⟨w.heap.size + 1 + 1, 0, none⟩ = some (.int .i64 fa) ∧ w'.cell? ⟨w.heap.size + 1 + 1, 1, none⟩ = some (.int .i64 ft) ∧ Below v57.heap.size v57 w') ((refine HK_58.out _ ?_; first | exact (Below.refl _ _).drew | assumption | exact Below.alloc (Below.refl _ _).drew (Nat.le_refl _) _ | exact ((Below.refl _ _).alloc (Nat.le_refl _) _).drew | exact Below.alloc (by assumption) (Below.size (by assumption)) _ | exact (Below.setCell (p := ⟨_, 1, none⟩) (Below.setCell (p := ⟨_, 0, none⟩) (by assumption) (by first | exact x0.1 | (show _ ≤ _; omega)) _) (by first | exact x0.1 | (show _ ≤ _; omega)) _) | go_grown))
          (first
            | (go_at_call 21; go_split_ands; refine (lift2 (W0 := v57) (B := v57.heap.size) (toFork_any fa ft _) (by assumption) (Nat.le_refl _)).mono ?_; rintro e w' ⟨rfl, c6, b6⟩; (try (first | (replace r8 := r8.below c6 (Nat.le_refl _)) | (replace r8 := (r8.below (below_alloc1 _) (Nat.le_refl _)).below c6 (Nat.le_refl _)))); (try (first | (replace r7 := r7.below c6 (Nat.le_refl _)) | (replace r7 := (r7.below (below_alloc1 _) (Nat.le_refl _)).below c6 (Nat.le_refl _)))); (first | (replace x0 := x0.next c6) | (have x0 := Lain.first c6) | (have x0 := Lain.mid (v0 := v57) (by assumption) c6) | skip))
            | (go_at_call 53; go_split_ands; refine (lift2 (W0 := v57) (B := v57.heap.size) (iMerit_any _ _ _ _ _ _ _ ats cs _ _ _ _ _ _ _ ts xss _ (HXs.out.below (by assumption) (Nat.le_refl _)) (HYs.out.below (by assumption) (Nat.le_refl _)) fa ft) (by assumption) (Nat.le_refl _)).mono ?_; rw [HD1.out, HD2.out]; rintro e wl ⟨rfl, c9, b9⟩; (first | (replace x0 := x0.next c9) | (have x0 := Lain.first c9) | (have x0 := Lain.mid (v0 := v57) (by assumption) c9) | skip); (try (have xc0 := x0.2.cells 0; have xf0 := x0.2.free 0; have xc1 := x0.2.cells 1; have xf1 := x0.2.free 1; simp at xc0 xc1))))
        all_goals (go_wp2_with fail; go_meet)
        all_goals (refine ⟨_, rfl, ?_, ?_, ?_⟩)
        all_goals (first | exact x0.1 | exact Below.size (by assumption) | omega | exact Bx.new _ _ _ | exact ((x0.2.set_ 0 _).set_ 1 _) | assumption | exact Below.alloc (by assumption) (Below.size (by assumption)) _ | exact (Below.setCell (p := ⟨_, 1, none⟩) (Below.setCell (p := ⟨_, 0, none⟩) (by assumption) (by first | exact x0.1 | (show _ ≤ _; omega)) _) (by first | exact x0.1 | (show _ ≤ _; omega)) _) | (go_grown; done))
      obtain ⟨Bv1, rfl, hBv1, hxv1, b_58⟩ := hcut
      have lx_58 := hxv1.lt
      obtain ⟨w6, rfl⟩ : ∃ w6 : World, w6 = wc := ⟨_, rfl⟩
      have t_58 := b_58.size
      have z_58 : w.heap.size ≤ w6.heap.size := by omega
      have p_59 := p_49.same (same_below b_58 (by omega))
      clear p_49
      have t_59 := t_49.same (same_below b_58 (by omega))
      clear t_49
      have q_59 := q_49.same (same_below b_58 (by omega))
      clear q_49
      have v0_59 := v0_49.same (same_below b_58 (by omega))
      clear v0_49
      have x_59 := x_49.same (same_below b_58 (by omega))
      clear x_49
      have x0_59 := x0_49.same (same_below b_58 (by omega))
      clear x0_49
      have y_59 := y_49.same (same_below b_58 (by omega))
      clear y_49
      have y0_59 := y0_50.same (same_below b_58 (by omega))
      clear y0_50
      have B_58 := B_50.trans (b_58.mono (by omega))
      clear B_50 b_58
      have cp_60 := p_59.cells
      have fp_60 := p_59.free
      have ct_61 := t_59.cells
      have ft_61 := t_59.free
      have cq_62 := q_59.cells
      have fq_62 := q_59.free
      have cv0_63 := v0_59.cells
      have fv0_63 := v0_59.free
      have cx0_64 := x0_59.cells
      have fx0_64 := x0_59.free
      have cy0_65 := y0_59.cells
      have fy0_65 := y0_59.free
      have cv1_66 := hxv1.cells
      have fv1_66 := hxv1.free
      go_wp2_with fail
      refine (eqFrac_same _ _ _).mono ?_
      rintro e w7 ⟨rfl, b⟩
      clear cp_60 fp_60
      clear ct_61 ft_61
      clear cq_62 fq_62
      clear cv0_63 fv0_63
      clear cx0_64 fx0_64
      clear cy0_65 fy0_65
      clear cv1_66 fv1_66
      have t_67 := b.size
      have z_67 : w.heap.size ≤ w7.heap.size := by omega
      have p_68 := p_59.same (same_below b (by omega))
      clear p_59
      have t_68 := t_59.same (same_below b (by omega))
      clear t_59
      have q_68 := q_59.same (same_below b (by omega))
      clear q_59
      have v0_68 := v0_59.same (same_below b (by omega))
      clear v0_59
      have x_68 := x_59.same (same_below b (by omega))
      clear x_59
      have x0_68 := x0_59.same (same_below b (by omega))
      clear x0_59
      have y_68 := y_59.same (same_below b (by omega))
      clear y_59
      have y0_68 := y0_59.same (same_below b (by omega))
      clear y0_59
      have v1_68 := hxv1.same (same_below b (by omega))
      clear hxv1
      have B_67 := B_58.trans (b.mono (by omega))
      clear B_58 b
      have cp_69 := p_68.cells
      have fp_69 := p_68.free
      have ct_70 := t_68.cells
      have ft_70 := t_68.free
      have cq_71 := q_68.cells
      have fq_71 := q_68.free
      have cv0_72 := v0_68.cells
      have fv0_72 := v0_68.free
      have cx0_73 := x0_68.cells
      have fx0_73 := x0_68.free
      have cy0_74 := y0_68.cells
      have fy0_74 := y0_68.free
      have cv1_75 := v1_68.cells
      have fv1_75 := v1_68.free
      go_wp2_with fail
      have lp_76 := p_68.lt
      have dp0_76 : Hid (w7.cell? ⟨w.heap.size, 0, none⟩ = some (.slice A n c)) := p_68.cells 0
      have dp1_76 : Hid (w7.cell? ⟨w.heap.size, 1, none⟩ = some (.slice C m d)) := p_68.cells 1
      have lx0_76 := x0_68.lt
      have dx00_76 : Hid (w7.cell? ⟨w4.heap.size, 0, none⟩ = some (.slice (some ⟨g1, 0, none⟩) n n)) := x0_68.cells 0
      have dx01_76 : Hid (w7.cell? ⟨w4.heap.size, 1, none⟩ = some (.slice (some ⟨g2, 0, none⟩) m m)) := x0_68.cells 1
      clear cp_69 fp_69
      clear ct_70 ft_70
      clear cq_71 fq_71
      clear cv0_72 fv0_72
      clear cx0_73 fx0_73
      clear cy0_74 fy0_74
      clear cv1_75 fv1_75
      have HA_76 := Lib.hid B_67
      go_region_held3 (fun w' => w'.cell? ⟨w.heap.size, 0, none⟩ = some (.slice A n c) ∧ w'.cell? ⟨w.heap.size, 1, none⟩ = some (.slice C m d) ∧ w'.cell? ⟨w4.heap.size, 0, none⟩ = some (.slice (some ⟨g1, 0, none⟩) n n) ∧ w'.cell? ⟨w4.heap.size, 1, none⟩ = some (.slice (some ⟨g2, 0, none⟩) m m) ∧ Below w7.heap.size w7 w')
        (first
          | exact ⟨dp0_76.out, dp1_76.out, dx00_76.out, dx01_76.out, (Below.refl _ _).drew⟩
          | exact ⟨(Below.cell (p := ⟨w.heap.size, 0, none⟩) b9 lp_76).trans dp0_76.out, (Below.cell (p := ⟨w.heap.size, 1, none⟩) b9 lp_76).trans dp1_76.out, (Below.cell (p := ⟨w4.heap.size, 0, none⟩) b9 lx0_76).trans dx00_76.out, (Below.cell (p := ⟨w4.heap.size, 1, none⟩) b9 lx0_76).trans dx01_76.out, b9⟩
          | exact ⟨(Below.cell (p := ⟨w.heap.size, 0, none⟩) b8 lp_76).trans dp0_76.out, (Below.cell (p := ⟨w.heap.size, 1, none⟩) b8 lp_76).trans dp1_76.out, (Below.cell (p := ⟨w4.heap.size, 0, none⟩) b8 lx0_76).trans dx00_76.out, (Below.cell (p := ⟨w4.heap.size, 1, none⟩) b8 lx0_76).trans dx01_76.out, b8⟩)
        (first
          | (go_at_call 15; go_split_ands; refine (to2 A C n c m d hs ats cs _ w7 w7.heap.size (HRS.out.below (HA_76.out.trans (Below.mono (by assumption) HA_76.out.size)) (Nat.le_refl _)) (by omega) (by omega) (by omega) HOk.out HCs.out (by assumption) (Nat.le_refl _)).mono ?_; rintro e w' ⟨⟨ga8, gb8, gs8, rfl, r8, c8⟩, b8⟩)
          | (go_at_call 18; refine (lift (W0 := w7) (B := w7.heap.size) (eqSchema_same _ _ _ _ n _ m _ _ _ _ _ ats cs _ (x_68.rd.below (by assumption) (Nat.le_refl _)) r8.rd (by omega) (by omega) (by omega)) (by assumption) (Nat.le_refl _)).mono ?_; rintro e w8 ⟨rfl, b9⟩))
      have t_76 := b9.size
      have z_76 : w.heap.size ≤ w8.heap.size := by omega
      have p_77 := p_68.same (same_below b9 (by omega))
      clear p_68
      have t_77 := t_68.same (same_below b9 (by omega))
      clear t_68
      have q_77 := q_68.same (same_below b9 (by omega))
      clear q_68
      have v0_77 := v0_68.same (same_below b9 (by omega))
      clear v0_68
      have x_77 := x_68.same (same_below b9 (by omega))
      clear x_68
      have x0_77 := x0_68.same (same_below b9 (by omega))
      clear x0_68
      have y_77 := y_68.same (same_below b9 (by omega))
      clear y_68
      have y0_77 := y0_68.same (same_below b9 (by omega))
      clear y0_68
      have v1_77 := v1_68.same (same_below b9 (by omega))
      clear v1_68
      have B_76 := B_67.trans (b9.mono (by omega))
      clear B_67 b9
      have cp_78 := p_77.cells
      have fp_78 := p_77.free
      have ct_79 := t_77.cells
      have ft_79 := t_77.free
      have cq_80 := q_77.cells
      have fq_80 := q_77.free
      have cv0_81 := v0_77.cells
      have fv0_81 := v0_77.free
      have cx0_82 := x0_77.cells
      have fx0_82 := x0_77.free
      have cy0_83 := y0_77.cells
      have fy0_83 := y0_77.free
      have cv1_84 := v1_77.cells
      have fv1_84 := v1_77.free
      go_wp2_with fail
      have lt_85 := t_77.lt
      have dt0_85 : Hid (w8.cell? ⟨w.heap.size + 1, 0, none⟩ = some (.slice T q e0)) := t_77.cells 0
      have dt1_85 : Hid (w8.cell? ⟨w.heap.size + 1, 1, none⟩ = some (.slice X p f0)) := t_77.cells 1
      have ly0_85 := y0_77.lt
      have dy00_85 : Hid (w8.cell? ⟨w5.heap.size, 0, none⟩ = some (.slice (some ⟨g3, 0, none⟩) q q)) := y0_77.cells 0
      have dy01_85 : Hid (w8.cell? ⟨w5.heap.size, 1, none⟩ = some (.slice (some ⟨g4, 0, none⟩) p p)) := y0_77.cells 1
      clear cp_78 fp_78
      clear ct_79 ft_79
      clear cq_80 fq_80
      clear cv0_81 fv0_81
      clear cx0_82 fx0_82
      clear cy0_83 fy0_83
      clear cv1_84 fv1_84
      have HA_85 := Lib.hid B_76
      go_region_held3 (fun w' => w'.cell? ⟨w.heap.size + 1, 0, none⟩ = some (.slice T q e0) ∧ w'.cell? ⟨w.heap.size + 1, 1, none⟩ = some (.slice X p f0) ∧ w'.cell? ⟨w5.heap.size, 0, none⟩ = some (.slice (some ⟨g3, 0, none⟩) q q) ∧ w'.cell? ⟨w5.heap.size, 1, none⟩ = some (.slice (some ⟨g4, 0, none⟩) p p) ∧ Below w8.heap.size w8 w')
        (first
          | exact ⟨dt0_85.out, dt1_85.out, dy00_85.out, dy01_85.out, (Below.refl _ _).drew⟩
          | exact ⟨(Below.cell (p := ⟨w.heap.size + 1, 0, none⟩) b9 lt_85).trans dt0_85.out, (Below.cell (p := ⟨w.heap.size + 1, 1, none⟩) b9 lt_85).trans dt1_85.out, (Below.cell (p := ⟨w5.heap.size, 0, none⟩) b9 ly0_85).trans dy00_85.out, (Below.cell (p := ⟨w5.heap.size, 1, none⟩) b9 ly0_85).trans dy01_85.out, b9⟩
          | exact ⟨(Below.cell (p := ⟨w.heap.size + 1, 0, none⟩) b8 lt_85).trans dt0_85.out, (Below.cell (p := ⟨w.heap.size + 1, 1, none⟩) b8 lt_85).trans dt1_85.out, (Below.cell (p := ⟨w5.heap.size, 0, none⟩) b8 ly0_85).trans dy00_85.out, (Below.cell (p := ⟨w5.heap.size, 1, none⟩) b8 ly0_85).trans dy01_85.out, b8⟩)
        (first
          | (go_at_call 36; go_split_ands; refine (to3 T X q e0 p f0 gs ts xss _ w8 w8.heap.size (HST.out.below (HA_85.out.trans (Below.mono (by assumption) HA_85.out.size)) (Nat.le_refl _)) (by assumption) (Nat.le_refl _)).mono ?_; rintro e w' ⟨⟨ga8, gb8, gs8, rfl, r8, c8⟩, b8⟩)
          | (go_at_call 38; refine (lift (W0 := w8) (B := w8.heap.size) (eqStats_same _ _ _ _ q _ p _ _ _ _ _ ts xss _ ((y_77.sta (by omega) (by omega) (by omega)).below (by assumption) (Nat.le_refl _)) r8) (by assumption) (Nat.le_refl _)).mono ?_; rintro e w9 ⟨rfl, b9⟩))
      have t_85 := b9.size
      have z_85 : w.heap.size ≤ w9.heap.size := by omega
      have p_86 := p_77.same (same_below b9 (by omega))
      clear p_77
      have t_86 := t_77.same (same_below b9 (by omega))
      clear t_77
      have q_86 := q_77.same (same_below b9 (by omega))
      clear q_77
      have v0_86 := v0_77.same (same_below b9 (by omega))
      clear v0_77
      have x_86 := x_77.same (same_below b9 (by omega))
      clear x_77
      have x0_86 := x0_77.same (same_below b9 (by omega))
      clear x0_77
      have y_86 := y_77.same (same_below b9 (by omega))
      clear y_77
      have y0_86 := y0_77.same (same_below b9 (by omega))
      clear y0_77
      have v1_86 := v1_77.same (same_below b9 (by omega))
      clear v1_77
      have B_85 := B_76.trans (b9.mono (by omega))
      clear B_76 b9
      have cp_87 := p_86.cells
      have fp_87 := p_86.free
      have ct_88 := t_86.cells
      have ft_88 := t_86.free
      have cq_89 := q_86.cells
      have fq_89 := q_86.free
      have cv0_90 := v0_86.cells
      have fv0_90 := v0_86.free
      have cx0_91 := x0_86.cells
      have fx0_91 := x0_86.free
      have cy0_92 := y0_86.cells
      have fy0_92 := y0_86.free
      have cv1_93 := v1_86.cells
      have fv1_93 := v1_86.free
      go_wp2_with fail
      go_ret
      exact ⟨rfl, B_85⟩
    · have HZT := Lib.hid (szI_no (left := (1048576 - ((n : Int) + (asTot ats : Int) + ((m : Int) + (bytesOf cs : Int))))) (n := ((q : Int) + ((p : Int) + (tot (iss xss) : Int)))) (by omega))
      have B0 := Below.refl w.heap.size w
      have s0 : w.heap.size ≤ w.heap.size := Nat.le_refl _
      go_enter Try.func12, Try.ntmps12
      have p_2 : Bx (w.alloc (.cells #[.slice A n c, .slice C m d] 25)) (w.heap.size) 25 #[.slice A n c, .slice C m d] := Bx.new _ _ _
      have B_2 := B0.alloc s0 (.cells #[.slice A n c, .slice C m d] 25)
      clear B0
      have cp_3 := p_2.cells
      have fp_3 := p_2.free
      clear cp_3 fp_3
      have p_4 := p_2.same (same_alloc (.cells #[.slice T q e0, .slice X p f0] 55) (by simp only [World.size_alloc]; omega))
      clear p_2
      have t_5 : Bx ((w.alloc (.cells #[.slice A n c, .slice C m d] 25)).alloc (.cells #[.slice T q e0, .slice X p f0] 55)) (w.heap.size + 1) 55 #[.slice T q e0, .slice X p f0] := by
        have h := Bx.new (w.alloc (.cells #[.slice A n c, .slice C m d] 25)) 55 #[.slice T q e0, .slice X p f0]
        simpa only [World.size_alloc] using h
      have B_5 := B_2.alloc (by simp only [World.size_alloc]; omega) (.cells #[.slice T q e0, .slice X p f0] 55)
      clear B_2
      have cp_6 := p_4.cells
      have fp_6 := p_4.free
      have ct_7 := t_5.cells
      have ft_7 := t_5.free
      clear cp_6 fp_6
      clear ct_7 ft_7
      have p_8 := p_4.same (same_alloc (.cells #[.int .i64 fa, .int .i64 ft] 38) (by simp only [World.size_alloc]; omega))
      clear p_4
      have t_8 := t_5.same (same_alloc (.cells #[.int .i64 fa, .int .i64 ft] 38) (by simp only [World.size_alloc]; omega))
      clear t_5
      have q_9 : Bx (((w.alloc (.cells #[.slice A n c, .slice C m d] 25)).alloc (.cells #[.slice T q e0, .slice X p f0] 55)).alloc (.cells #[.int .i64 fa, .int .i64 ft] 38)) (w.heap.size + 1 + 1) 38 #[.int .i64 fa, .int .i64 ft] := by
        have h := Bx.new ((w.alloc (.cells #[.slice A n c, .slice C m d] 25)).alloc (.cells #[.slice T q e0, .slice X p f0] 55)) 38 #[.int .i64 fa, .int .i64 ft]
        simpa only [World.size_alloc] using h
      have B_9 := B_5.alloc (by simp only [World.size_alloc]; omega) (.cells #[.int .i64 fa, .int .i64 ft] 38)
      clear B_5
      have cp_10 := p_8.cells
      have fp_10 := p_8.free
      have ct_11 := t_8.cells
      have ft_11 := t_8.free
      have cq_12 := q_9.cells
      have fq_12 := q_9.free
      go_wp2_with fail
      refine (szSchema_any A C n c m d hs ats cs 1048576 _ (HRS.out.below B_9 (Nat.le_refl _)).at_ (HRS.out.below B_9 (Nat.le_refl _)).cl HOk.out HHs.out HCs.out (by omega) (by omega) (by omega) (by omega)).mono ?_
      rw [HZ.out]
      rintro e w1 ⟨rfl, b⟩
      clear cp_10 fp_10
      clear ct_11 ft_11
      clear cq_12 fq_12
      simp only [World.size_alloc] at b
      have t_13 := b.size
      simp only [World.size_alloc] at t_13
      have z_13 : w.heap.size ≤ w1.heap.size := by omega
      have p_14 := p_8.same (same_below b (by omega))
      clear p_8
      have t_14 := t_8.same (same_below b (by omega))
      clear t_8
      have q_14 := q_9.same (same_below b (by omega))
      clear q_9
      have B_13 := B_9.trans (b.mono (by omega))
      clear B_9 b
      have cp_15 := p_14.cells
      have fp_15 := p_14.free
      have ct_16 := t_14.cells
      have ft_16 := t_14.free
      have cq_17 := q_14.cells
      have fq_17 := q_14.free
      go_wp2_with fail
      refine (szStats_any T X q e0 p f0 gs xss (1048576 - ((n : Int) + (asTot ats : Int) + ((m : Int) + (bytesOf cs : Int)))) _ (HRX.out.below B_13 (Nat.le_refl _)) HBX.out (by omega) (by omega) (by omega) (by omega)).mono ?_
      rw [HZT.out]
      rintro e w2 ⟨rfl, b⟩
      clear cp_15 fp_15
      clear ct_16 ft_16
      clear cq_17 fq_17
      have t_18 := b.size
      have z_18 : w.heap.size ≤ w2.heap.size := by omega
      have p_19 := p_14.same (same_below b (by omega))
      clear p_14
      have t_19 := t_14.same (same_below b (by omega))
      clear t_14
      have q_19 := q_14.same (same_below b (by omega))
      clear q_14
      have B_18 := B_13.trans (b.mono (by omega))
      clear B_13 b
      have cp_20 := p_19.cells
      have fp_20 := p_19.free
      have ct_21 := t_19.cells
      have ft_21 := t_19.free
      have cq_22 := q_19.cells
      have fq_22 := q_19.free
      go_wp2_with fail
      go_ret
      exact ⟨rfl, B_18⟩
  · have HZ := Lib.hid (szI_no (left := 1048576) (n := ((n : Int) + (asTot ats : Int) + ((m : Int) + (bytesOf cs : Int)))) (by omega))
    have B0 := Below.refl w.heap.size w
    have s0 : w.heap.size ≤ w.heap.size := Nat.le_refl _
    go_enter Try.func12, Try.ntmps12
    have p_2 : Bx (w.alloc (.cells #[.slice A n c, .slice C m d] 25)) (w.heap.size) 25 #[.slice A n c, .slice C m d] := Bx.new _ _ _
    have B_2 := B0.alloc s0 (.cells #[.slice A n c, .slice C m d] 25)
    clear B0
    have cp_3 := p_2.cells
    have fp_3 := p_2.free
    clear cp_3 fp_3
    have p_4 := p_2.same (same_alloc (.cells #[.slice T q e0, .slice X p f0] 55) (by simp only [World.size_alloc]; omega))
    clear p_2
    have t_5 : Bx ((w.alloc (.cells #[.slice A n c, .slice C m d] 25)).alloc (.cells #[.slice T q e0, .slice X p f0] 55)) (w.heap.size + 1) 55 #[.slice T q e0, .slice X p f0] := by
      have h := Bx.new (w.alloc (.cells #[.slice A n c, .slice C m d] 25)) 55 #[.slice T q e0, .slice X p f0]
      simpa only [World.size_alloc] using h
    have B_5 := B_2.alloc (by simp only [World.size_alloc]; omega) (.cells #[.slice T q e0, .slice X p f0] 55)
    clear B_2
    have cp_6 := p_4.cells
    have fp_6 := p_4.free
    have ct_7 := t_5.cells
    have ft_7 := t_5.free
    clear cp_6 fp_6
    clear ct_7 ft_7
    have p_8 := p_4.same (same_alloc (.cells #[.int .i64 fa, .int .i64 ft] 38) (by simp only [World.size_alloc]; omega))
    clear p_4
    have t_8 := t_5.same (same_alloc (.cells #[.int .i64 fa, .int .i64 ft] 38) (by simp only [World.size_alloc]; omega))
    clear t_5
    have q_9 : Bx (((w.alloc (.cells #[.slice A n c, .slice C m d] 25)).alloc (.cells #[.slice T q e0, .slice X p f0] 55)).alloc (.cells #[.int .i64 fa, .int .i64 ft] 38)) (w.heap.size + 1 + 1) 38 #[.int .i64 fa, .int .i64 ft] := by
      have h := Bx.new ((w.alloc (.cells #[.slice A n c, .slice C m d] 25)).alloc (.cells #[.slice T q e0, .slice X p f0] 55)) 38 #[.int .i64 fa, .int .i64 ft]
      simpa only [World.size_alloc] using h
    have B_9 := B_5.alloc (by simp only [World.size_alloc]; omega) (.cells #[.int .i64 fa, .int .i64 ft] 38)
    clear B_5
    have cp_10 := p_8.cells
    have fp_10 := p_8.free
    have ct_11 := t_8.cells
    have ft_11 := t_8.free
    have cq_12 := q_9.cells
    have fq_12 := q_9.free
    go_wp2_with fail
    refine (szSchema_any A C n c m d hs ats cs 1048576 _ (HRS.out.below B_9 (Nat.le_refl _)).at_ (HRS.out.below B_9 (Nat.le_refl _)).cl HOk.out HHs.out HCs.out (by omega) (by omega) (by omega) (by omega)).mono ?_
    rw [HZ.out]
    rintro e w1 ⟨rfl, b⟩
    clear cp_10 fp_10
    clear ct_11 ft_11
    clear cq_12 fq_12
    simp only [World.size_alloc] at b
    have t_13 := b.size
    simp only [World.size_alloc] at t_13
    have z_13 : w.heap.size ≤ w1.heap.size := by omega
    have p_14 := p_8.same (same_below b (by omega))
    clear p_8
    have t_14 := t_8.same (same_below b (by omega))
    clear t_8
    have q_14 := q_9.same (same_below b (by omega))
    clear q_9
    have B_13 := B_9.trans (b.mono (by omega))
    clear B_9 b
    have cp_15 := p_14.cells
    have fp_15 := p_14.free
    have ct_16 := t_14.cells
    have ft_16 := t_14.free
    have cq_17 := q_14.cells
    have fq_17 := q_14.free
    go_wp2_with fail
    go_ret
    exact ⟨rfl, B_13⟩

set_option maxRecDepth 100000 in
theorem walks : Walks 12 Try.f12 := by
  intro H enc W base args ds ps hval hA _
  rw [Try.params12] at hA hval
  obtain ⟨v0, vs0, d0, ds0, p0, q0, hargs, rfl, rfl, h0, r0⟩ := trodAll_cons hA
  obtain ⟨v1, vs1, d1, ds1, p1, q1, rfl, rfl, rfl, h1, r1⟩ := trodAll_cons r0
  obtain ⟨v2, vs2, d2, ds2, p2, q2, rfl, rfl, rfl, h2, r2⟩ := trodAll_cons r1
  obtain ⟨rfl, rfl, rfl⟩ := trodAll_nil r2
  obtain rfl : args = #[v0, v1, v2] := by cases args; simp_all
  obtain ⟨cs0, rfl, hl0, nn0, hf0⟩ := open_agg Try.underlying25 (by kernel_rfl) (by kernel_rfl) (hval 0 25 v0 rfl rfl) h0
  obtain ⟨c0_0, _, e0_0, y0_0⟩ := hf0 0 _ rfl
  obtain ⟨c0_1, _, e0_1, y0_1⟩ := hf0 1 _ rfl
  obtain ⟨a0_0, a0_1, rfl⟩ : ∃ a0_0 a0_1, cs0 = [a0_0, a0_1] := by
    match cs0, hl0 with
    | [a0, a1], _ => exact ⟨a0, a1, rfl⟩
  simp only [List.getElem?_cons_zero, List.getElem?_cons_succ, Option.some.injEq] at e0_0 e0_1
  subst e0_0 e0_1
  obtain ⟨A0_0, n0_0, c0_0, g0_0, x0_0, rfl, hl0_0, hm0_0, hr0_0, hg0_0, hx0_0⟩ := open_attrs (ts := 23) (ss := 23) Try.underlying22 Try.underlying105 (by kernel_rfl) (by kernel_rfl) Try.underlying9 Try.underlying26 Try.underlying3 (by kernel_rfl) Try.underlying23 Try.underlying9 (by kernel_rfl) y0_0
  obtain ⟨A0_1, n0_1, c0_1, x0_1, rfl, hl0_1, hm0_1, hr0_1, w0_1⟩ := open_strings_rd Try.underlying23 (by kernel_rfl) Try.underlying9 y0_1
  obtain ⟨cs1, rfl, hl1, nn1, hf1⟩ := open_agg Try.underlying55 (by kernel_rfl) (by kernel_rfl) (hval 1 55 v1 rfl rfl) h1
  obtain ⟨c1_0, _, e1_0, y1_0⟩ := hf1 0 _ rfl
  obtain ⟨c1_1, _, e1_1, y1_1⟩ := hf1 1 _ rfl
  obtain ⟨a1_0, a1_1, rfl⟩ : ∃ a1_0 a1_1, cs1 = [a1_0, a1_1] := by
    match cs1, hl1 with
    | [a0, a1], _ => exact ⟨a0, a1, rfl⟩
  simp only [List.getElem?_cons_zero, List.getElem?_cons_succ, Option.some.injEq] at e1_0 e1_1
  subst e1_0 e1_1
  obtain ⟨A1_0, n1_0, c1_0, x1_0, rfl, hl1_0, hm1_0, hr1_0, w1_0⟩ := open_ints_rd Try.underlying26 (by kernel_rfl) Try.underlying3 y1_0
  obtain ⟨A1_1, n1_1, c1_1, g1_1, x1_1, rfl, hl1_1, hm1_1, hr1_1, hb1_1, w1_1⟩ := open_rows Try.underlying53 (by kernel_rfl) Try.underlying26 (by kernel_rfl) Try.underlying3 y1_1
  obtain ⟨cs2, rfl, hl2, nn2, hf2⟩ := open_agg Try.underlying38 (by kernel_rfl) (by kernel_rfl) (hval 2 38 v2 rfl rfl) h2
  obtain ⟨c2_0, _, e2_0, y2_0⟩ := hf2 0 _ rfl
  obtain ⟨c2_1, _, e2_1, y2_1⟩ := hf2 1 _ rfl
  obtain ⟨a2_0, a2_1, rfl⟩ : ∃ a2_0 a2_1, cs2 = [a2_0, a2_1] := by
    match cs2, hl2 with
    | [a0, a1], _ => exact ⟨a0, a1, rfl⟩
  simp only [List.getElem?_cons_zero, List.getElem?_cons_succ, Option.some.injEq] at e2_0 e2_1
  subst e2_0 e2_1
  obtain ⟨x2_0, rfl, w2_0⟩ := field_int Try.underlying3 y2_0
  obtain ⟨x2_1, rfl, w2_1⟩ := field_int Try.underlying3 y2_1
  exact walk (w := W) A0_0 n0_0 c0_0 g0_0 x0_0 A0_1 n0_1 c0_1 x0_1 A1_0 n1_0 c1_0 x1_0 A1_1 n1_1 c1_1 g1_1 x1_1 x2_0 x2_1 hl0_0 hm0_0 hr0_0 hg0_0 hx0_0 hl0_1 hm0_1 hr0_1 w0_1 hl1_0 hm1_0 hr1_0 w1_0 hl1_1 hm1_1 hr1_1 hb1_1 w1_1 w2_0 w2_1

set_option maxRecDepth 100000 in
theorem lifted (os : Os) (started : os.Started) (H : Type) (enc : TypeId × Value → H) :
    ReturnsInHanded {} Try.checked os 12 .any (Rows.fnExactMeritSpec.pre6 enc Try.prog Try.f12 Rows.fnExactMeritRow.domain false) (Rows.fnExactMeritSpec.post enc Try.prog Try.f12 false true false false) :=
  law_lifted started (by kernel_rfl) Try.func12
    (ChangeSpec.witness6 (enc := enc) (C := Try.checked) false ⟨#[], #[.agg #[.slice none 0 0, .slice none 0 0], .agg #[.slice none 0 0, .slice none 0 0], .agg #[.int .i64 0, .int .i64 0]], []⟩ 8 (by kernel_rfl) (by kernel_rfl) (by kernel_rfl) (by kernel_rfl))
    rfl rfl Try.underlying4 (fun ds h => match ds, h with | [_, _, _], _ => rfl) (by
      rw [Try.params12]
      intro t ht
      simp only [List.mem_cons, List.not_mem_nil, or_false] at ht
      rcases ht with rfl | rfl | rfl <;> exact ⟨by kernel_rfl, of_decide_eq_true (by kernel_rfl)⟩) walks

theorem over : Rows.fnExactMeritRow.holds Try.pinned (OpenSpec.ofChange Rows.fnExactMeritSpec) :=
  OpenClaim.holds_of_wide 12 Try.f12 rfl rfl rfl rfl rfl rfl rfl ⟨rfl, rfl, rfl, rfl, rfl⟩ rfl rfl rfl rfl rfl (by kernel_rfl) Try.func12 (by kernel_rfl)
    (of_decide_eq_true (by kernel_rfl)) (by unfold Func.isWrapper; first | (rw [if_pos (by decide +kernel)]; kernel_rfl) | (rw [if_neg (by decide +kernel)]; exact ⟨rfl, rfl⟩))
    (fun os started H enc _ => lifted os started H enc)

theorem proved : Rows.FnExactMeritSaid := over
#print axioms proved

end LawMerit
end Go.Proofs.Ytgkefkbpdbokbaa
