/-
  Proved: laws.FnExactBranchTotals returns true for every schema, stats, fork and branch. Conditions: none.
-/
import Derived.Test.YtgkefkbpdbokbaaBTotS
import Derived.Test.YtgkefkbpdbokbaaMarkS
import Derived.Test.YtgkefkbpdbokbaaProm
import Derived.Test.YtgkefkbpdbokbaaOpenSch
import Derived.Test.YtgkefkbpdbokbaaOpenSS
import Derived.Test.YtgkefkbpdbokbaaObj
namespace Go.Proofs.Ytgkefkbpdbokbaa
open Go.ChangeShapes Go.WideShapes Go.ChangeAt Go.RowKit Go.Deep
namespace LawBranchTotals
set_option linter.unusedSimpArgs false
set_option linter.unusedVariables false

/-- toSchema, read from an earlier world on: what it returns reads as the schema. -/
theorem to2 (A C : Option Addr) (n c m d : Nat) (hs : List AH) (ats : List AD) (cs : List ByteArray) (w W0 : World) (B : Nat) (r : RdSch w A C n m hs ats cs) (hn : n ≤ 1048576) (hb : asTot ats ≤ 1048576) (hm : m ≤ 1048576) (ok : ∀ a ∈ ats, ADok a) (cok : ∀ s ∈ cs, s.size ≤ 9223372036854775807) (hB : Below B W0 w) (hs' : B ≤ W0.heap.size) :
    Calls Try.prog 15 #[.agg #[.slice A n c, .slice C m d]] w fun e w' => (∃ g1 g2 gs, e = .returned (.agg #[.slice (some ⟨g1, 0, none⟩) n n, .slice (some ⟨g2, 0, none⟩) m m]) ∧ Sch w' (some ⟨g1, 0, none⟩) (some ⟨g2, 0, none⟩) n m m gs ats cs ∧ Below w.heap.size w w') ∧ Below B W0 w' :=
  lift ((toSchema_any A C n c m d hs ats cs w r hn hb hm).mono fun _ _ ⟨g1, g2, mid, gs, h1, h2, h3⟩ => ⟨⟨g1, g2, gs, h1, h2.sch hn hb hm ok cok, h3⟩, h3⟩) hB hs'

/-- toStats, read from an earlier world on: what it returns reads as the totals and cells. -/
theorem to3 (A C : Option Addr) (n c m d : Nat) (gs : List Hd) (ts : List Int) (xss : List (List Int)) (w W0 : World) (B : Nat) (r : Sta w A C n m gs ts xss) (hB : Below B W0 w) (hs' : B ≤ W0.heap.size) :
    Calls Try.prog 36 #[.agg #[.slice A n c, .slice C m d]] w fun e w' => (∃ g1 g2 hs, e = .returned (.agg #[.slice (some ⟨g1, 0, none⟩) n n, .slice (some ⟨g2, 0, none⟩) m m]) ∧ Sta w' (some ⟨g1, 0, none⟩) (some ⟨g2, 0, none⟩) n m hs ts xss ∧ Below w.heap.size w w') ∧ Below B W0 w' :=
  lift ((toStats_any A C n c m d gs ts xss w r).mono fun _ _ ⟨g1, g2, mid, hs, h1, h2, h3⟩ => ⟨⟨g1, g2, hs, h1, h2.sta r.hq r.hp r.hb, h3⟩, h3⟩) hB hs'

theorem lift2 {P : Program} {F : FuncId} {args : Array Value} {w W0 : World} {B : Nat} {R : Ending → World → Prop} (h : Calls P F args w fun e w' => R e w' ∧ Below w.heap.size w w') (hB : Below B W0 w) (hs : B ≤ W0.heap.size) :
    Calls P F args w fun e w' => R e w' ∧ Below w.heap.size w w' ∧ Below B W0 w' :=
  h.mono fun _ _ ⟨h1, h2⟩ => ⟨h1, h2, hB.trans (h2.mono (Nat.le_trans hs hB.size))⟩
theorem markIntS_nil (k : Nat) (w : World) (hk : k ≤ 1099511627776) : Calls Try.prog 31 #[.slice none 0 0, .int .i64 k] w fun e w' => e = .returned (.int .i64 ((k + 0 : Nat) : Int)) ∧ Below w.heap.size w w' :=
  (markIntS_any 0 0 0 k none [] w (World.ownsRow_nil _ _ _ _) (by omega) hk).mono fun e w' ⟨h1, _, h3, _⟩ => ⟨h1, (Below.refl _ _).grown h3 (Nat.le_refl _) (fun k hk => by simp [Value.ownBlock] at hk)⟩

def btI (ats : List AD) (cs : List ByteArray) (xss : List (List Int)) (fa ft i : Int) : List Int := (List.range cs.length).map fun k => runC cs.length (xss.getD fa.toNat []).length k (selRow cs.length (brSel ats cs fa ft i) (xss.getD fa.toNat []))
theorem btL_eq (ats : List AD) (cs : List ByteArray) (xss : List (List Int)) (fa ft i : Int) : btL ats cs xss fa ft i = (btI ats cs xss fa ft i).map (Value.int .i64) := by
  unfold btL btI runL; rw [List.map_map]; rfl

theorem sbt_from (A C : Option Addr) (n c m d : Nat) (hs : List AH) (ats : List AD) (cs : List ByteArray) (T X : Option Addr) (q e0 p f0 : Nat) (gs : List Hd) (ts : List Int) (xss : List (List Int)) (w : World) (r : Sch w A C n m d hs ats cs) (s : Sta w T X q p gs ts xss) (fa ft i : Int) (h : btB ats cs ts xss fa ft i = true) (W0 : World) (B : Nat) (hB : Below B W0 w) (hs' : B ≤ W0.heap.size) :
    Calls Try.prog 41 #[.agg #[.slice A n c, .slice C m d], .agg #[.slice T q e0, .slice X p f0], .agg #[.int .i64 fa, .int .i64 ft], .int .i64 i] w fun e w' => (∃ g, e = .returned (.slice (some ⟨g, 0, none⟩) m m) ∧ Ow 3 B w'.heap.size w' (some ⟨g, 0, none⟩) m m ((btI ats cs xss fa ft i).map (Value.int .i64))) ∧ Below B W0 w' :=
  (sBranchTotals_yes A C n c m d hs ats cs T X q e0 p f0 gs ts xss w r s fa ft i h).mono fun _ _ ⟨g, h1, h2, h3⟩ => ⟨⟨g, h1, ⟨own_base (by rw [← btL_eq]; exact h2) (Nat.le_trans hs' hB.size), fun k hk => (h2.lt k hk).2⟩⟩, hB.trans (h3.mono (Nat.le_trans hs' hB.size))⟩
theorem sbt_none (A C : Option Addr) (n c m d : Nat) (hs : List AH) (ats : List AD) (cs : List ByteArray) (T X : Option Addr) (q e0 p f0 : Nat) (gs : List Hd) (ts : List Int) (xss : List (List Int)) (w : World) (r : Sch w A C n m d hs ats cs) (s : Sta w T X q p gs ts xss) (fa ft i : Int) (h : btB ats cs ts xss fa ft i = false) (W0 : World) (B : Nat) (hB : Below B W0 w) (hs' : B ≤ W0.heap.size) :
    Calls Try.prog 41 #[.agg #[.slice A n c, .slice C m d], .agg #[.slice T q e0, .slice X p f0], .agg #[.int .i64 fa, .int .i64 ft], .int .i64 i] w fun e w' => (∃ A', e = .returned (.slice A' 0 0)) ∧ Below B W0 w' :=
  (sBranchTotals_no A C n c m d hs ats cs T X q e0 p f0 gs ts xss w r s fa ft i h).mono fun _ _ ⟨g, h1, h3⟩ => ⟨⟨_, h1⟩, hB.trans (h3.mono (Nat.le_trans hs' hB.size))⟩

theorem ibt_from (A C : Option Addr) (n c m d : Nat) (hs : List AH) (ats : List AD) (cs : List ByteArray) (T X : Option Addr) (q e0 p f0 : Nat) (gs : List Hd) (ts : List Int) (xss : List (List Int)) (w : World) (r : Sch w A C n m d hs ats cs) (s : Sta w T X q p gs ts xss) (fa ft i : Int) (h : btB ats cs ts xss fa ft i = true) (W0 : World) (B : Nat) (hB : Below B W0 w) (hs' : B ≤ W0.heap.size) :
    Calls Try.prog 42 #[.agg #[.slice A n c, .slice C m d], .agg #[.slice T q e0, .slice X p f0], .agg #[.int .i64 fa, .int .i64 ft], .int .i64 i] w fun e w' => (∃ g, e = .returned (.slice (some ⟨g, 0, none⟩) m m) ∧ Ow 3 B w'.heap.size w' (some ⟨g, 0, none⟩) m m ((btI ats cs xss fa ft i).map (Value.int .i64))) ∧ Below B W0 w' :=
  (iBranchTotals_yes A C n c m d hs ats cs T X q e0 p f0 gs ts xss w r s fa ft i h).mono fun _ _ ⟨g, h1, h2, h3⟩ => ⟨⟨g, h1, ⟨own_base (by rw [← btL_eq]; exact h2) (Nat.le_trans hs' hB.size), fun k hk => (h2.lt k hk).2⟩⟩, hB.trans (h3.mono (Nat.le_trans hs' hB.size))⟩
theorem ibt_none (A C : Option Addr) (n c m d : Nat) (hs : List AH) (ats : List AD) (cs : List ByteArray) (T X : Option Addr) (q e0 p f0 : Nat) (gs : List Hd) (ts : List Int) (xss : List (List Int)) (w : World) (r : Sch w A C n m d hs ats cs) (s : Sta w T X q p gs ts xss) (fa ft i : Int) (h : btB ats cs ts xss fa ft i = false) (W0 : World) (B : Nat) (hB : Below B W0 w) (hs' : B ≤ W0.heap.size) :
    Calls Try.prog 42 #[.agg #[.slice A n c, .slice C m d], .agg #[.slice T q e0, .slice X p f0], .agg #[.int .i64 fa, .int .i64 ft], .int .i64 i] w fun e w' => e = .returned (.slice none 0 0) ∧ Below B W0 w' :=
  (iBranchTotals_no A C n c m d hs ats cs T X q e0 p f0 gs ts xss w r s fa ft i h).mono fun _ _ ⟨h1, h3⟩ => ⟨h1, hB.trans (h3.mono (Nat.le_trans hs' hB.size))⟩

set_option maxHeartbeats 8000000 in
theorem walk_yes (w : World) (A : Option Addr) (n c : Nat) (hs : List AH) (ats : List AD) (C : Option Addr) (m d : Nat) (cs : List ByteArray) (T : Option Addr) (q e0 : Nat) (ts : List Int) (X : Option Addr) (p f0 : Nat) (gs : List Hd) (xss : List (List Int)) (fa ft i : Int) (hl : n ≤ c) (hm : c ≤ maxLen) (hr : RdAS w A n hs ats) (hg : ∀ h ∈ hs, AHw h) (hx : ∀ a ∈ ats, ADw a) (hl2 : m ≤ d) (hm2 : d ≤ maxLen) (hr2 : Rd w C m (cs.map Value.string)) (hw2 : ∀ s ∈ cs, s.size ≤ maxLen) (hlt : q ≤ e0) (hmt : e0 ≤ maxLen) (hrt : Rd w T q (ts.map (Value.int .i64))) (hwt : ∀ z ∈ ts, (Lit.int .i64 z).wf = true) (hlx : p ≤ f0) (hmx : f0 ≤ maxLen) (hrx : RdSS w X p gs (iss xss)) (hbx : ∀ x ∈ gs, x.2.1 ≤ x.2.2 ∧ x.2.2 ≤ maxLen) (hwx : ∀ xs ∈ xss, ∀ z ∈ xs, (Lit.int .i64 z).wf = true) (_ : (Lit.int .i64 fa).wf = true) (_ : (Lit.int .i64 ft).wf = true) (_ : (Lit.int .i64 i).wf = true) (HT : Hid (btB ats cs ts xss fa ft i = true)) :
    Calls Try.prog 10 #[.agg #[.slice A n c, .slice C m d], .agg #[.slice T q e0, .slice X p f0], .agg #[.int .i64 fa, .int .i64 ft], .int .i64 i] w fun e w' => e = .returned (.bool true) ∧ Below w.heap.size w w' := by
  unfold maxLen at hm hm2 hmt hmx
  have HRS : Hid (RdSch w A C n m hs ats cs) := ⟨hr, hr2⟩
  have HOk : Hid (∀ a ∈ ats, ADok a) := fun a ha => ⟨by have := (hx a ha).1; unfold maxLen at this; omega, fun s hs => by have := (hx a ha).2.2 s hs; unfold maxLen at this; omega⟩
  have HHs : Hid (∀ h ∈ hs, AHok h) := fun h hh => ⟨by have := (hg h hh).1; unfold maxLen at this; omega, by have := (hg h hh).2; unfold maxLen at this; omega⟩
  have HCs : Hid (∀ s ∈ cs, s.size ≤ 9223372036854775807) := fun s hs => by have := hw2 s hs; unfold maxLen at this; omega
  have HRX := Lib.hid hrx; have HRT := Lib.hid hrt
  have HBX : Hid (∀ x ∈ gs, x.2.1 ≤ 9223372036854775807) := fun x hx => by have := hbx x hx; unfold maxLen at this; omega
  have HTI := Lib.hid (tot_iss xss)
  clear hr hr2 hg hx hw2 hrt hwt hrx hbx hwx
  by_cases hn : ((n : Int) + (asTot ats : Int) + ((m : Int) + (bytesOf cs : Int))) ≤ 1048576
  · have HZ := Lib.hid (szI_yes hn)
    by_cases hnt : ((q : Int) + ((p : Int) + (tot (iss xss) : Int))) ≤ (1048576 - ((n : Int) + (asTot ats : Int) + ((m : Int) + (bytesOf cs : Int))))
    · have HZT := Lib.hid (szI_yes hnt)
      have htot : totI xss = tot (iss xss) := HTI.out.symm
      have HST : Hid (Sta w T X q p gs ts xss) := ⟨HRT.out, HRX.out, by omega, by omega, by omega⟩
      have B0 := Below.refl w.heap.size w
      have s0 : w.heap.size ≤ w.heap.size := Nat.le_refl _
      go_enter Try.func10, Try.ntmps10
      have p_2 : Bx (w.alloc (.cells #[.slice A n c, .slice C m d] 25)) (w.heap.size) 25 #[.slice A n c, .slice C m d] := Bx.new _ _ _
      have B_2 := B0.alloc s0 (.cells #[.slice A n c, .slice C m d] 25)
      clear B0
      have cp_3 := p_2.cells
      have fp_3 := p_2.free
      clear cp_3 fp_3
      have p_4 := p_2.same (same_alloc (.cells #[.slice T q e0, .slice X p f0] 55) (by simp only [World.size_alloc]; omega))
      clear p_2
      have t_5 : Bx ((w.alloc (.cells #[.slice A n c, .slice C m d] 25)).alloc (.cells #[.slice T q e0, .slice X p f0] 55)) (w.heap.size + 1) 55 #[.slice T q e0, .slice X p f0] := by
        have h := Bx.new (w.alloc (.cells #[.slice A n c, .slice C m d] 25)) 55 #[.slice T q e0, .slice X p f0]
        simpa only [World.size_alloc] using h
      have B_5 := B_2.alloc (by simp only [World.size_alloc]; omega) (.cells #[.slice T q e0, .slice X p f0] 55)
      clear B_2
      have cp_6 := p_4.cells
      have fp_6 := p_4.free
      have ct_7 := t_5.cells
      have ft_7 := t_5.free
      clear cp_6 fp_6
      clear ct_7 ft_7
      have p_8 := p_4.same (same_alloc (.cells #[.int .i64 fa, .int .i64 ft] 38) (by simp only [World.size_alloc]; omega))
      clear p_4
      have t_8 := t_5.same (same_alloc (.cells #[.int .i64 fa, .int .i64 ft] 38) (by simp only [World.size_alloc]; omega))
      clear t_5
      have q_9 : Bx (((w.alloc (.cells #[.slice A n c, .slice C m d] 25)).alloc (.cells #[.slice T q e0, .slice X p f0] 55)).alloc (.cells #[.int .i64 fa, .int .i64 ft] 38)) (w.heap.size + 1 + 1) 38 #[.int .i64 fa, .int .i64 ft] := by
        have h := Bx.new ((w.alloc (.cells #[.slice A n c, .slice C m d] 25)).alloc (.cells #[.slice T q e0, .slice X p f0] 55)) 38 #[.int .i64 fa, .int .i64 ft]
        simpa only [World.size_alloc] using h
      have B_9 := B_5.alloc (by simp only [World.size_alloc]; omega) (.cells #[.int .i64 fa, .int .i64 ft] 38)
      clear B_5
      have cp_10 := p_8.cells
      have fp_10 := p_8.free
      have ct_11 := t_8.cells
      have ft_11 := t_8.free
      have cq_12 := q_9.cells
      have fq_12 := q_9.free
      go_wp2_with fail
      refine (szSchema_any A C n c m d hs ats cs 1048576 _ (HRS.out.below B_9 (Nat.le_refl _)).at_ (HRS.out.below B_9 (Nat.le_refl _)).cl HOk.out HHs.out HCs.out (by omega) (by omega) (by omega) (by omega)).mono ?_
      rw [HZ.out]
      rintro e w1 ⟨rfl, b⟩
      clear cp_10 fp_10
      clear ct_11 ft_11
      clear cq_12 fq_12
      simp only [World.size_alloc] at b
      have t_13 := b.size
      simp only [World.size_alloc] at t_13
      have z_13 : w.heap.size ≤ w1.heap.size := by omega
      have p_14 := p_8.same (same_below b (by omega))
      clear p_8
      have t_14 := t_8.same (same_below b (by omega))
      clear t_8
      have q_14 := q_9.same (same_below b (by omega))
      clear q_9
      have B_13 := B_9.trans (b.mono (by omega))
      clear B_9 b
      have cp_15 := p_14.cells
      have fp_15 := p_14.free
      have ct_16 := t_14.cells
      have ft_16 := t_14.free
      have cq_17 := q_14.cells
      have fq_17 := q_14.free
      go_wp2_with fail
      refine (szStats_any T X q e0 p f0 gs xss (1048576 - ((n : Int) + (asTot ats : Int) + ((m : Int) + (bytesOf cs : Int)))) _ (HRX.out.below B_13 (Nat.le_refl _)) HBX.out (by omega) (by omega) (by omega) (by omega)).mono ?_
      rw [HZT.out]
      rintro e w2 ⟨rfl, b⟩
      clear cp_15 fp_15
      clear ct_16 ft_16
      clear cq_17 fq_17
      have t_18 := b.size
      have z_18 : w.heap.size ≤ w2.heap.size := by omega
      have p_19 := p_14.same (same_below b (by omega))
      clear p_14
      have t_19 := t_14.same (same_below b (by omega))
      clear t_14
      have q_19 := q_14.same (same_below b (by omega))
      clear q_14
      have B_18 := B_13.trans (b.mono (by omega))
      clear B_13 b
      have cp_20 := p_19.cells
      have fp_20 := p_19.free
      have ct_21 := t_19.cells
      have ft_21 := t_19.free
      have cq_22 := q_19.cells
      have fq_22 := q_19.free
      go_wp2_with fail
      have lp_23 := p_19.lt
      have dp0_23 : Hid (w2.cell? ⟨w.heap.size, 0, none⟩ = some (.slice A n c)) := p_19.cells 0
      have dp1_23 : Hid (w2.cell? ⟨w.heap.size, 1, none⟩ = some (.slice C m d)) := p_19.cells 1
      have lt_23 := t_19.lt
      have dt0_23 : Hid (w2.cell? ⟨w.heap.size + 1, 0, none⟩ = some (.slice T q e0)) := t_19.cells 0
      have dt1_23 : Hid (w2.cell? ⟨w.heap.size + 1, 1, none⟩ = some (.slice X p f0)) := t_19.cells 1
      have lq_23 := q_19.lt
      have dq0_23 : Hid (w2.cell? ⟨w.heap.size + 1 + 1, 0, none⟩ = some (.int .i64 fa)) := q_19.cells 0
      have dq1_23 : Hid (w2.cell? ⟨w.heap.size + 1 + 1, 1, none⟩ = some (.int .i64 ft)) := q_19.cells 1
      clear cp_20 fp_20
      clear ct_21 ft_21
      clear cq_22 fq_22
      have HA_23 := Lib.hid B_18
      go_region_held3 (fun w' => w'.cell? ⟨w.heap.size, 0, none⟩ = some (.slice A n c) ∧ w'.cell? ⟨w.heap.size, 1, none⟩ = some (.slice C m d) ∧ w'.cell? ⟨w.heap.size + 1, 0, none⟩ = some (.slice T q e0) ∧ w'.cell? ⟨w.heap.size + 1, 1, none⟩ = some (.slice X p f0) ∧ w'.cell? ⟨w.heap.size + 1 + 1, 0, none⟩ = some (.int .i64 fa) ∧ w'.cell? ⟨w.heap.size + 1 + 1, 1, none⟩ = some (.int .i64 ft) ∧ Below w2.heap.size w2 w')
        (first
          | exact ⟨dp0_23.out, dp1_23.out, dt0_23.out, dt1_23.out, dq0_23.out, dq1_23.out, (Below.refl _ _).drew⟩
          | exact ⟨(Below.cell (p := ⟨w.heap.size, 0, none⟩) b9 lp_23).trans dp0_23.out, (Below.cell (p := ⟨w.heap.size, 1, none⟩) b9 lp_23).trans dp1_23.out, (Below.cell (p := ⟨w.heap.size + 1, 0, none⟩) b9 lt_23).trans dt0_23.out, (Below.cell (p := ⟨w.heap.size + 1, 1, none⟩) b9 lt_23).trans dt1_23.out, (Below.cell (p := ⟨w.heap.size + 1 + 1, 0, none⟩) b9 lq_23).trans dq0_23.out, (Below.cell (p := ⟨w.heap.size + 1 + 1, 1, none⟩) b9 lq_23).trans dq1_23.out, b9⟩
          | exact ⟨(Below.cell (p := ⟨w.heap.size, 0, none⟩) b8 lp_23).trans dp0_23.out, (Below.cell (p := ⟨w.heap.size, 1, none⟩) b8 lp_23).trans dp1_23.out, (Below.cell (p := ⟨w.heap.size + 1, 0, none⟩) b8 lt_23).trans dt0_23.out, (Below.cell (p := ⟨w.heap.size + 1, 1, none⟩) b8 lt_23).trans dt1_23.out, (Below.cell (p := ⟨w.heap.size + 1 + 1, 0, none⟩) b8 lq_23).trans dq0_23.out, (Below.cell (p := ⟨w.heap.size + 1 + 1, 1, none⟩) b8 lq_23).trans dq1_23.out, b8⟩
          | exact ⟨(Below.cell (p := ⟨w.heap.size, 0, none⟩) b7 lp_23).trans dp0_23.out, (Below.cell (p := ⟨w.heap.size, 1, none⟩) b7 lp_23).trans dp1_23.out, (Below.cell (p := ⟨w.heap.size + 1, 0, none⟩) b7 lt_23).trans dt0_23.out, (Below.cell (p := ⟨w.heap.size + 1, 1, none⟩) b7 lt_23).trans dt1_23.out, (Below.cell (p := ⟨w.heap.size + 1 + 1, 0, none⟩) b7 lq_23).trans dq0_23.out, (Below.cell (p := ⟨w.heap.size + 1 + 1, 1, none⟩) b7 lq_23).trans dq1_23.out, b7⟩
          | exact ⟨(Below.cell (p := ⟨w.heap.size, 0, none⟩) b6 lp_23).trans dp0_23.out, (Below.cell (p := ⟨w.heap.size, 1, none⟩) b6 lp_23).trans dp1_23.out, (Below.cell (p := ⟨w.heap.size + 1, 0, none⟩) b6 lt_23).trans dt0_23.out, (Below.cell (p := ⟨w.heap.size + 1, 1, none⟩) b6 lt_23).trans dt1_23.out, (Below.cell (p := ⟨w.heap.size + 1 + 1, 0, none⟩) b6 lq_23).trans dq0_23.out, (Below.cell (p := ⟨w.heap.size + 1 + 1, 1, none⟩) b6 lq_23).trans dq1_23.out, b6⟩)
        (first
          | (go_at_call 15; go_split_ands; refine (to2 A C n c m d hs ats cs _ w2 w2.heap.size (HRS.out.below (HA_23.out.trans (Below.mono (by assumption) HA_23.out.size)) (Nat.le_refl _)) (by omega) (by omega) (by omega) HOk.out HCs.out (by assumption) (Nat.le_refl _)).mono ?_; rintro e w' ⟨⟨ga8, gb8, gs8, rfl, r8, c8⟩, b8⟩)
          | (go_at_call 36; go_split_ands; refine (to3 T X q e0 p f0 gs ts xss _ w2 w2.heap.size (HST.out.below (HA_23.out.trans (Below.mono (by assumption) HA_23.out.size)) (Nat.le_refl _)) (by assumption) (Nat.le_refl _)).mono ?_; rintro e w' ⟨⟨ga7, gb7, gs7, rfl, r7, c7⟩, b7⟩; try (replace r8 := r8.below c7 (Nat.le_refl _)))
          | (go_at_call 21; go_split_ands; refine (lift2 (W0 := w2) (B := w2.heap.size) (toFork_any fa ft _) (by assumption) (Nat.le_refl _)).mono ?_; rintro e w' ⟨rfl, c6, b6⟩; try (replace r8 := r8.below c6 (Nat.le_refl _)); try (replace r7 := r7.below c6 (Nat.le_refl _)))
          | (go_at_call 41; refine (sbt_from _ _ _ _ _ _ _ ats cs _ _ _ _ _ _ _ ts xss _ r8 r7 fa ft i HT.out w2 w2.heap.size (by assumption) (Nat.le_refl _)).mono ?_; rintro e w3 ⟨⟨gw, rfl, o9⟩, b9⟩))
      have t_23 := b9.size
      have z_23 : w.heap.size ≤ w3.heap.size := by omega
      have p_24 := p_19.same (same_below b9 (by omega))
      clear p_19
      have t_24 := t_19.same (same_below b9 (by omega))
      clear t_19
      have q_24 := q_19.same (same_below b9 (by omega))
      clear q_19
      have B_23 := B_18.trans (b9.mono (by omega))
      clear B_18 b9
      have cp_25 := p_24.cells
      have fp_25 := p_24.free
      have ct_26 := t_24.cells
      have ft_26 := t_24.free
      have cq_27 := q_24.cells
      have fq_27 := q_24.free
      have wr_1 := o9
      clear o9
      go_wp2_with fail
      refine (toSchema_any A C n c m d hs ats cs _ (HRS.out.below B_23 (Nat.le_refl _)) (by omega) (by omega) (by omega)).mono ?_
      rintro e w4 ⟨g1, g2, midx, gsx, rfl, o, b⟩
      clear cp_25 fp_25
      clear ct_26 ft_26
      clear cq_27 fq_27
      have t_28 := b.size
      have z_28 : w.heap.size ≤ w4.heap.size := by omega
      have p_29 := p_24.same (same_below b (by omega))
      clear p_24
      have t_29 := t_24.same (same_below b (by omega))
      clear t_24
      have q_29 := q_24.same (same_below b (by omega))
      clear q_24
      have wr_29 := wr_1.same (same_below b (by omega))
      clear wr_1
      have B_28 := B_23.trans (b.mono (by omega))
      clear B_23 b
      have x_28 := o
      clear o
      have cp_30 := p_29.cells
      have fp_30 := p_29.free
      have ct_31 := t_29.cells
      have ft_31 := t_29.free
      have cq_32 := q_29.cells
      have fq_32 := q_29.free
      clear cp_30 fp_30
      clear ct_31 ft_31
      clear cq_32 fq_32
      have p_33 := p_29.same (same_alloc (.cells #[.slice (some ⟨g1, 0, none⟩) n n, .slice (some ⟨g2, 0, none⟩) m m] 31) (by omega))
      clear p_29
      have t_33 := t_29.same (same_alloc (.cells #[.slice (some ⟨g1, 0, none⟩) n n, .slice (some ⟨g2, 0, none⟩) m m] 31) (by omega))
      clear t_29
      have q_33 := q_29.same (same_alloc (.cells #[.slice (some ⟨g1, 0, none⟩) n n, .slice (some ⟨g2, 0, none⟩) m m] 31) (by omega))
      clear q_29
      have wr_33 := wr_29.same (same_alloc (.cells #[.slice (some ⟨g1, 0, none⟩) n n, .slice (some ⟨g2, 0, none⟩) m m] 31) (by omega))
      clear wr_29
      have x_33 := x_28.same (same_alloc (.cells #[.slice (some ⟨g1, 0, none⟩) n n, .slice (some ⟨g2, 0, none⟩) m m] 31) (by omega))
      clear x_28
      have x0_34 : Bx (w4.alloc (.cells #[.slice (some ⟨g1, 0, none⟩) n n, .slice (some ⟨g2, 0, none⟩) m m] 31)) (w4.heap.size) 31 #[.slice (some ⟨g1, 0, none⟩) n n, .slice (some ⟨g2, 0, none⟩) m m] := Bx.new _ _ _
      have B_34 := B_28.alloc z_28 (.cells #[.slice (some ⟨g1, 0, none⟩) n n, .slice (some ⟨g2, 0, none⟩) m m] 31)
      clear B_28
      have cp_35 := p_33.cells
      have fp_35 := p_33.free
      have ct_36 := t_33.cells
      have ft_36 := t_33.free
      have cq_37 := q_33.cells
      have fq_37 := q_33.free
      have cx0_38 := x0_34.cells
      have fx0_38 := x0_34.free
      go_wp2_with fail
      refine (toStats_any T X q e0 p f0 gs ts xss _ (HST.out.below B_34 (Nat.le_refl _))).mono ?_
      rintro e w5 ⟨g3, g4, midy, gsy, rfl, o, b⟩
      clear cp_35 fp_35
      clear ct_36 ft_36
      clear cq_37 fq_37
      clear cx0_38 fx0_38
      simp only [World.size_alloc] at b o
      have t_39 := b.size
      simp only [World.size_alloc] at t_39
      have z_39 : w.heap.size ≤ w5.heap.size := by omega
      have p_40 := p_33.same (same_below b (by omega))
      clear p_33
      have t_40 := t_33.same (same_below b (by omega))
      clear t_33
      have q_40 := q_33.same (same_below b (by omega))
      clear q_33
      have wr_40 := wr_33.same (same_below b (by omega))
      clear wr_33
      have x_40 := x_33.same (same_below b (by omega))
      clear x_33
      have x0_40 := x0_34.same (same_below b (by omega))
      clear x0_34
      have B_39 := B_34.trans (b.mono (by omega))
      clear B_34 b
      have y_39 := o
      clear o
      have cp_41 := p_40.cells
      have fp_41 := p_40.free
      have ct_42 := t_40.cells
      have ft_42 := t_40.free
      have cq_43 := q_40.cells
      have fq_43 := q_40.free
      have cx0_44 := x0_40.cells
      have fx0_44 := x0_40.free
      clear cp_41 fp_41
      clear ct_42 ft_42
      clear cq_43 fq_43
      clear cx0_44 fx0_44
      have p_45 := p_40.same (same_alloc (.cells #[.slice (some ⟨g3, 0, none⟩) q q, .slice (some ⟨g4, 0, none⟩) p p] 58) (by omega))
      clear p_40
      have t_45 := t_40.same (same_alloc (.cells #[.slice (some ⟨g3, 0, none⟩) q q, .slice (some ⟨g4, 0, none⟩) p p] 58) (by omega))
      clear t_40
      have q_45 := q_40.same (same_alloc (.cells #[.slice (some ⟨g3, 0, none⟩) q q, .slice (some ⟨g4, 0, none⟩) p p] 58) (by omega))
      clear q_40
      have wr_45 := wr_40.same (same_alloc (.cells #[.slice (some ⟨g3, 0, none⟩) q q, .slice (some ⟨g4, 0, none⟩) p p] 58) (by omega))
      clear wr_40
      have x_45 := x_40.same (same_alloc (.cells #[.slice (some ⟨g3, 0, none⟩) q q, .slice (some ⟨g4, 0, none⟩) p p] 58) (by omega))
      clear x_40
      have x0_45 := x0_40.same (same_alloc (.cells #[.slice (some ⟨g3, 0, none⟩) q q, .slice (some ⟨g4, 0, none⟩) p p] 58) (by omega))
      clear x0_40
      have y_45 := y_39.same (same_alloc (.cells #[.slice (some ⟨g3, 0, none⟩) q q, .slice (some ⟨g4, 0, none⟩) p p] 58) (by omega))
      clear y_39
      have y0_46 : Bx (w5.alloc (.cells #[.slice (some ⟨g3, 0, none⟩) q q, .slice (some ⟨g4, 0, none⟩) p p] 58)) (w5.heap.size) 58 #[.slice (some ⟨g3, 0, none⟩) q q, .slice (some ⟨g4, 0, none⟩) p p] := Bx.new _ _ _
      have B_46 := B_39.alloc z_39 (.cells #[.slice (some ⟨g3, 0, none⟩) q q, .slice (some ⟨g4, 0, none⟩) p p] 58)
      clear B_39
      have cp_47 := p_45.cells
      have fp_47 := p_45.free
      have ct_48 := t_45.cells
      have ft_48 := t_45.free
      have cq_49 := q_45.cells
      have fq_49 := q_45.free
      have cx0_50 := x0_45.cells
      have fx0_50 := x0_45.free
      have cy0_51 := y0_46.cells
      have fy0_51 := y0_46.free
      go_wp2_with fail
      clear cp_47 fp_47
      clear ct_48 ft_48
      clear cq_49 fq_49
      clear cx0_50 fx0_50
      clear cy0_51 fy0_51
      obtain ⟨v52, hv52⟩ : ∃ v52, v52 = (w5.alloc (.cells #[.slice (some ⟨g3, 0, none⟩) q q, .slice (some ⟨g4, 0, none⟩) p p] 58)) := ⟨_, rfl⟩
      have zv52 : w5.heap.size + 1 ≤ v52.heap.size := by rw [hv52]; simp
      rw [← hv52] at p_45 t_45 q_45 wr_45 x_45 x0_45 y_45 y0_46 B_46 ⊢
      clear hv52
      have HXs := Lib.hid (x_45.sch (by omega) (by omega) (by omega) HOk.out HCs.out); have HYs := Lib.hid (y_45.sta (by omega) (by omega) (by omega))
      go_wp2_with fail
      have lx0_53 := x0_45.lt
      have dx00_53 : Hid (v52.cell? ⟨w4.heap.size, 0, none⟩ = some (.slice (some ⟨g1, 0, none⟩) n n)) := x0_45.cells 0
      have dx01_53 : Hid (v52.cell? ⟨w4.heap.size, 1, none⟩ = some (.slice (some ⟨g2, 0, none⟩) m m)) := x0_45.cells 1
      have ly0_53 := y0_46.lt
      have dy00_53 : Hid (v52.cell? ⟨w5.heap.size, 0, none⟩ = some (.slice (some ⟨g3, 0, none⟩) q q)) := y0_46.cells 0
      have dy01_53 : Hid (v52.cell? ⟨w5.heap.size, 1, none⟩ = some (.slice (some ⟨g4, 0, none⟩) p p)) := y0_46.cells 1
      have lq_53 := q_45.lt
      have dq0_53 : Hid (v52.cell? ⟨w.heap.size + 1 + 1, 0, none⟩ = some (.int .i64 fa)) := q_45.cells 0
      have dq1_53 : Hid (v52.cell? ⟨w.heap.size + 1 + 1, 1, none⟩ = some (.int .i64 ft)) := q_45.cells 1
      have HA_53 := Lib.hid B_46
      go_region_held3 (fun w' => w'.cell? ⟨w4.heap.size, 0, none⟩ = some (.slice (some ⟨g1, 0, none⟩) n n) ∧ w'.cell? ⟨w4.heap.size, 1, none⟩ = some (.slice (some ⟨g2, 0, none⟩) m m) ∧ w'.cell? ⟨w5.heap.size, 0, none⟩ = some (.slice (some ⟨g3, 0, none⟩) q q) ∧ w'.cell? ⟨w5.heap.size, 1, none⟩ = some (.slice (some ⟨g4, 0, none⟩) p p) ∧ w'.cell? ⟨w.heap.size + 1 + 1, 0, none⟩ = some (.int .i64 fa) ∧ w'.cell? ⟨w.heap.size + 1 + 1, 1, none⟩ = some (.int .i64 ft) ∧ Below v52.heap.size v52 w')
        (first
          | exact ⟨dx00_53.out, dx01_53.out, dy00_53.out, dy01_53.out, dq0_53.out, dq1_53.out, (Below.refl _ _).drew⟩
          | exact ⟨(Below.cell (p := ⟨w4.heap.size, 0, none⟩) b9 lx0_53).trans dx00_53.out, (Below.cell (p := ⟨w4.heap.size, 1, none⟩) b9 lx0_53).trans dx01_53.out, (Below.cell (p := ⟨w5.heap.size, 0, none⟩) b9 ly0_53).trans dy00_53.out, (Below.cell (p := ⟨w5.heap.size, 1, none⟩) b9 ly0_53).trans dy01_53.out, (Below.cell (p := ⟨w.heap.size + 1 + 1, 0, none⟩) b9 lq_53).trans dq0_53.out, (Below.cell (p := ⟨w.heap.size + 1 + 1, 1, none⟩) b9 lq_53).trans dq1_53.out, b9⟩
          | exact ⟨(Below.cell (p := ⟨w4.heap.size, 0, none⟩) b6 lx0_53).trans dx00_53.out, (Below.cell (p := ⟨w4.heap.size, 1, none⟩) b6 lx0_53).trans dx01_53.out, (Below.cell (p := ⟨w5.heap.size, 0, none⟩) b6 ly0_53).trans dy00_53.out, (Below.cell (p := ⟨w5.heap.size, 1, none⟩) b6 ly0_53).trans dy01_53.out, (Below.cell (p := ⟨w.heap.size + 1 + 1, 0, none⟩) b6 lq_53).trans dq0_53.out, (Below.cell (p := ⟨w.heap.size + 1 + 1, 1, none⟩) b6 lq_53).trans dq1_53.out, b6⟩)
        (first
          | (go_at_call 21; go_split_ands; refine (lift2 (W0 := v52) (B := v52.heap.size) (toFork_any fa ft _) (by assumption) (Nat.le_refl _)).mono ?_; rintro e w' ⟨rfl, c6, b6⟩; try (replace r8 := r8.below c6 (Nat.le_refl _)); try (replace r7 := r7.below c6 (Nat.le_refl _)))
          | (go_at_call 42; refine (ibt_from _ _ _ _ _ _ _ ats cs _ _ _ _ _ _ _ ts xss _ (HXs.out.below (by assumption) (Nat.le_refl _)) (HYs.out.below (by assumption) (Nat.le_refl _)) fa ft i HT.out v52 v52.heap.size (by assumption) (Nat.le_refl _)).mono ?_; rintro e w6 ⟨⟨gg0, rfl, o9⟩, b9⟩))
      have t_53 := b9.size
      have z_53 : w.heap.size ≤ w6.heap.size := by omega
      have p_54 := p_45.same (same_below b9 (by omega))
      clear p_45
      have t_54 := t_45.same (same_below b9 (by omega))
      clear t_45
      have q_54 := q_45.same (same_below b9 (by omega))
      clear q_45
      have wr_54 := wr_45.same (same_below b9 (by omega))
      clear wr_45
      have x_54 := x_45.same (same_below b9 (by omega))
      clear x_45
      have x0_54 := x0_45.same (same_below b9 (by omega))
      clear x0_45
      have y_54 := y_45.same (same_below b9 (by omega))
      clear y_45
      have y0_54 := y0_46.same (same_below b9 (by omega))
      clear y0_46
      have B_53 := B_46.trans (b9.mono (by omega))
      clear B_46 b9
      have cp_55 := p_54.cells
      have fp_55 := p_54.free
      have ct_56 := t_54.cells
      have ft_56 := t_54.free
      have cq_57 := q_54.cells
      have fq_57 := q_54.free
      have cx0_58 := x0_54.cells
      have fx0_58 := x0_54.free
      have cy0_59 := y0_54.cells
      have fy0_59 := y0_54.free
      have gr_1 := o9
      clear o9
      go_wp2_with fail
      refine (eqIntS_same _ _ m _ _ (btI ats cs xss fa ft i) _ gr_1.rd wr_54.rd (by omega)).mono ?_
      rintro e w7 ⟨rfl, b⟩
      clear cp_55 fp_55
      clear ct_56 ft_56
      clear cq_57 fq_57
      clear cx0_58 fx0_58
      clear cy0_59 fy0_59
      have t_60 := b.size
      have z_60 : w.heap.size ≤ w7.heap.size := by omega
      have p_61 := p_54.same (same_below b (by omega))
      clear p_54
      have t_61 := t_54.same (same_below b (by omega))
      clear t_54
      have q_61 := q_54.same (same_below b (by omega))
      clear q_54
      have wr_61 := wr_54.same (same_below b (by omega))
      clear wr_54
      have x_61 := x_54.same (same_below b (by omega))
      clear x_54
      have x0_61 := x0_54.same (same_below b (by omega))
      clear x0_54
      have y_61 := y_54.same (same_below b (by omega))
      clear y_54
      have y0_61 := y0_54.same (same_below b (by omega))
      clear y0_54
      have gr_61 := gr_1.same (same_below b (by omega))
      clear gr_1
      have B_60 := B_53.trans (b.mono (by omega))
      clear B_53 b
      have cp_62 := p_61.cells
      have fp_62 := p_61.free
      have ct_63 := t_61.cells
      have ft_63 := t_61.free
      have cq_64 := q_61.cells
      have fq_64 := q_61.free
      have cx0_65 := x0_61.cells
      have fx0_65 := x0_61.free
      have cy0_66 := y0_61.cells
      have fy0_66 := y0_61.free
      go_wp2_with fail
      have lp_67 := p_61.lt
      have dp0_67 : Hid (w7.cell? ⟨w.heap.size, 0, none⟩ = some (.slice A n c)) := p_61.cells 0
      have dp1_67 : Hid (w7.cell? ⟨w.heap.size, 1, none⟩ = some (.slice C m d)) := p_61.cells 1
      have lx0_67 := x0_61.lt
      have dx00_67 : Hid (w7.cell? ⟨w4.heap.size, 0, none⟩ = some (.slice (some ⟨g1, 0, none⟩) n n)) := x0_61.cells 0
      have dx01_67 : Hid (w7.cell? ⟨w4.heap.size, 1, none⟩ = some (.slice (some ⟨g2, 0, none⟩) m m)) := x0_61.cells 1
      clear cp_62 fp_62
      clear ct_63 ft_63
      clear cq_64 fq_64
      clear cx0_65 fx0_65
      clear cy0_66 fy0_66
      have HA_67 := Lib.hid B_60
      go_region_held3 (fun w' => w'.cell? ⟨w.heap.size, 0, none⟩ = some (.slice A n c) ∧ w'.cell? ⟨w.heap.size, 1, none⟩ = some (.slice C m d) ∧ w'.cell? ⟨w4.heap.size, 0, none⟩ = some (.slice (some ⟨g1, 0, none⟩) n n) ∧ w'.cell? ⟨w4.heap.size, 1, none⟩ = some (.slice (some ⟨g2, 0, none⟩) m m) ∧ Below w7.heap.size w7 w')
        (first
          | exact ⟨dp0_67.out, dp1_67.out, dx00_67.out, dx01_67.out, (Below.refl _ _).drew⟩
          | exact ⟨(Below.cell (p := ⟨w.heap.size, 0, none⟩) b9 lp_67).trans dp0_67.out, (Below.cell (p := ⟨w.heap.size, 1, none⟩) b9 lp_67).trans dp1_67.out, (Below.cell (p := ⟨w4.heap.size, 0, none⟩) b9 lx0_67).trans dx00_67.out, (Below.cell (p := ⟨w4.heap.size, 1, none⟩) b9 lx0_67).trans dx01_67.out, b9⟩
          | exact ⟨(Below.cell (p := ⟨w.heap.size, 0, none⟩) b8 lp_67).trans dp0_67.out, (Below.cell (p := ⟨w.heap.size, 1, none⟩) b8 lp_67).trans dp1_67.out, (Below.cell (p := ⟨w4.heap.size, 0, none⟩) b8 lx0_67).trans dx00_67.out, (Below.cell (p := ⟨w4.heap.size, 1, none⟩) b8 lx0_67).trans dx01_67.out, b8⟩)
        (first
          | (go_at_call 15; go_split_ands; refine (to2 A C n c m d hs ats cs _ w7 w7.heap.size (HRS.out.below (HA_67.out.trans (Below.mono (by assumption) HA_67.out.size)) (Nat.le_refl _)) (by omega) (by omega) (by omega) HOk.out HCs.out (by assumption) (Nat.le_refl _)).mono ?_; rintro e w' ⟨⟨ga8, gb8, gs8, rfl, r8, c8⟩, b8⟩)
          | (go_at_call 18; refine (lift (W0 := w7) (B := w7.heap.size) (eqSchema_same _ _ _ _ n _ m _ _ _ _ _ ats cs _ (x_61.rd.below (by assumption) (Nat.le_refl _)) r8.rd (by omega) (by omega) (by omega)) (by assumption) (Nat.le_refl _)).mono ?_; rintro e w8 ⟨rfl, b9⟩))
      have t_67 := b9.size
      have z_67 : w.heap.size ≤ w8.heap.size := by omega
      have p_68 := p_61.same (same_below b9 (by omega))
      clear p_61
      have t_68 := t_61.same (same_below b9 (by omega))
      clear t_61
      have q_68 := q_61.same (same_below b9 (by omega))
      clear q_61
      have wr_68 := wr_61.same (same_below b9 (by omega))
      clear wr_61
      have x_68 := x_61.same (same_below b9 (by omega))
      clear x_61
      have x0_68 := x0_61.same (same_below b9 (by omega))
      clear x0_61
      have y_68 := y_61.same (same_below b9 (by omega))
      clear y_61
      have y0_68 := y0_61.same (same_below b9 (by omega))
      clear y0_61
      have gr_68 := gr_61.same (same_below b9 (by omega))
      clear gr_61
      have B_67 := B_60.trans (b9.mono (by omega))
      clear B_60 b9
      have cp_69 := p_68.cells
      have fp_69 := p_68.free
      have ct_70 := t_68.cells
      have ft_70 := t_68.free
      have cq_71 := q_68.cells
      have fq_71 := q_68.free
      have cx0_72 := x0_68.cells
      have fx0_72 := x0_68.free
      have cy0_73 := y0_68.cells
      have fy0_73 := y0_68.free
      go_wp2_with fail
      have lt_74 := t_68.lt
      have dt0_74 : Hid (w8.cell? ⟨w.heap.size + 1, 0, none⟩ = some (.slice T q e0)) := t_68.cells 0
      have dt1_74 : Hid (w8.cell? ⟨w.heap.size + 1, 1, none⟩ = some (.slice X p f0)) := t_68.cells 1
      have ly0_74 := y0_68.lt
      have dy00_74 : Hid (w8.cell? ⟨w5.heap.size, 0, none⟩ = some (.slice (some ⟨g3, 0, none⟩) q q)) := y0_68.cells 0
      have dy01_74 : Hid (w8.cell? ⟨w5.heap.size, 1, none⟩ = some (.slice (some ⟨g4, 0, none⟩) p p)) := y0_68.cells 1
      clear cp_69 fp_69
      clear ct_70 ft_70
      clear cq_71 fq_71
      clear cx0_72 fx0_72
      clear cy0_73 fy0_73
      have HA_74 := Lib.hid B_67
      go_region_held3 (fun w' => w'.cell? ⟨w.heap.size + 1, 0, none⟩ = some (.slice T q e0) ∧ w'.cell? ⟨w.heap.size + 1, 1, none⟩ = some (.slice X p f0) ∧ w'.cell? ⟨w5.heap.size, 0, none⟩ = some (.slice (some ⟨g3, 0, none⟩) q q) ∧ w'.cell? ⟨w5.heap.size, 1, none⟩ = some (.slice (some ⟨g4, 0, none⟩) p p) ∧ Below w8.heap.size w8 w')
        (first
          | exact ⟨dt0_74.out, dt1_74.out, dy00_74.out, dy01_74.out, (Below.refl _ _).drew⟩
          | exact ⟨(Below.cell (p := ⟨w.heap.size + 1, 0, none⟩) b9 lt_74).trans dt0_74.out, (Below.cell (p := ⟨w.heap.size + 1, 1, none⟩) b9 lt_74).trans dt1_74.out, (Below.cell (p := ⟨w5.heap.size, 0, none⟩) b9 ly0_74).trans dy00_74.out, (Below.cell (p := ⟨w5.heap.size, 1, none⟩) b9 ly0_74).trans dy01_74.out, b9⟩
          | exact ⟨(Below.cell (p := ⟨w.heap.size + 1, 0, none⟩) b8 lt_74).trans dt0_74.out, (Below.cell (p := ⟨w.heap.size + 1, 1, none⟩) b8 lt_74).trans dt1_74.out, (Below.cell (p := ⟨w5.heap.size, 0, none⟩) b8 ly0_74).trans dy00_74.out, (Below.cell (p := ⟨w5.heap.size, 1, none⟩) b8 ly0_74).trans dy01_74.out, b8⟩)
        (first
          | (go_at_call 36; go_split_ands; refine (to3 T X q e0 p f0 gs ts xss _ w8 w8.heap.size (HST.out.below (HA_74.out.trans (Below.mono (by assumption) HA_74.out.size)) (Nat.le_refl _)) (by assumption) (Nat.le_refl _)).mono ?_; rintro e w' ⟨⟨ga8, gb8, gs8, rfl, r8, c8⟩, b8⟩)
          | (go_at_call 38; refine (lift (W0 := w8) (B := w8.heap.size) (eqStats_same _ _ _ _ q _ p _ _ _ _ _ ts xss _ ((y_68.sta (by omega) (by omega) (by omega)).below (by assumption) (Nat.le_refl _)) r8) (by assumption) (Nat.le_refl _)).mono ?_; rintro e w9 ⟨rfl, b9⟩))
      have t_74 := b9.size
      have z_74 : w.heap.size ≤ w9.heap.size := by omega
      have p_75 := p_68.same (same_below b9 (by omega))
      clear p_68
      have t_75 := t_68.same (same_below b9 (by omega))
      clear t_68
      have q_75 := q_68.same (same_below b9 (by omega))
      clear q_68
      have wr_75 := wr_68.same (same_below b9 (by omega))
      clear wr_68
      have x_75 := x_68.same (same_below b9 (by omega))
      clear x_68
      have x0_75 := x0_68.same (same_below b9 (by omega))
      clear x0_68
      have y_75 := y_68.same (same_below b9 (by omega))
      clear y_68
      have y0_75 := y0_68.same (same_below b9 (by omega))
      clear y0_68
      have gr_75 := gr_68.same (same_below b9 (by omega))
      clear gr_68
      have B_74 := B_67.trans (b9.mono (by omega))
      clear B_67 b9
      have cp_76 := p_75.cells
      have fp_76 := p_75.free
      have ct_77 := t_75.cells
      have ft_77 := t_75.free
      have cq_78 := q_75.cells
      have fq_78 := q_75.free
      have cx0_79 := x0_75.cells
      have fx0_79 := x0_75.free
      have cy0_80 := y0_75.cells
      have fy0_80 := y0_75.free
      go_wp2_with fail
      refine (markSchema_any _ _ _ n _ m _ 1 _ _ _ ats cs _ x_75 (by omega) (by omega) (by omega) (by omega) (by omega)).mono ?_
      rintro e w10 ⟨⟨K1, rfl, hK1⟩, gg⟩
      clear cp_76 fp_76
      clear ct_77 ft_77
      clear cq_78 fq_78
      clear cx0_79 fx0_79
      clear cy0_80 fy0_80
      have t_81 := gg.size
      have z_81 : w.heap.size ≤ w10.heap.size := by omega
      have p_82 := p_75.same (same_only gg (by omega) (by omega))
      clear p_75
      have t_82 := t_75.same (same_only gg (by omega) (by omega))
      clear t_75
      have q_82 := q_75.same (same_only gg (by omega) (by omega))
      clear q_75
      have wr_82 := wr_75.same (same_only gg (by omega) (by omega))
      clear wr_75
      have x0_82 := x0_75.same (same_only gg (by omega) (by omega))
      clear x0_75
      have y_82 := y_75.same (same_only gg (by omega) (by omega))
      clear y_75
      have y0_82 := y0_75.same (same_only gg (by omega) (by omega))
      clear y0_75
      have gr_82 := gr_75.same (same_only gg (by omega) (by omega))
      clear gr_75
      clear x_75
      have B_81 := B_74.trans (gg.below (by omega) (by omega))
      clear B_74 gg
      have cp_83 := p_82.cells
      have fp_83 := p_82.free
      have ct_84 := t_82.cells
      have ft_84 := t_82.free
      have cq_85 := q_82.cells
      have fq_85 := q_82.free
      have cx0_86 := x0_82.cells
      have fx0_86 := x0_82.free
      have cy0_87 := y0_82.cells
      have fy0_87 := y0_82.free
      go_wp2_with fail
      refine (markStats_any _ _ _ q _ p _ K1 _ _ _ ts xss _ y_82 (by omega) (by omega) (by omega) (by omega) (by omega)).mono ?_
      rintro e w11 ⟨⟨K2, rfl, hK2⟩, gg⟩
      clear cp_83 fp_83
      clear ct_84 ft_84
      clear cq_85 fq_85
      clear cy0_87 fy0_87
      have t_88 := gg.size
      have z_88 : w.heap.size ≤ w11.heap.size := by omega
      have p_89 := p_82.same (same_only gg (by omega) (by omega))
      clear p_82
      have t_89 := t_82.same (same_only gg (by omega) (by omega))
      clear t_82
      have q_89 := q_82.same (same_only gg (by omega) (by omega))
      clear q_82
      have wr_89 := wr_82.same (same_only gg (by omega) (by omega))
      clear wr_82
      have y0_89 := y0_82.same (same_only gg (by omega) (by omega))
      clear y0_82
      have gr_89 := gr_82.same (same_only gg (by omega) (by omega))
      clear gr_82
      clear y_82
      have B_88 := B_81.trans (gg.below (by omega) (by omega))
      clear B_81 gg
      have cp_90 := p_89.cells
      have fp_90 := p_89.free
      have ct_91 := t_89.cells
      have ft_91 := t_89.free
      have cq_92 := q_89.cells
      have fq_92 := q_89.free
      have cy0_93 := y0_89.cells
      have fy0_93 := y0_89.free
      go_wp2_with fail
      refine (eqIntS_same _ _ m _ _ (btI ats cs xss fa ft i) _ gr_89.rd wr_89.rd (by omega)).mono ?_
      rintro e w12 ⟨rfl, b⟩
      clear cp_90 fp_90
      clear ct_91 ft_91
      clear cq_92 fq_92
      clear cy0_93 fy0_93
      have t_94 := b.size
      have z_94 : w.heap.size ≤ w12.heap.size := by omega
      have p_95 := p_89.same (same_below b (by omega))
      clear p_89
      have t_95 := t_89.same (same_below b (by omega))
      clear t_89
      have q_95 := q_89.same (same_below b (by omega))
      clear q_89
      have wr_95 := wr_89.same (same_below b (by omega))
      clear wr_89
      have y0_95 := y0_89.same (same_below b (by omega))
      clear y0_89
      have gr_95 := gr_89.same (same_below b (by omega))
      clear gr_89
      have B_94 := B_88.trans (b.mono (by omega))
      clear B_88 b
      have cp_96 := p_95.cells
      have fp_96 := p_95.free
      have ct_97 := t_95.cells
      have ft_97 := t_95.free
      have cq_98 := q_95.cells
      have fq_98 := q_95.free
      have cy0_99 := y0_95.cells
      have fy0_99 := y0_95.free
      go_wp2_with fail
      refine (markIntS_any _ m _ 1 _ _ _ gr_95.own (by omega) (by omega)).mono ?_
      rintro e w13 ⟨rfl, o, gg, zz⟩
      clear cp_96 fp_96
      clear ct_97 ft_97
      clear cq_98 fq_98
      clear cy0_99 fy0_99
      have n_100 := Ow.only gr_95 gg
      have t_100 := n_100.size
      have z_100 : w.heap.size ≤ w13.heap.size := by omega
      have p_101 := p_95.same (same_only n_100 (by omega) (by omega))
      clear p_95
      have t_101 := t_95.same (same_only n_100 (by omega) (by omega))
      clear t_95
      have q_101 := q_95.same (same_only n_100 (by omega) (by omega))
      clear q_95
      have wr_101 := wr_95.same (same_only n_100 (by omega) (by omega))
      clear wr_95
      have y0_101 := y0_95.same (same_only n_100 (by omega) (by omega))
      clear y0_95
      have gr_100 : Ow _ _ _ w13 _ _ _ _ := ⟨o, gr_95.top⟩
      clear gr_95 o gg
      have B_100 := B_94.trans (n_100.below (by omega) (by omega))
      clear B_94 n_100
      clear zz
      have cp_102 := p_101.cells
      have fp_102 := p_101.free
      have ct_103 := t_101.cells
      have ft_103 := t_101.free
      have cq_104 := q_101.cells
      have fq_104 := q_101.free
      have cy0_105 := y0_101.cells
      have fy0_105 := y0_101.free
      go_wp2_with fail
      refine (heldIntS_any _ m _ 1 _ gr_100.rd (by omega) (by omega)).mono ?_
      rintro e w14 ⟨rfl, rfl⟩
      go_wp2_with fail
      have lp_106 := p_101.lt
      have dp0_106 : Hid (w13.cell? ⟨w.heap.size, 0, none⟩ = some (.slice A n c)) := p_101.cells 0
      have dp1_106 : Hid (w13.cell? ⟨w.heap.size, 1, none⟩ = some (.slice C m d)) := p_101.cells 1
      have lt_106 := t_101.lt
      have dt0_106 : Hid (w13.cell? ⟨w.heap.size + 1, 0, none⟩ = some (.slice T q e0)) := t_101.cells 0
      have dt1_106 : Hid (w13.cell? ⟨w.heap.size + 1, 1, none⟩ = some (.slice X p f0)) := t_101.cells 1
      have lq_106 := q_101.lt
      have dq0_106 : Hid (w13.cell? ⟨w.heap.size + 1 + 1, 0, none⟩ = some (.int .i64 fa)) := q_101.cells 0
      have dq1_106 : Hid (w13.cell? ⟨w.heap.size + 1 + 1, 1, none⟩ = some (.int .i64 ft)) := q_101.cells 1
      clear cp_102 fp_102
      clear ct_103 ft_103
      clear cq_104 fq_104
      clear cy0_105 fy0_105
      have HA_106 := Lib.hid B_100
      go_region_held3 (fun w' => w'.cell? ⟨w.heap.size, 0, none⟩ = some (.slice A n c) ∧ w'.cell? ⟨w.heap.size, 1, none⟩ = some (.slice C m d) ∧ w'.cell? ⟨w.heap.size + 1, 0, none⟩ = some (.slice T q e0) ∧ w'.cell? ⟨w.heap.size + 1, 1, none⟩ = some (.slice X p f0) ∧ w'.cell? ⟨w.heap.size + 1 + 1, 0, none⟩ = some (.int .i64 fa) ∧ w'.cell? ⟨w.heap.size + 1 + 1, 1, none⟩ = some (.int .i64 ft) ∧ Below w13.heap.size w13 w')
        (first
          | exact ⟨dp0_106.out, dp1_106.out, dt0_106.out, dt1_106.out, dq0_106.out, dq1_106.out, (Below.refl _ _).drew⟩
          | exact ⟨(Below.cell (p := ⟨w.heap.size, 0, none⟩) b9 lp_106).trans dp0_106.out, (Below.cell (p := ⟨w.heap.size, 1, none⟩) b9 lp_106).trans dp1_106.out, (Below.cell (p := ⟨w.heap.size + 1, 0, none⟩) b9 lt_106).trans dt0_106.out, (Below.cell (p := ⟨w.heap.size + 1, 1, none⟩) b9 lt_106).trans dt1_106.out, (Below.cell (p := ⟨w.heap.size + 1 + 1, 0, none⟩) b9 lq_106).trans dq0_106.out, (Below.cell (p := ⟨w.heap.size + 1 + 1, 1, none⟩) b9 lq_106).trans dq1_106.out, b9⟩
          | exact ⟨(Below.cell (p := ⟨w.heap.size, 0, none⟩) b8 lp_106).trans dp0_106.out, (Below.cell (p := ⟨w.heap.size, 1, none⟩) b8 lp_106).trans dp1_106.out, (Below.cell (p := ⟨w.heap.size + 1, 0, none⟩) b8 lt_106).trans dt0_106.out, (Below.cell (p := ⟨w.heap.size + 1, 1, none⟩) b8 lt_106).trans dt1_106.out, (Below.cell (p := ⟨w.heap.size + 1 + 1, 0, none⟩) b8 lq_106).trans dq0_106.out, (Below.cell (p := ⟨w.heap.size + 1 + 1, 1, none⟩) b8 lq_106).trans dq1_106.out, b8⟩
          | exact ⟨(Below.cell (p := ⟨w.heap.size, 0, none⟩) b7 lp_106).trans dp0_106.out, (Below.cell (p := ⟨w.heap.size, 1, none⟩) b7 lp_106).trans dp1_106.out, (Below.cell (p := ⟨w.heap.size + 1, 0, none⟩) b7 lt_106).trans dt0_106.out, (Below.cell (p := ⟨w.heap.size + 1, 1, none⟩) b7 lt_106).trans dt1_106.out, (Below.cell (p := ⟨w.heap.size + 1 + 1, 0, none⟩) b7 lq_106).trans dq0_106.out, (Below.cell (p := ⟨w.heap.size + 1 + 1, 1, none⟩) b7 lq_106).trans dq1_106.out, b7⟩
          | exact ⟨(Below.cell (p := ⟨w.heap.size, 0, none⟩) b6 lp_106).trans dp0_106.out, (Below.cell (p := ⟨w.heap.size, 1, none⟩) b6 lp_106).trans dp1_106.out, (Below.cell (p := ⟨w.heap.size + 1, 0, none⟩) b6 lt_106).trans dt0_106.out, (Below.cell (p := ⟨w.heap.size + 1, 1, none⟩) b6 lt_106).trans dt1_106.out, (Below.cell (p := ⟨w.heap.size + 1 + 1, 0, none⟩) b6 lq_106).trans dq0_106.out, (Below.cell (p := ⟨w.heap.size + 1 + 1, 1, none⟩) b6 lq_106).trans dq1_106.out, b6⟩)
        (first
          | (go_at_call 15; go_split_ands; refine (to2 A C n c m d hs ats cs _ w13 w13.heap.size (HRS.out.below (HA_106.out.trans (Below.mono (by assumption) HA_106.out.size)) (Nat.le_refl _)) (by omega) (by omega) (by omega) HOk.out HCs.out (by assumption) (Nat.le_refl _)).mono ?_; rintro e w' ⟨⟨ga8, gb8, gs8, rfl, r8, c8⟩, b8⟩)
          | (go_at_call 36; go_split_ands; refine (to3 T X q e0 p f0 gs ts xss _ w13 w13.heap.size (HST.out.below (HA_106.out.trans (Below.mono (by assumption) HA_106.out.size)) (Nat.le_refl _)) (by assumption) (Nat.le_refl _)).mono ?_; rintro e w' ⟨⟨ga7, gb7, gs7, rfl, r7, c7⟩, b7⟩; try (replace r8 := r8.below c7 (Nat.le_refl _)))
          | (go_at_call 21; go_split_ands; refine (lift2 (W0 := w13) (B := w13.heap.size) (toFork_any fa ft _) (by assumption) (Nat.le_refl _)).mono ?_; rintro e w' ⟨rfl, c6, b6⟩; try (replace r8 := r8.below c6 (Nat.le_refl _)); try (replace r7 := r7.below c6 (Nat.le_refl _)))
          | (go_at_call 42; refine (ibt_from _ _ _ _ _ _ _ ats cs _ _ _ _ _ _ _ ts xss _ r8 r7 fa ft i HT.out w13 w13.heap.size (by assumption) (Nat.le_refl _)).mono ?_; rintro e w14 ⟨⟨gh, rfl, o9⟩, b9⟩))
      have t_106 := b9.size
      have z_106 : w.heap.size ≤ w14.heap.size := by omega
      have p_107 := p_101.same (same_below b9 (by omega))
      clear p_101
      have t_107 := t_101.same (same_below b9 (by omega))
      clear t_101
      have q_107 := q_101.same (same_below b9 (by omega))
      clear q_101
      have wr_107 := wr_101.same (same_below b9 (by omega))
      clear wr_101
      have y0_107 := y0_101.same (same_below b9 (by omega))
      clear y0_101
      have gr_107 := gr_100.same (same_below b9 (by omega))
      clear gr_100
      have B_106 := B_100.trans (b9.mono (by omega))
      clear B_100 b9
      have cp_108 := p_107.cells
      have fp_108 := p_107.free
      have ct_109 := t_107.cells
      have ft_109 := t_107.free
      have cq_110 := q_107.cells
      have fq_110 := q_107.free
      have cy0_111 := y0_107.cells
      have fy0_111 := y0_107.free
      have hr_1 := o9
      clear o9
      go_wp2_with fail
      refine (eqIntS_same _ _ m _ _ (btI ats cs xss fa ft i) _ hr_1.rd wr_107.rd (by omega)).mono ?_
      rintro e w15 ⟨rfl, b⟩
      clear cp_108 fp_108
      clear ct_109 ft_109
      clear cq_110 fq_110
      clear cy0_111 fy0_111
      have t_112 := b.size
      have z_112 : w.heap.size ≤ w15.heap.size := by omega
      have p_113 := p_107.same (same_below b (by omega))
      clear p_107
      have t_113 := t_107.same (same_below b (by omega))
      clear t_107
      have q_113 := q_107.same (same_below b (by omega))
      clear q_107
      have wr_113 := wr_107.same (same_below b (by omega))
      clear wr_107
      have y0_113 := y0_107.same (same_below b (by omega))
      clear y0_107
      have gr_113 := gr_107.same (same_below b (by omega))
      clear gr_107
      have hr_113 := hr_1.same (same_below b (by omega))
      clear hr_1
      have B_112 := B_106.trans (b.mono (by omega))
      clear B_106 b
      have cp_114 := p_113.cells
      have fp_114 := p_113.free
      have ct_115 := t_113.cells
      have ft_115 := t_113.free
      have cq_116 := q_113.cells
      have fq_116 := q_113.free
      have cy0_117 := y0_113.cells
      have fy0_117 := y0_113.free
      go_wp2_with fail
      refine (heldIntS_any _ m _ 1 _ gr_113.rd (by omega) (by omega)).mono ?_
      rintro e w16 ⟨rfl, rfl⟩
      go_wp2_with fail
      go_ret
      exact ⟨rfl, B_112⟩
    · have HZT := Lib.hid (szI_no (left := (1048576 - ((n : Int) + (asTot ats : Int) + ((m : Int) + (bytesOf cs : Int))))) (n := ((q : Int) + ((p : Int) + (tot (iss xss) : Int)))) (by omega))
      have B0 := Below.refl w.heap.size w
      have s0 : w.heap.size ≤ w.heap.size := Nat.le_refl _
      go_enter Try.func10, Try.ntmps10
      have p_2 : Bx (w.alloc (.cells #[.slice A n c, .slice C m d] 25)) (w.heap.size) 25 #[.slice A n c, .slice C m d] := Bx.new _ _ _
      have B_2 := B0.alloc s0 (.cells #[.slice A n c, .slice C m d] 25)
      clear B0
      have cp_3 := p_2.cells
      have fp_3 := p_2.free
      clear cp_3 fp_3
      have p_4 := p_2.same (same_alloc (.cells #[.slice T q e0, .slice X p f0] 55) (by simp only [World.size_alloc]; omega))
      clear p_2
      have t_5 : Bx ((w.alloc (.cells #[.slice A n c, .slice C m d] 25)).alloc (.cells #[.slice T q e0, .slice X p f0] 55)) (w.heap.size + 1) 55 #[.slice T q e0, .slice X p f0] := by
        have h := Bx.new (w.alloc (.cells #[.slice A n c, .slice C m d] 25)) 55 #[.slice T q e0, .slice X p f0]
        simpa only [World.size_alloc] using h
      have B_5 := B_2.alloc (by simp only [World.size_alloc]; omega) (.cells #[.slice T q e0, .slice X p f0] 55)
      clear B_2
      have cp_6 := p_4.cells
      have fp_6 := p_4.free
      have ct_7 := t_5.cells
      have ft_7 := t_5.free
      clear cp_6 fp_6
      clear ct_7 ft_7
      have p_8 := p_4.same (same_alloc (.cells #[.int .i64 fa, .int .i64 ft] 38) (by simp only [World.size_alloc]; omega))
      clear p_4
      have t_8 := t_5.same (same_alloc (.cells #[.int .i64 fa, .int .i64 ft] 38) (by simp only [World.size_alloc]; omega))
      clear t_5
      have q_9 : Bx (((w.alloc (.cells #[.slice A n c, .slice C m d] 25)).alloc (.cells #[.slice T q e0, .slice X p f0] 55)).alloc (.cells #[.int .i64 fa, .int .i64 ft] 38)) (w.heap.size + 1 + 1) 38 #[.int .i64 fa, .int .i64 ft] := by
        have h := Bx.new ((w.alloc (.cells #[.slice A n c, .slice C m d] 25)).alloc (.cells #[.slice T q e0, .slice X p f0] 55)) 38 #[.int .i64 fa, .int .i64 ft]
        simpa only [World.size_alloc] using h
      have B_9 := B_5.alloc (by simp only [World.size_alloc]; omega) (.cells #[.int .i64 fa, .int .i64 ft] 38)
      clear B_5
      have cp_10 := p_8.cells
      have fp_10 := p_8.free
      have ct_11 := t_8.cells
      have ft_11 := t_8.free
      have cq_12 := q_9.cells
      have fq_12 := q_9.free
      go_wp2_with fail
      refine (szSchema_any A C n c m d hs ats cs 1048576 _ (HRS.out.below B_9 (Nat.le_refl _)).at_ (HRS.out.below B_9 (Nat.le_refl _)).cl HOk.out HHs.out HCs.out (by omega) (by omega) (by omega) (by omega)).mono ?_
      rw [HZ.out]
      rintro e w1 ⟨rfl, b⟩
      clear cp_10 fp_10
      clear ct_11 ft_11
      clear cq_12 fq_12
      simp only [World.size_alloc] at b
      have t_13 := b.size
      simp only [World.size_alloc] at t_13
      have z_13 : w.heap.size ≤ w1.heap.size := by omega
      have p_14 := p_8.same (same_below b (by omega))
      clear p_8
      have t_14 := t_8.same (same_below b (by omega))
      clear t_8
      have q_14 := q_9.same (same_below b (by omega))
      clear q_9
      have B_13 := B_9.trans (b.mono (by omega))
      clear B_9 b
      have cp_15 := p_14.cells
      have fp_15 := p_14.free
      have ct_16 := t_14.cells
      have ft_16 := t_14.free
      have cq_17 := q_14.cells
      have fq_17 := q_14.free
      go_wp2_with fail
      refine (szStats_any T X q e0 p f0 gs xss (1048576 - ((n : Int) + (asTot ats : Int) + ((m : Int) + (bytesOf cs : Int)))) _ (HRX.out.below B_13 (Nat.le_refl _)) HBX.out (by omega) (by omega) (by omega) (by omega)).mono ?_
      rw [HZT.out]
      rintro e w2 ⟨rfl, b⟩
      clear cp_15 fp_15
      clear ct_16 ft_16
      clear cq_17 fq_17
      have t_18 := b.size
      have z_18 : w.heap.size ≤ w2.heap.size := by omega
      have p_19 := p_14.same (same_below b (by omega))
      clear p_14
      have t_19 := t_14.same (same_below b (by omega))
      clear t_14
      have q_19 := q_14.same (same_below b (by omega))
      clear q_14
      have B_18 := B_13.trans (b.mono (by omega))
      clear B_13 b
      have cp_20 := p_19.cells
      have fp_20 := p_19.free
      have ct_21 := t_19.cells
      have ft_21 := t_19.free
      have cq_22 := q_19.cells
      have fq_22 := q_19.free
      go_wp2_with fail
      go_ret
      exact ⟨rfl, B_18⟩
  · have HZ := Lib.hid (szI_no (left := 1048576) (n := ((n : Int) + (asTot ats : Int) + ((m : Int) + (bytesOf cs : Int)))) (by omega))
    have B0 := Below.refl w.heap.size w
    have s0 : w.heap.size ≤ w.heap.size := Nat.le_refl _
    go_enter Try.func10, Try.ntmps10
    have p_2 : Bx (w.alloc (.cells #[.slice A n c, .slice C m d] 25)) (w.heap.size) 25 #[.slice A n c, .slice C m d] := Bx.new _ _ _
    have B_2 := B0.alloc s0 (.cells #[.slice A n c, .slice C m d] 25)
    clear B0
    have cp_3 := p_2.cells
    have fp_3 := p_2.free
    clear cp_3 fp_3
    have p_4 := p_2.same (same_alloc (.cells #[.slice T q e0, .slice X p f0] 55) (by simp only [World.size_alloc]; omega))
    clear p_2
    have t_5 : Bx ((w.alloc (.cells #[.slice A n c, .slice C m d] 25)).alloc (.cells #[.slice T q e0, .slice X p f0] 55)) (w.heap.size + 1) 55 #[.slice T q e0, .slice X p f0] := by
      have h := Bx.new (w.alloc (.cells #[.slice A n c, .slice C m d] 25)) 55 #[.slice T q e0, .slice X p f0]
      simpa only [World.size_alloc] using h
    have B_5 := B_2.alloc (by simp only [World.size_alloc]; omega) (.cells #[.slice T q e0, .slice X p f0] 55)
    clear B_2
    have cp_6 := p_4.cells
    have fp_6 := p_4.free
    have ct_7 := t_5.cells
    have ft_7 := t_5.free
    clear cp_6 fp_6
    clear ct_7 ft_7
    have p_8 := p_4.same (same_alloc (.cells #[.int .i64 fa, .int .i64 ft] 38) (by simp only [World.size_alloc]; omega))
    clear p_4
    have t_8 := t_5.same (same_alloc (.cells #[.int .i64 fa, .int .i64 ft] 38) (by simp only [World.size_alloc]; omega))
    clear t_5
    have q_9 : Bx (((w.alloc (.cells #[.slice A n c, .slice C m d] 25)).alloc (.cells #[.slice T q e0, .slice X p f0] 55)).alloc (.cells #[.int .i64 fa, .int .i64 ft] 38)) (w.heap.size + 1 + 1) 38 #[.int .i64 fa, .int .i64 ft] := by
      have h := Bx.new ((w.alloc (.cells #[.slice A n c, .slice C m d] 25)).alloc (.cells #[.slice T q e0, .slice X p f0] 55)) 38 #[.int .i64 fa, .int .i64 ft]
      simpa only [World.size_alloc] using h
    have B_9 := B_5.alloc (by simp only [World.size_alloc]; omega) (.cells #[.int .i64 fa, .int .i64 ft] 38)
    clear B_5
    have cp_10 := p_8.cells
    have fp_10 := p_8.free
    have ct_11 := t_8.cells
    have ft_11 := t_8.free
    have cq_12 := q_9.cells
    have fq_12 := q_9.free
    go_wp2_with fail
    refine (szSchema_any A C n c m d hs ats cs 1048576 _ (HRS.out.below B_9 (Nat.le_refl _)).at_ (HRS.out.below B_9 (Nat.le_refl _)).cl HOk.out HHs.out HCs.out (by omega) (by omega) (by omega) (by omega)).mono ?_
    rw [HZ.out]
    rintro e w1 ⟨rfl, b⟩
    clear cp_10 fp_10
    clear ct_11 ft_11
    clear cq_12 fq_12
    simp only [World.size_alloc] at b
    have t_13 := b.size
    simp only [World.size_alloc] at t_13
    have z_13 : w.heap.size ≤ w1.heap.size := by omega
    have p_14 := p_8.same (same_below b (by omega))
    clear p_8
    have t_14 := t_8.same (same_below b (by omega))
    clear t_8
    have q_14 := q_9.same (same_below b (by omega))
    clear q_9
    have B_13 := B_9.trans (b.mono (by omega))
    clear B_9 b
    have cp_15 := p_14.cells
    have fp_15 := p_14.free
    have ct_16 := t_14.cells
    have ft_16 := t_14.free
    have cq_17 := q_14.cells
    have fq_17 := q_14.free
    go_wp2_with fail
    go_ret
    exact ⟨rfl, B_13⟩

set_option maxHeartbeats 8000000 in
theorem walk_no (w : World) (A : Option Addr) (n c : Nat) (hs : List AH) (ats : List AD) (C : Option Addr) (m d : Nat) (cs : List ByteArray) (T : Option Addr) (q e0 : Nat) (ts : List Int) (X : Option Addr) (p f0 : Nat) (gs : List Hd) (xss : List (List Int)) (fa ft i : Int) (hl : n ≤ c) (hm : c ≤ maxLen) (hr : RdAS w A n hs ats) (hg : ∀ h ∈ hs, AHw h) (hx : ∀ a ∈ ats, ADw a) (hl2 : m ≤ d) (hm2 : d ≤ maxLen) (hr2 : Rd w C m (cs.map Value.string)) (hw2 : ∀ s ∈ cs, s.size ≤ maxLen) (hlt : q ≤ e0) (hmt : e0 ≤ maxLen) (hrt : Rd w T q (ts.map (Value.int .i64))) (hwt : ∀ z ∈ ts, (Lit.int .i64 z).wf = true) (hlx : p ≤ f0) (hmx : f0 ≤ maxLen) (hrx : RdSS w X p gs (iss xss)) (hbx : ∀ x ∈ gs, x.2.1 ≤ x.2.2 ∧ x.2.2 ≤ maxLen) (hwx : ∀ xs ∈ xss, ∀ z ∈ xs, (Lit.int .i64 z).wf = true) (_ : (Lit.int .i64 fa).wf = true) (_ : (Lit.int .i64 ft).wf = true) (_ : (Lit.int .i64 i).wf = true) (HT : Hid (btB ats cs ts xss fa ft i = false)) :
    Calls Try.prog 10 #[.agg #[.slice A n c, .slice C m d], .agg #[.slice T q e0, .slice X p f0], .agg #[.int .i64 fa, .int .i64 ft], .int .i64 i] w fun e w' => e = .returned (.bool true) ∧ Below w.heap.size w w' := by
  unfold maxLen at hm hm2 hmt hmx
  have HRS : Hid (RdSch w A C n m hs ats cs) := ⟨hr, hr2⟩
  have HOk : Hid (∀ a ∈ ats, ADok a) := fun a ha => ⟨by have := (hx a ha).1; unfold maxLen at this; omega, fun s hs => by have := (hx a ha).2.2 s hs; unfold maxLen at this; omega⟩
  have HHs : Hid (∀ h ∈ hs, AHok h) := fun h hh => ⟨by have := (hg h hh).1; unfold maxLen at this; omega, by have := (hg h hh).2; unfold maxLen at this; omega⟩
  have HCs : Hid (∀ s ∈ cs, s.size ≤ 9223372036854775807) := fun s hs => by have := hw2 s hs; unfold maxLen at this; omega
  have HRX := Lib.hid hrx; have HRT := Lib.hid hrt
  have HBX : Hid (∀ x ∈ gs, x.2.1 ≤ 9223372036854775807) := fun x hx => by have := hbx x hx; unfold maxLen at this; omega
  have HTI := Lib.hid (tot_iss xss)
  clear hr hr2 hg hx hw2 hrt hwt hrx hbx hwx
  by_cases hn : ((n : Int) + (asTot ats : Int) + ((m : Int) + (bytesOf cs : Int))) ≤ 1048576
  · have HZ := Lib.hid (szI_yes hn)
    by_cases hnt : ((q : Int) + ((p : Int) + (tot (iss xss) : Int))) ≤ (1048576 - ((n : Int) + (asTot ats : Int) + ((m : Int) + (bytesOf cs : Int))))
    · have HZT := Lib.hid (szI_yes hnt)
      have htot : totI xss = tot (iss xss) := HTI.out.symm
      have HST : Hid (Sta w T X q p gs ts xss) := ⟨HRT.out, HRX.out, by omega, by omega, by omega⟩
      have B0 := Below.refl w.heap.size w
      have s0 : w.heap.size ≤ w.heap.size := Nat.le_refl _
      go_enter Try.func10, Try.ntmps10
      have p_2 : Bx (w.alloc (.cells #[.slice A n c, .slice C m d] 25)) (w.heap.size) 25 #[.slice A n c, .slice C m d] := Bx.new _ _ _
      have B_2 := B0.alloc s0 (.cells #[.slice A n c, .slice C m d] 25)
      clear B0
      have cp_3 := p_2.cells
      have fp_3 := p_2.free
      clear cp_3 fp_3
      have p_4 := p_2.same (same_alloc (.cells #[.slice T q e0, .slice X p f0] 55) (by simp only [World.size_alloc]; omega))
      clear p_2
      have t_5 : Bx ((w.alloc (.cells #[.slice A n c, .slice C m d] 25)).alloc (.cells #[.slice T q e0, .slice X p f0] 55)) (w.heap.size + 1) 55 #[.slice T q e0, .slice X p f0] := by
        have h := Bx.new (w.alloc (.cells #[.slice A n c, .slice C m d] 25)) 55 #[.slice T q e0, .slice X p f0]
        simpa only [World.size_alloc] using h
      have B_5 := B_2.alloc (by simp only [World.size_alloc]; omega) (.cells #[.slice T q e0, .slice X p f0] 55)
      clear B_2
      have cp_6 := p_4.cells
      have fp_6 := p_4.free
      have ct_7 := t_5.cells
      have ft_7 := t_5.free
      clear cp_6 fp_6
      clear ct_7 ft_7
      have p_8 := p_4.same (same_alloc (.cells #[.int .i64 fa, .int .i64 ft] 38) (by simp only [World.size_alloc]; omega))
      clear p_4
      have t_8 := t_5.same (same_alloc (.cells #[.int .i64 fa, .int .i64 ft] 38) (by simp only [World.size_alloc]; omega))
      clear t_5
      have q_9 : Bx (((w.alloc (.cells #[.slice A n c, .slice C m d] 25)).alloc (.cells #[.slice T q e0, .slice X p f0] 55)).alloc (.cells #[.int .i64 fa, .int .i64 ft] 38)) (w.heap.size + 1 + 1) 38 #[.int .i64 fa, .int .i64 ft] := by
        have h := Bx.new ((w.alloc (.cells #[.slice A n c, .slice C m d] 25)).alloc (.cells #[.slice T q e0, .slice X p f0] 55)) 38 #[.int .i64 fa, .int .i64 ft]
        simpa only [World.size_alloc] using h
      have B_9 := B_5.alloc (by simp only [World.size_alloc]; omega) (.cells #[.int .i64 fa, .int .i64 ft] 38)
      clear B_5
      have cp_10 := p_8.cells
      have fp_10 := p_8.free
      have ct_11 := t_8.cells
      have ft_11 := t_8.free
      have cq_12 := q_9.cells
      have fq_12 := q_9.free
      go_wp2_with fail
      refine (szSchema_any A C n c m d hs ats cs 1048576 _ (HRS.out.below B_9 (Nat.le_refl _)).at_ (HRS.out.below B_9 (Nat.le_refl _)).cl HOk.out HHs.out HCs.out (by omega) (by omega) (by omega) (by omega)).mono ?_
      rw [HZ.out]
      rintro e w1 ⟨rfl, b⟩
      clear cp_10 fp_10
      clear ct_11 ft_11
      clear cq_12 fq_12
      simp only [World.size_alloc] at b
      have t_13 := b.size
      simp only [World.size_alloc] at t_13
      have z_13 : w.heap.size ≤ w1.heap.size := by omega
      have p_14 := p_8.same (same_below b (by omega))
      clear p_8
      have t_14 := t_8.same (same_below b (by omega))
      clear t_8
      have q_14 := q_9.same (same_below b (by omega))
      clear q_9
      have B_13 := B_9.trans (b.mono (by omega))
      clear B_9 b
      have cp_15 := p_14.cells
      have fp_15 := p_14.free
      have ct_16 := t_14.cells
      have ft_16 := t_14.free
      have cq_17 := q_14.cells
      have fq_17 := q_14.free
      go_wp2_with fail
      refine (szStats_any T X q e0 p f0 gs xss (1048576 - ((n : Int) + (asTot ats : Int) + ((m : Int) + (bytesOf cs : Int)))) _ (HRX.out.below B_13 (Nat.le_refl _)) HBX.out (by omega) (by omega) (by omega) (by omega)).mono ?_
      rw [HZT.out]
      rintro e w2 ⟨rfl, b⟩
      clear cp_15 fp_15
      clear ct_16 ft_16
      clear cq_17 fq_17
      have t_18 := b.size
      have z_18 : w.heap.size ≤ w2.heap.size := by omega
      have p_19 := p_14.same (same_below b (by omega))
      clear p_14
      have t_19 := t_14.same (same_below b (by omega))
      clear t_14
      have q_19 := q_14.same (same_below b (by omega))
      clear q_14
      have B_18 := B_13.trans (b.mono (by omega))
      clear B_13 b
      have cp_20 := p_19.cells
      have fp_20 := p_19.free
      have ct_21 := t_19.cells
      have ft_21 := t_19.free
      have cq_22 := q_19.cells
      have fq_22 := q_19.free
      go_wp2_with fail
      have lp_23 := p_19.lt
      have dp0_23 : Hid (w2.cell? ⟨w.heap.size, 0, none⟩ = some (.slice A n c)) := p_19.cells 0
      have dp1_23 : Hid (w2.cell? ⟨w.heap.size, 1, none⟩ = some (.slice C m d)) := p_19.cells 1
      have lt_23 := t_19.lt
      have dt0_23 : Hid (w2.cell? ⟨w.heap.size + 1, 0, none⟩ = some (.slice T q e0)) := t_19.cells 0
      have dt1_23 : Hid (w2.cell? ⟨w.heap.size + 1, 1, none⟩ = some (.slice X p f0)) := t_19.cells 1
      have lq_23 := q_19.lt
      have dq0_23 : Hid (w2.cell? ⟨w.heap.size + 1 + 1, 0, none⟩ = some (.int .i64 fa)) := q_19.cells 0
      have dq1_23 : Hid (w2.cell? ⟨w.heap.size + 1 + 1, 1, none⟩ = some (.int .i64 ft)) := q_19.cells 1
      clear cp_20 fp_20
      clear ct_21 ft_21
      clear cq_22 fq_22
      have HA_23 := Lib.hid B_18
      go_region_held3 (fun w' => w'.cell? ⟨w.heap.size, 0, none⟩ = some (.slice A n c) ∧ w'.cell? ⟨w.heap.size, 1, none⟩ = some (.slice C m d) ∧ w'.cell? ⟨w.heap.size + 1, 0, none⟩ = some (.slice T q e0) ∧ w'.cell? ⟨w.heap.size + 1, 1, none⟩ = some (.slice X p f0) ∧ w'.cell? ⟨w.heap.size + 1 + 1, 0, none⟩ = some (.int .i64 fa) ∧ w'.cell? ⟨w.heap.size + 1 + 1, 1, none⟩ = some (.int .i64 ft) ∧ Below w2.heap.size w2 w')
        (first
          | exact ⟨dp0_23.out, dp1_23.out, dt0_23.out, dt1_23.out, dq0_23.out, dq1_23.out, (Below.refl _ _).drew⟩
          | exact ⟨(Below.cell (p := ⟨w.heap.size, 0, none⟩) b9 lp_23).trans dp0_23.out, (Below.cell (p := ⟨w.heap.size, 1, none⟩) b9 lp_23).trans dp1_23.out, (Below.cell (p := ⟨w.heap.size + 1, 0, none⟩) b9 lt_23).trans dt0_23.out, (Below.cell (p := ⟨w.heap.size + 1, 1, none⟩) b9 lt_23).trans dt1_23.out, (Below.cell (p := ⟨w.heap.size + 1 + 1, 0, none⟩) b9 lq_23).trans dq0_23.out, (Below.cell (p := ⟨w.heap.size + 1 + 1, 1, none⟩) b9 lq_23).trans dq1_23.out, b9⟩
          | exact ⟨(Below.cell (p := ⟨w.heap.size, 0, none⟩) b8 lp_23).trans dp0_23.out, (Below.cell (p := ⟨w.heap.size, 1, none⟩) b8 lp_23).trans dp1_23.out, (Below.cell (p := ⟨w.heap.size + 1, 0, none⟩) b8 lt_23).trans dt0_23.out, (Below.cell (p := ⟨w.heap.size + 1, 1, none⟩) b8 lt_23).trans dt1_23.out, (Below.cell (p := ⟨w.heap.size + 1 + 1, 0, none⟩) b8 lq_23).trans dq0_23.out, (Below.cell (p := ⟨w.heap.size + 1 + 1, 1, none⟩) b8 lq_23).trans dq1_23.out, b8⟩
          | exact ⟨(Below.cell (p := ⟨w.heap.size, 0, none⟩) b7 lp_23).trans dp0_23.out, (Below.cell (p := ⟨w.heap.size, 1, none⟩) b7 lp_23).trans dp1_23.out, (Below.cell (p := ⟨w.heap.size + 1, 0, none⟩) b7 lt_23).trans dt0_23.out, (Below.cell (p := ⟨w.heap.size + 1, 1, none⟩) b7 lt_23).trans dt1_23.out, (Below.cell (p := ⟨w.heap.size + 1 + 1, 0, none⟩) b7 lq_23).trans dq0_23.out, (Below.cell (p := ⟨w.heap.size + 1 + 1, 1, none⟩) b7 lq_23).trans dq1_23.out, b7⟩
          | exact ⟨(Below.cell (p := ⟨w.heap.size, 0, none⟩) b6 lp_23).trans dp0_23.out, (Below.cell (p := ⟨w.heap.size, 1, none⟩) b6 lp_23).trans dp1_23.out, (Below.cell (p := ⟨w.heap.size + 1, 0, none⟩) b6 lt_23).trans dt0_23.out, (Below.cell (p := ⟨w.heap.size + 1, 1, none⟩) b6 lt_23).trans dt1_23.out, (Below.cell (p := ⟨w.heap.size + 1 + 1, 0, none⟩) b6 lq_23).trans dq0_23.out, (Below.cell (p := ⟨w.heap.size + 1 + 1, 1, none⟩) b6 lq_23).trans dq1_23.out, b6⟩)
        (first
          | (go_at_call 15; go_split_ands; refine (to2 A C n c m d hs ats cs _ w2 w2.heap.size (HRS.out.below (HA_23.out.trans (Below.mono (by assumption) HA_23.out.size)) (Nat.le_refl _)) (by omega) (by omega) (by omega) HOk.out HCs.out (by assumption) (Nat.le_refl _)).mono ?_; rintro e w' ⟨⟨ga8, gb8, gs8, rfl, r8, c8⟩, b8⟩)
          | (go_at_call 36; go_split_ands; refine (to3 T X q e0 p f0 gs ts xss _ w2 w2.heap.size (HST.out.below (HA_23.out.trans (Below.mono (by assumption) HA_23.out.size)) (Nat.le_refl _)) (by assumption) (Nat.le_refl _)).mono ?_; rintro e w' ⟨⟨ga7, gb7, gs7, rfl, r7, c7⟩, b7⟩; try (replace r8 := r8.below c7 (Nat.le_refl _)))
          | (go_at_call 21; go_split_ands; refine (lift2 (W0 := w2) (B := w2.heap.size) (toFork_any fa ft _) (by assumption) (Nat.le_refl _)).mono ?_; rintro e w' ⟨rfl, c6, b6⟩; try (replace r8 := r8.below c6 (Nat.le_refl _)); try (replace r7 := r7.below c6 (Nat.le_refl _)))
          | (go_at_call 41; refine (sbt_none _ _ _ _ _ _ _ ats cs _ _ _ _ _ _ _ ts xss _ r8 r7 fa ft i HT.out w2 w2.heap.size (by assumption) (Nat.le_refl _)).mono ?_; rintro e w3 ⟨⟨Aw, rfl⟩, b9⟩))
      have t_23 := b9.size
      have z_23 : w.heap.size ≤ w3.heap.size := by omega
      have p_24 := p_19.same (same_below b9 (by omega))
      clear p_19
      have t_24 := t_19.same (same_below b9 (by omega))
      clear t_19
      have q_24 := q_19.same (same_below b9 (by omega))
      clear q_19
      have B_23 := B_18.trans (b9.mono (by omega))
      clear B_18 b9
      have cp_25 := p_24.cells
      have fp_25 := p_24.free
      have ct_26 := t_24.cells
      have ft_26 := t_24.free
      have cq_27 := q_24.cells
      have fq_27 := q_24.free
      go_wp2_with fail
      refine (toSchema_any A C n c m d hs ats cs _ (HRS.out.below B_23 (Nat.le_refl _)) (by omega) (by omega) (by omega)).mono ?_
      rintro e w4 ⟨g1, g2, midx, gsx, rfl, o, b⟩
      clear cp_25 fp_25
      clear ct_26 ft_26
      clear cq_27 fq_27
      have t_28 := b.size
      have z_28 : w.heap.size ≤ w4.heap.size := by omega
      have p_29 := p_24.same (same_below b (by omega))
      clear p_24
      have t_29 := t_24.same (same_below b (by omega))
      clear t_24
      have q_29 := q_24.same (same_below b (by omega))
      clear q_24
      have B_28 := B_23.trans (b.mono (by omega))
      clear B_23 b
      have x_28 := o
      clear o
      have cp_30 := p_29.cells
      have fp_30 := p_29.free
      have ct_31 := t_29.cells
      have ft_31 := t_29.free
      have cq_32 := q_29.cells
      have fq_32 := q_29.free
      clear cp_30 fp_30
      clear ct_31 ft_31
      clear cq_32 fq_32
      have p_33 := p_29.same (same_alloc (.cells #[.slice (some ⟨g1, 0, none⟩) n n, .slice (some ⟨g2, 0, none⟩) m m] 31) (by omega))
      clear p_29
      have t_33 := t_29.same (same_alloc (.cells #[.slice (some ⟨g1, 0, none⟩) n n, .slice (some ⟨g2, 0, none⟩) m m] 31) (by omega))
      clear t_29
      have q_33 := q_29.same (same_alloc (.cells #[.slice (some ⟨g1, 0, none⟩) n n, .slice (some ⟨g2, 0, none⟩) m m] 31) (by omega))
      clear q_29
      have x_33 := x_28.same (same_alloc (.cells #[.slice (some ⟨g1, 0, none⟩) n n, .slice (some ⟨g2, 0, none⟩) m m] 31) (by omega))
      clear x_28
      have x0_34 : Bx (w4.alloc (.cells #[.slice (some ⟨g1, 0, none⟩) n n, .slice (some ⟨g2, 0, none⟩) m m] 31)) (w4.heap.size) 31 #[.slice (some ⟨g1, 0, none⟩) n n, .slice (some ⟨g2, 0, none⟩) m m] := Bx.new _ _ _
      have B_34 := B_28.alloc z_28 (.cells #[.slice (some ⟨g1, 0, none⟩) n n, .slice (some ⟨g2, 0, none⟩) m m] 31)
      clear B_28
      have cp_35 := p_33.cells
      have fp_35 := p_33.free
      have ct_36 := t_33.cells
      have ft_36 := t_33.free
      have cq_37 := q_33.cells
      have fq_37 := q_33.free
      have cx0_38 := x0_34.cells
      have fx0_38 := x0_34.free
      go_wp2_with fail
      refine (toStats_any T X q e0 p f0 gs ts xss _ (HST.out.below B_34 (Nat.le_refl _))).mono ?_
      rintro e w5 ⟨g3, g4, midy, gsy, rfl, o, b⟩
      clear cp_35 fp_35
      clear ct_36 ft_36
      clear cq_37 fq_37
      clear cx0_38 fx0_38
      simp only [World.size_alloc] at b o
      have t_39 := b.size
      simp only [World.size_alloc] at t_39
      have z_39 : w.heap.size ≤ w5.heap.size := by omega
      have p_40 := p_33.same (same_below b (by omega))
      clear p_33
      have t_40 := t_33.same (same_below b (by omega))
      clear t_33
      have q_40 := q_33.same (same_below b (by omega))
      clear q_33
      have x_40 := x_33.same (same_below b (by omega))
      clear x_33
      have x0_40 := x0_34.same (same_below b (by omega))
      clear x0_34
      have B_39 := B_34.trans (b.mono (by omega))
      clear B_34 b
      have y_39 := o
      clear o
      have cp_41 := p_40.cells
      have fp_41 := p_40.free
      have ct_42 := t_40.cells
      have ft_42 := t_40.free
      have cq_43 := q_40.cells
      have fq_43 := q_40.free
      have cx0_44 := x0_40.cells
      have fx0_44 := x0_40.free
      clear cp_41 fp_41
      clear ct_42 ft_42
      clear cq_43 fq_43
      clear cx0_44 fx0_44
      have p_45 := p_40.same (same_alloc (.cells #[.slice (some ⟨g3, 0, none⟩) q q, .slice (some ⟨g4, 0, none⟩) p p] 58) (by omega))
      clear p_40
      have t_45 := t_40.same (same_alloc (.cells #[.slice (some ⟨g3, 0, none⟩) q q, .slice (some ⟨g4, 0, none⟩) p p] 58) (by omega))
      clear t_40
      have q_45 := q_40.same (same_alloc (.cells #[.slice (some ⟨g3, 0, none⟩) q q, .slice (some ⟨g4, 0, none⟩) p p] 58) (by omega))
      clear q_40
      have x_45 := x_40.same (same_alloc (.cells #[.slice (some ⟨g3, 0, none⟩) q q, .slice (some ⟨g4, 0, none⟩) p p] 58) (by omega))
      clear x_40
      have x0_45 := x0_40.same (same_alloc (.cells #[.slice (some ⟨g3, 0, none⟩) q q, .slice (some ⟨g4, 0, none⟩) p p] 58) (by omega))
      clear x0_40
      have y_45 := y_39.same (same_alloc (.cells #[.slice (some ⟨g3, 0, none⟩) q q, .slice (some ⟨g4, 0, none⟩) p p] 58) (by omega))
      clear y_39
      have y0_46 : Bx (w5.alloc (.cells #[.slice (some ⟨g3, 0, none⟩) q q, .slice (some ⟨g4, 0, none⟩) p p] 58)) (w5.heap.size) 58 #[.slice (some ⟨g3, 0, none⟩) q q, .slice (some ⟨g4, 0, none⟩) p p] := Bx.new _ _ _
      have B_46 := B_39.alloc z_39 (.cells #[.slice (some ⟨g3, 0, none⟩) q q, .slice (some ⟨g4, 0, none⟩) p p] 58)
      clear B_39
      have cp_47 := p_45.cells
      have fp_47 := p_45.free
      have ct_48 := t_45.cells
      have ft_48 := t_45.free
      have cq_49 := q_45.cells
      have fq_49 := q_45.free
      have cx0_50 := x0_45.cells
      have fx0_50 := x0_45.free
      have cy0_51 := y0_46.cells
      have fy0_51 := y0_46.free
      go_wp2_with fail
      clear cp_47 fp_47
      clear ct_48 ft_48
      clear cq_49 fq_49
      clear cx0_50 fx0_50
      clear cy0_51 fy0_51
      obtain ⟨v52, hv52⟩ : ∃ v52, v52 = (w5.alloc (.cells #[.slice (some ⟨g3, 0, none⟩) q q, .slice (some ⟨g4, 0, none⟩) p p] 58)) := ⟨_, rfl⟩
      have zv52 : w5.heap.size + 1 ≤ v52.heap.size := by rw [hv52]; simp
      rw [← hv52] at p_45 t_45 q_45 x_45 x0_45 y_45 y0_46 B_46 ⊢
      clear hv52
      have HXs := Lib.hid (x_45.sch (by omega) (by omega) (by omega) HOk.out HCs.out); have HYs := Lib.hid (y_45.sta (by omega) (by omega) (by omega))
      go_wp2_with fail
      have lx0_53 := x0_45.lt
      have dx00_53 : Hid (v52.cell? ⟨w4.heap.size, 0, none⟩ = some (.slice (some ⟨g1, 0, none⟩) n n)) := x0_45.cells 0
      have dx01_53 : Hid (v52.cell? ⟨w4.heap.size, 1, none⟩ = some (.slice (some ⟨g2, 0, none⟩) m m)) := x0_45.cells 1
      have ly0_53 := y0_46.lt
      have dy00_53 : Hid (v52.cell? ⟨w5.heap.size, 0, none⟩ = some (.slice (some ⟨g3, 0, none⟩) q q)) := y0_46.cells 0
      have dy01_53 : Hid (v52.cell? ⟨w5.heap.size, 1, none⟩ = some (.slice (some ⟨g4, 0, none⟩) p p)) := y0_46.cells 1
      have lq_53 := q_45.lt
      have dq0_53 : Hid (v52.cell? ⟨w.heap.size + 1 + 1, 0, none⟩ = some (.int .i64 fa)) := q_45.cells 0
      have dq1_53 : Hid (v52.cell? ⟨w.heap.size + 1 + 1, 1, none⟩ = some (.int .i64 ft)) := q_45.cells 1
      have HA_53 := Lib.hid B_46
      go_region_held3 (fun w' => w'.cell? ⟨w4.heap.size, 0, none⟩ = some (.slice (some ⟨g1, 0, none⟩) n n) ∧ w'.cell? ⟨w4.heap.size, 1, none⟩ = some (.slice (some ⟨g2, 0, none⟩) m m) ∧ w'.cell? ⟨w5.heap.size, 0, none⟩ = some (.slice (some ⟨g3, 0, none⟩) q q) ∧ w'.cell? ⟨w5.heap.size, 1, none⟩ = some (.slice (some ⟨g4, 0, none⟩) p p) ∧ w'.cell? ⟨w.heap.size + 1 + 1, 0, none⟩ = some (.int .i64 fa) ∧ w'.cell? ⟨w.heap.size + 1 + 1, 1, none⟩ = some (.int .i64 ft) ∧ Below v52.heap.size v52 w')
        (first
          | exact ⟨dx00_53.out, dx01_53.out, dy00_53.out, dy01_53.out, dq0_53.out, dq1_53.out, (Below.refl _ _).drew⟩
          | exact ⟨(Below.cell (p := ⟨w4.heap.size, 0, none⟩) b9 lx0_53).trans dx00_53.out, (Below.cell (p := ⟨w4.heap.size, 1, none⟩) b9 lx0_53).trans dx01_53.out, (Below.cell (p := ⟨w5.heap.size, 0, none⟩) b9 ly0_53).trans dy00_53.out, (Below.cell (p := ⟨w5.heap.size, 1, none⟩) b9 ly0_53).trans dy01_53.out, (Below.cell (p := ⟨w.heap.size + 1 + 1, 0, none⟩) b9 lq_53).trans dq0_53.out, (Below.cell (p := ⟨w.heap.size + 1 + 1, 1, none⟩) b9 lq_53).trans dq1_53.out, b9⟩
          | exact ⟨(Below.cell (p := ⟨w4.heap.size, 0, none⟩) b6 lx0_53).trans dx00_53.out, (Below.cell (p := ⟨w4.heap.size, 1, none⟩) b6 lx0_53).trans dx01_53.out, (Below.cell (p := ⟨w5.heap.size, 0, none⟩) b6 ly0_53).trans dy00_53.out, (Below.cell (p := ⟨w5.heap.size, 1, none⟩) b6 ly0_53).trans dy01_53.out, (Below.cell (p := ⟨w.heap.size + 1 + 1, 0, none⟩) b6 lq_53).trans dq0_53.out, (Below.cell (p := ⟨w.heap.size + 1 + 1, 1, none⟩) b6 lq_53).trans dq1_53.out, b6⟩)
        (first
          | (go_at_call 21; go_split_ands; refine (lift2 (W0 := v52) (B := v52.heap.size) (toFork_any fa ft _) (by assumption) (Nat.le_refl _)).mono ?_; rintro e w' ⟨rfl, c6, b6⟩; try (replace r8 := r8.below c6 (Nat.le_refl _)); try (replace r7 := r7.below c6 (Nat.le_refl _)))
          | (go_at_call 42; refine (ibt_none _ _ _ _ _ _ _ ats cs _ _ _ _ _ _ _ ts xss _ (HXs.out.below (by assumption) (Nat.le_refl _)) (HYs.out.below (by assumption) (Nat.le_refl _)) fa ft i HT.out v52 v52.heap.size (by assumption) (Nat.le_refl _)).mono ?_; rintro e w6 ⟨rfl, b9⟩))
      have t_53 := b9.size
      have z_53 : w.heap.size ≤ w6.heap.size := by omega
      have p_54 := p_45.same (same_below b9 (by omega))
      clear p_45
      have t_54 := t_45.same (same_below b9 (by omega))
      clear t_45
      have q_54 := q_45.same (same_below b9 (by omega))
      clear q_45
      have x_54 := x_45.same (same_below b9 (by omega))
      clear x_45
      have x0_54 := x0_45.same (same_below b9 (by omega))
      clear x0_45
      have y_54 := y_45.same (same_below b9 (by omega))
      clear y_45
      have y0_54 := y0_46.same (same_below b9 (by omega))
      clear y0_46
      have B_53 := B_46.trans (b9.mono (by omega))
      clear B_46 b9
      have cp_55 := p_54.cells
      have fp_55 := p_54.free
      have ct_56 := t_54.cells
      have ft_56 := t_54.free
      have cq_57 := q_54.cells
      have fq_57 := q_54.free
      have cx0_58 := x0_54.cells
      have fx0_58 := x0_54.free
      have cy0_59 := y0_54.cells
      have fy0_59 := y0_54.free
      go_wp2_with fail
      refine (eqIntS_same _ _ 0 _ _ [] _ (Rd.none_ _ _) (Rd.none_ _ _) (by omega)).mono ?_
      rintro e w7 ⟨rfl, b⟩
      clear cp_55 fp_55
      clear ct_56 ft_56
      clear cq_57 fq_57
      clear cx0_58 fx0_58
      clear cy0_59 fy0_59
      have t_60 := b.size
      have z_60 : w.heap.size ≤ w7.heap.size := by omega
      have p_61 := p_54.same (same_below b (by omega))
      clear p_54
      have t_61 := t_54.same (same_below b (by omega))
      clear t_54
      have q_61 := q_54.same (same_below b (by omega))
      clear q_54
      have x_61 := x_54.same (same_below b (by omega))
      clear x_54
      have x0_61 := x0_54.same (same_below b (by omega))
      clear x0_54
      have y_61 := y_54.same (same_below b (by omega))
      clear y_54
      have y0_61 := y0_54.same (same_below b (by omega))
      clear y0_54
      have B_60 := B_53.trans (b.mono (by omega))
      clear B_53 b
      have cp_62 := p_61.cells
      have fp_62 := p_61.free
      have ct_63 := t_61.cells
      have ft_63 := t_61.free
      have cq_64 := q_61.cells
      have fq_64 := q_61.free
      have cx0_65 := x0_61.cells
      have fx0_65 := x0_61.free
      have cy0_66 := y0_61.cells
      have fy0_66 := y0_61.free
      go_wp2_with fail
      have lp_67 := p_61.lt
      have dp0_67 : Hid (w7.cell? ⟨w.heap.size, 0, none⟩ = some (.slice A n c)) := p_61.cells 0
      have dp1_67 : Hid (w7.cell? ⟨w.heap.size, 1, none⟩ = some (.slice C m d)) := p_61.cells 1
      have lx0_67 := x0_61.lt
      have dx00_67 : Hid (w7.cell? ⟨w4.heap.size, 0, none⟩ = some (.slice (some ⟨g1, 0, none⟩) n n)) := x0_61.cells 0
      have dx01_67 : Hid (w7.cell? ⟨w4.heap.size, 1, none⟩ = some (.slice (some ⟨g2, 0, none⟩) m m)) := x0_61.cells 1
      clear cp_62 fp_62
      clear ct_63 ft_63
      clear cq_64 fq_64
      clear cx0_65 fx0_65
      clear cy0_66 fy0_66
      have HA_67 := Lib.hid B_60
      go_region_held3 (fun w' => w'.cell? ⟨w.heap.size, 0, none⟩ = some (.slice A n c) ∧ w'.cell? ⟨w.heap.size, 1, none⟩ = some (.slice C m d) ∧ w'.cell? ⟨w4.heap.size, 0, none⟩ = some (.slice (some ⟨g1, 0, none⟩) n n) ∧ w'.cell? ⟨w4.heap.size, 1, none⟩ = some (.slice (some ⟨g2, 0, none⟩) m m) ∧ Below w7.heap.size w7 w')
        (first
          | exact ⟨dp0_67.out, dp1_67.out, dx00_67.out, dx01_67.out, (Below.refl _ _).drew⟩
          | exact ⟨(Below.cell (p := ⟨w.heap.size, 0, none⟩) b9 lp_67).trans dp0_67.out, (Below.cell (p := ⟨w.heap.size, 1, none⟩) b9 lp_67).trans dp1_67.out, (Below.cell (p := ⟨w4.heap.size, 0, none⟩) b9 lx0_67).trans dx00_67.out, (Below.cell (p := ⟨w4.heap.size, 1, none⟩) b9 lx0_67).trans dx01_67.out, b9⟩
          | exact ⟨(Below.cell (p := ⟨w.heap.size, 0, none⟩) b8 lp_67).trans dp0_67.out, (Below.cell (p := ⟨w.heap.size, 1, none⟩) b8 lp_67).trans dp1_67.out, (Below.cell (p := ⟨w4.heap.size, 0, none⟩) b8 lx0_67).trans dx00_67.out, (Below.cell (p := ⟨w4.heap.size, 1, none⟩) b8 lx0_67).trans dx01_67.out, b8⟩)
        (first
          | (go_at_call 15; go_split_ands; refine (to2 A C n c m d hs ats cs _ w7 w7.heap.size (HRS.out.below (HA_67.out.trans (Below.mono (by assumption) HA_67.out.size)) (Nat.le_refl _)) (by omega) (by omega) (by omega) HOk.out HCs.out (by assumption) (Nat.le_refl _)).mono ?_; rintro e w' ⟨⟨ga8, gb8, gs8, rfl, r8, c8⟩, b8⟩)
          | (go_at_call 18; refine (lift (W0 := w7) (B := w7.heap.size) (eqSchema_same _ _ _ _ n _ m _ _ _ _ _ ats cs _ (x_61.rd.below (by assumption) (Nat.le_refl _)) r8.rd (by omega) (by omega) (by omega)) (by assumption) (Nat.le_refl _)).mono ?_; rintro e w8 ⟨rfl, b9⟩))
      have t_67 := b9.size
      have z_67 : w.heap.size ≤ w8.heap.size := by omega
      have p_68 := p_61.same (same_below b9 (by omega))
      clear p_61
      have t_68 := t_61.same (same_below b9 (by omega))
      clear t_61
      have q_68 := q_61.same (same_below b9 (by omega))
      clear q_61
      have x_68 := x_61.same (same_below b9 (by omega))
      clear x_61
      have x0_68 := x0_61.same (same_below b9 (by omega))
      clear x0_61
      have y_68 := y_61.same (same_below b9 (by omega))
      clear y_61
      have y0_68 := y0_61.same (same_below b9 (by omega))
      clear y0_61
      have B_67 := B_60.trans (b9.mono (by omega))
      clear B_60 b9
      have cp_69 := p_68.cells
      have fp_69 := p_68.free
      have ct_70 := t_68.cells
      have ft_70 := t_68.free
      have cq_71 := q_68.cells
      have fq_71 := q_68.free
      have cx0_72 := x0_68.cells
      have fx0_72 := x0_68.free
      have cy0_73 := y0_68.cells
      have fy0_73 := y0_68.free
      go_wp2_with fail
      have lt_74 := t_68.lt
      have dt0_74 : Hid (w8.cell? ⟨w.heap.size + 1, 0, none⟩ = some (.slice T q e0)) := t_68.cells 0
      have dt1_74 : Hid (w8.cell? ⟨w.heap.size + 1, 1, none⟩ = some (.slice X p f0)) := t_68.cells 1
      have ly0_74 := y0_68.lt
      have dy00_74 : Hid (w8.cell? ⟨w5.heap.size, 0, none⟩ = some (.slice (some ⟨g3, 0, none⟩) q q)) := y0_68.cells 0
      have dy01_74 : Hid (w8.cell? ⟨w5.heap.size, 1, none⟩ = some (.slice (some ⟨g4, 0, none⟩) p p)) := y0_68.cells 1
      clear cp_69 fp_69
      clear ct_70 ft_70
      clear cq_71 fq_71
      clear cx0_72 fx0_72
      clear cy0_73 fy0_73
      have HA_74 := Lib.hid B_67
      go_region_held3 (fun w' => w'.cell? ⟨w.heap.size + 1, 0, none⟩ = some (.slice T q e0) ∧ w'.cell? ⟨w.heap.size + 1, 1, none⟩ = some (.slice X p f0) ∧ w'.cell? ⟨w5.heap.size, 0, none⟩ = some (.slice (some ⟨g3, 0, none⟩) q q) ∧ w'.cell? ⟨w5.heap.size, 1, none⟩ = some (.slice (some ⟨g4, 0, none⟩) p p) ∧ Below w8.heap.size w8 w')
        (first
          | exact ⟨dt0_74.out, dt1_74.out, dy00_74.out, dy01_74.out, (Below.refl _ _).drew⟩
          | exact ⟨(Below.cell (p := ⟨w.heap.size + 1, 0, none⟩) b9 lt_74).trans dt0_74.out, (Below.cell (p := ⟨w.heap.size + 1, 1, none⟩) b9 lt_74).trans dt1_74.out, (Below.cell (p := ⟨w5.heap.size, 0, none⟩) b9 ly0_74).trans dy00_74.out, (Below.cell (p := ⟨w5.heap.size, 1, none⟩) b9 ly0_74).trans dy01_74.out, b9⟩
          | exact ⟨(Below.cell (p := ⟨w.heap.size + 1, 0, none⟩) b8 lt_74).trans dt0_74.out, (Below.cell (p := ⟨w.heap.size + 1, 1, none⟩) b8 lt_74).trans dt1_74.out, (Below.cell (p := ⟨w5.heap.size, 0, none⟩) b8 ly0_74).trans dy00_74.out, (Below.cell (p := ⟨w5.heap.size, 1, none⟩) b8 ly0_74).trans dy01_74.out, b8⟩)
        (first
          | (go_at_call 36; go_split_ands; refine (to3 T X q e0 p f0 gs ts xss _ w8 w8.heap.size (HST.out.below (HA_74.out.trans (Below.mono (by assumption) HA_74.out.size)) (Nat.le_refl _)) (by assumption) (Nat.le_refl _)).mono ?_; rintro e w' ⟨⟨ga8, gb8, gs8, rfl, r8, c8⟩, b8⟩)
          | (go_at_call 38; refine (lift (W0 := w8) (B := w8.heap.size) (eqStats_same _ _ _ _ q _ p _ _ _ _ _ ts xss _ ((y_68.sta (by omega) (by omega) (by omega)).below (by assumption) (Nat.le_refl _)) r8) (by assumption) (Nat.le_refl _)).mono ?_; rintro e w9 ⟨rfl, b9⟩))
      have t_74 := b9.size
      have z_74 : w.heap.size ≤ w9.heap.size := by omega
      have p_75 := p_68.same (same_below b9 (by omega))
      clear p_68
      have t_75 := t_68.same (same_below b9 (by omega))
      clear t_68
      have q_75 := q_68.same (same_below b9 (by omega))
      clear q_68
      have x_75 := x_68.same (same_below b9 (by omega))
      clear x_68
      have x0_75 := x0_68.same (same_below b9 (by omega))
      clear x0_68
      have y_75 := y_68.same (same_below b9 (by omega))
      clear y_68
      have y0_75 := y0_68.same (same_below b9 (by omega))
      clear y0_68
      have B_74 := B_67.trans (b9.mono (by omega))
      clear B_67 b9
      have cp_76 := p_75.cells
      have fp_76 := p_75.free
      have ct_77 := t_75.cells
      have ft_77 := t_75.free
      have cq_78 := q_75.cells
      have fq_78 := q_75.free
      have cx0_79 := x0_75.cells
      have fx0_79 := x0_75.free
      have cy0_80 := y0_75.cells
      have fy0_80 := y0_75.free
      go_wp2_with fail
      refine (markSchema_any _ _ _ n _ m _ 1 _ _ _ ats cs _ x_75 (by omega) (by omega) (by omega) (by omega) (by omega)).mono ?_
      rintro e w10 ⟨⟨K1, rfl, hK1⟩, gg⟩
      clear cp_76 fp_76
      clear ct_77 ft_77
      clear cq_78 fq_78
      clear cx0_79 fx0_79
      clear cy0_80 fy0_80
      have t_81 := gg.size
      have z_81 : w.heap.size ≤ w10.heap.size := by omega
      have p_82 := p_75.same (same_only gg (by omega) (by omega))
      clear p_75
      have t_82 := t_75.same (same_only gg (by omega) (by omega))
      clear t_75
      have q_82 := q_75.same (same_only gg (by omega) (by omega))
      clear q_75
      have x0_82 := x0_75.same (same_only gg (by omega) (by omega))
      clear x0_75
      have y_82 := y_75.same (same_only gg (by omega) (by omega))
      clear y_75
      have y0_82 := y0_75.same (same_only gg (by omega) (by omega))
      clear y0_75
      clear x_75
      have B_81 := B_74.trans (gg.below (by omega) (by omega))
      clear B_74 gg
      have cp_83 := p_82.cells
      have fp_83 := p_82.free
      have ct_84 := t_82.cells
      have ft_84 := t_82.free
      have cq_85 := q_82.cells
      have fq_85 := q_82.free
      have cx0_86 := x0_82.cells
      have fx0_86 := x0_82.free
      have cy0_87 := y0_82.cells
      have fy0_87 := y0_82.free
      go_wp2_with fail
      refine (markStats_any _ _ _ q _ p _ K1 _ _ _ ts xss _ y_82 (by omega) (by omega) (by omega) (by omega) (by omega)).mono ?_
      rintro e w11 ⟨⟨K2, rfl, hK2⟩, gg⟩
      clear cp_83 fp_83
      clear ct_84 ft_84
      clear cq_85 fq_85
      clear cy0_87 fy0_87
      have t_88 := gg.size
      have z_88 : w.heap.size ≤ w11.heap.size := by omega
      have p_89 := p_82.same (same_only gg (by omega) (by omega))
      clear p_82
      have t_89 := t_82.same (same_only gg (by omega) (by omega))
      clear t_82
      have q_89 := q_82.same (same_only gg (by omega) (by omega))
      clear q_82
      have y0_89 := y0_82.same (same_only gg (by omega) (by omega))
      clear y0_82
      clear y_82
      have B_88 := B_81.trans (gg.below (by omega) (by omega))
      clear B_81 gg
      have cp_90 := p_89.cells
      have fp_90 := p_89.free
      have ct_91 := t_89.cells
      have ft_91 := t_89.free
      have cq_92 := q_89.cells
      have fq_92 := q_89.free
      have cy0_93 := y0_89.cells
      have fy0_93 := y0_89.free
      go_wp2_with fail
      refine (eqIntS_same _ _ 0 _ _ [] _ (Rd.none_ _ _) (Rd.none_ _ _) (by omega)).mono ?_
      rintro e w12 ⟨rfl, b⟩
      clear cp_90 fp_90
      clear ct_91 ft_91
      clear cq_92 fq_92
      clear cy0_93 fy0_93
      have t_94 := b.size
      have z_94 : w.heap.size ≤ w12.heap.size := by omega
      have p_95 := p_89.same (same_below b (by omega))
      clear p_89
      have t_95 := t_89.same (same_below b (by omega))
      clear t_89
      have q_95 := q_89.same (same_below b (by omega))
      clear q_89
      have y0_95 := y0_89.same (same_below b (by omega))
      clear y0_89
      have B_94 := B_88.trans (b.mono (by omega))
      clear B_88 b
      have cp_96 := p_95.cells
      have fp_96 := p_95.free
      have ct_97 := t_95.cells
      have ft_97 := t_95.free
      have cq_98 := q_95.cells
      have fq_98 := q_95.free
      have cy0_99 := y0_95.cells
      have fy0_99 := y0_95.free
      go_wp2_with fail
      refine (markIntS_nil 1 _ (by omega)).mono ?_
      rintro e w13 ⟨rfl, b⟩
      clear cp_96 fp_96
      clear ct_97 ft_97
      clear cq_98 fq_98
      clear cy0_99 fy0_99
      have t_100 := b.size
      have z_100 : w.heap.size ≤ w13.heap.size := by omega
      have p_101 := p_95.same (same_below b (by omega))
      clear p_95
      have t_101 := t_95.same (same_below b (by omega))
      clear t_95
      have q_101 := q_95.same (same_below b (by omega))
      clear q_95
      have y0_101 := y0_95.same (same_below b (by omega))
      clear y0_95
      have B_100 := B_94.trans (b.mono (by omega))
      clear B_94 b
      have cp_102 := p_101.cells
      have fp_102 := p_101.free
      have ct_103 := t_101.cells
      have ft_103 := t_101.free
      have cq_104 := q_101.cells
      have fq_104 := q_101.free
      have cy0_105 := y0_101.cells
      have fy0_105 := y0_101.free
      go_wp2_with fail
      refine (heldIntS_any _ 0 _ 1 _ (Rd.none_ _ _) (by omega) (by omega)).mono ?_
      rintro e w14 ⟨rfl, rfl⟩
      go_wp2_with fail
      have lp_106 := p_101.lt
      have dp0_106 : Hid (w13.cell? ⟨w.heap.size, 0, none⟩ = some (.slice A n c)) := p_101.cells 0
      have dp1_106 : Hid (w13.cell? ⟨w.heap.size, 1, none⟩ = some (.slice C m d)) := p_101.cells 1
      have lt_106 := t_101.lt
      have dt0_106 : Hid (w13.cell? ⟨w.heap.size + 1, 0, none⟩ = some (.slice T q e0)) := t_101.cells 0
      have dt1_106 : Hid (w13.cell? ⟨w.heap.size + 1, 1, none⟩ = some (.slice X p f0)) := t_101.cells 1
      have lq_106 := q_101.lt
      have dq0_106 : Hid (w13.cell? ⟨w.heap.size + 1 + 1, 0, none⟩ = some (.int .i64 fa)) := q_101.cells 0
      have dq1_106 : Hid (w13.cell? ⟨w.heap.size + 1 + 1, 1, none⟩ = some (.int .i64 ft)) := q_101.cells 1
      clear cp_102 fp_102
      clear ct_103 ft_103
      clear cq_104 fq_104
      clear cy0_105 fy0_105
      have HA_106 := Lib.hid B_100
      go_region_held3 (fun w' => w'.cell? ⟨w.heap.size, 0, none⟩ = some (.slice A n c) ∧ w'.cell? ⟨w.heap.size, 1, none⟩ = some (.slice C m d) ∧ w'.cell? ⟨w.heap.size + 1, 0, none⟩ = some (.slice T q e0) ∧ w'.cell? ⟨w.heap.size + 1, 1, none⟩ = some (.slice X p f0) ∧ w'.cell? ⟨w.heap.size + 1 + 1, 0, none⟩ = some (.int .i64 fa) ∧ w'.cell? ⟨w.heap.size + 1 + 1, 1, none⟩ = some (.int .i64 ft) ∧ Below w13.heap.size w13 w')
        (first
          | exact ⟨dp0_106.out, dp1_106.out, dt0_106.out, dt1_106.out, dq0_106.out, dq1_106.out, (Below.refl _ _).drew⟩
          | exact ⟨(Below.cell (p := ⟨w.heap.size, 0, none⟩) b9 lp_106).trans dp0_106.out, (Below.cell (p := ⟨w.heap.size, 1, none⟩) b9 lp_106).trans dp1_106.out, (Below.cell (p := ⟨w.heap.size + 1, 0, none⟩) b9 lt_106).trans dt0_106.out, (Below.cell (p := ⟨w.heap.size + 1, 1, none⟩) b9 lt_106).trans dt1_106.out, (Below.cell (p := ⟨w.heap.size + 1 + 1, 0, none⟩) b9 lq_106).trans dq0_106.out, (Below.cell (p := ⟨w.heap.size + 1 + 1, 1, none⟩) b9 lq_106).trans dq1_106.out, b9⟩
          | exact ⟨(Below.cell (p := ⟨w.heap.size, 0, none⟩) b8 lp_106).trans dp0_106.out, (Below.cell (p := ⟨w.heap.size, 1, none⟩) b8 lp_106).trans dp1_106.out, (Below.cell (p := ⟨w.heap.size + 1, 0, none⟩) b8 lt_106).trans dt0_106.out, (Below.cell (p := ⟨w.heap.size + 1, 1, none⟩) b8 lt_106).trans dt1_106.out, (Below.cell (p := ⟨w.heap.size + 1 + 1, 0, none⟩) b8 lq_106).trans dq0_106.out, (Below.cell (p := ⟨w.heap.size + 1 + 1, 1, none⟩) b8 lq_106).trans dq1_106.out, b8⟩
          | exact ⟨(Below.cell (p := ⟨w.heap.size, 0, none⟩) b7 lp_106).trans dp0_106.out, (Below.cell (p := ⟨w.heap.size, 1, none⟩) b7 lp_106).trans dp1_106.out, (Below.cell (p := ⟨w.heap.size + 1, 0, none⟩) b7 lt_106).trans dt0_106.out, (Below.cell (p := ⟨w.heap.size + 1, 1, none⟩) b7 lt_106).trans dt1_106.out, (Below.cell (p := ⟨w.heap.size + 1 + 1, 0, none⟩) b7 lq_106).trans dq0_106.out, (Below.cell (p := ⟨w.heap.size + 1 + 1, 1, none⟩) b7 lq_106).trans dq1_106.out, b7⟩
          | exact ⟨(Below.cell (p := ⟨w.heap.size, 0, none⟩) b6 lp_106).trans dp0_106.out, (Below.cell (p := ⟨w.heap.size, 1, none⟩) b6 lp_106).trans dp1_106.out, (Below.cell (p := ⟨w.heap.size + 1, 0, none⟩) b6 lt_106).trans dt0_106.out, (Below.cell (p := ⟨w.heap.size + 1, 1, none⟩) b6 lt_106).trans dt1_106.out, (Below.cell (p := ⟨w.heap.size + 1 + 1, 0, none⟩) b6 lq_106).trans dq0_106.out, (Below.cell (p := ⟨w.heap.size + 1 + 1, 1, none⟩) b6 lq_106).trans dq1_106.out, b6⟩)
        (first
          | (go_at_call 15; go_split_ands; refine (to2 A C n c m d hs ats cs _ w13 w13.heap.size (HRS.out.below (HA_106.out.trans (Below.mono (by assumption) HA_106.out.size)) (Nat.le_refl _)) (by omega) (by omega) (by omega) HOk.out HCs.out (by assumption) (Nat.le_refl _)).mono ?_; rintro e w' ⟨⟨ga8, gb8, gs8, rfl, r8, c8⟩, b8⟩)
          | (go_at_call 36; go_split_ands; refine (to3 T X q e0 p f0 gs ts xss _ w13 w13.heap.size (HST.out.below (HA_106.out.trans (Below.mono (by assumption) HA_106.out.size)) (Nat.le_refl _)) (by assumption) (Nat.le_refl _)).mono ?_; rintro e w' ⟨⟨ga7, gb7, gs7, rfl, r7, c7⟩, b7⟩; try (replace r8 := r8.below c7 (Nat.le_refl _)))
          | (go_at_call 21; go_split_ands; refine (lift2 (W0 := w13) (B := w13.heap.size) (toFork_any fa ft _) (by assumption) (Nat.le_refl _)).mono ?_; rintro e w' ⟨rfl, c6, b6⟩; try (replace r8 := r8.below c6 (Nat.le_refl _)); try (replace r7 := r7.below c6 (Nat.le_refl _)))
          | (go_at_call 42; refine (ibt_none _ _ _ _ _ _ _ ats cs _ _ _ _ _ _ _ ts xss _ r8 r7 fa ft i HT.out w13 w13.heap.size (by assumption) (Nat.le_refl _)).mono ?_; rintro e w14 ⟨rfl, b9⟩))
      have t_106 := b9.size
      have z_106 : w.heap.size ≤ w14.heap.size := by omega
      have p_107 := p_101.same (same_below b9 (by omega))
      clear p_101
      have t_107 := t_101.same (same_below b9 (by omega))
      clear t_101
      have q_107 := q_101.same (same_below b9 (by omega))
      clear q_101
      have y0_107 := y0_101.same (same_below b9 (by omega))
      clear y0_101
      have B_106 := B_100.trans (b9.mono (by omega))
      clear B_100 b9
      have cp_108 := p_107.cells
      have fp_108 := p_107.free
      have ct_109 := t_107.cells
      have ft_109 := t_107.free
      have cq_110 := q_107.cells
      have fq_110 := q_107.free
      have cy0_111 := y0_107.cells
      have fy0_111 := y0_107.free
      go_wp2_with fail
      refine (eqIntS_same _ _ 0 _ _ [] _ (Rd.none_ _ _) (Rd.none_ _ _) (by omega)).mono ?_
      rintro e w15 ⟨rfl, b⟩
      clear cp_108 fp_108
      clear ct_109 ft_109
      clear cq_110 fq_110
      clear cy0_111 fy0_111
      have t_112 := b.size
      have z_112 : w.heap.size ≤ w15.heap.size := by omega
      have p_113 := p_107.same (same_below b (by omega))
      clear p_107
      have t_113 := t_107.same (same_below b (by omega))
      clear t_107
      have q_113 := q_107.same (same_below b (by omega))
      clear q_107
      have y0_113 := y0_107.same (same_below b (by omega))
      clear y0_107
      have B_112 := B_106.trans (b.mono (by omega))
      clear B_106 b
      have cp_114 := p_113.cells
      have fp_114 := p_113.free
      have ct_115 := t_113.cells
      have ft_115 := t_113.free
      have cq_116 := q_113.cells
      have fq_116 := q_113.free
      have cy0_117 := y0_113.cells
      have fy0_117 := y0_113.free
      go_wp2_with fail
      refine (heldIntS_any _ 0 _ 1 _ (Rd.none_ _ _) (by omega) (by omega)).mono ?_
      rintro e w16 ⟨rfl, rfl⟩
      go_wp2_with fail
      go_ret
      exact ⟨rfl, B_112⟩
    · have HZT := Lib.hid (szI_no (left := (1048576 - ((n : Int) + (asTot ats : Int) + ((m : Int) + (bytesOf cs : Int))))) (n := ((q : Int) + ((p : Int) + (tot (iss xss) : Int)))) (by omega))
      have B0 := Below.refl w.heap.size w
      have s0 : w.heap.size ≤ w.heap.size := Nat.le_refl _
      go_enter Try.func10, Try.ntmps10
      have p_2 : Bx (w.alloc (.cells #[.slice A n c, .slice C m d] 25)) (w.heap.size) 25 #[.slice A n c, .slice C m d] := Bx.new _ _ _
      have B_2 := B0.alloc s0 (.cells #[.slice A n c, .slice C m d] 25)
      clear B0
      have cp_3 := p_2.cells
      have fp_3 := p_2.free
      clear cp_3 fp_3
      have p_4 := p_2.same (same_alloc (.cells #[.slice T q e0, .slice X p f0] 55) (by simp only [World.size_alloc]; omega))
      clear p_2
      have t_5 : Bx ((w.alloc (.cells #[.slice A n c, .slice C m d] 25)).alloc (.cells #[.slice T q e0, .slice X p f0] 55)) (w.heap.size + 1) 55 #[.slice T q e0, .slice X p f0] := by
        have h := Bx.new (w.alloc (.cells #[.slice A n c, .slice C m d] 25)) 55 #[.slice T q e0, .slice X p f0]
        simpa only [World.size_alloc] using h
      have B_5 := B_2.alloc (by simp only [World.size_alloc]; omega) (.cells #[.slice T q e0, .slice X p f0] 55)
      clear B_2
      have cp_6 := p_4.cells
      have fp_6 := p_4.free
      have ct_7 := t_5.cells
      have ft_7 := t_5.free
      clear cp_6 fp_6
      clear ct_7 ft_7
      have p_8 := p_4.same (same_alloc (.cells #[.int .i64 fa, .int .i64 ft] 38) (by simp only [World.size_alloc]; omega))
      clear p_4
      have t_8 := t_5.same (same_alloc (.cells #[.int .i64 fa, .int .i64 ft] 38) (by simp only [World.size_alloc]; omega))
      clear t_5
      have q_9 : Bx (((w.alloc (.cells #[.slice A n c, .slice C m d] 25)).alloc (.cells #[.slice T q e0, .slice X p f0] 55)).alloc (.cells #[.int .i64 fa, .int .i64 ft] 38)) (w.heap.size + 1 + 1) 38 #[.int .i64 fa, .int .i64 ft] := by
        have h := Bx.new ((w.alloc (.cells #[.slice A n c, .slice C m d] 25)).alloc (.cells #[.slice T q e0, .slice X p f0] 55)) 38 #[.int .i64 fa, .int .i64 ft]
        simpa only [World.size_alloc] using h
      have B_9 := B_5.alloc (by simp only [World.size_alloc]; omega) (.cells #[.int .i64 fa, .int .i64 ft] 38)
      clear B_5
      have cp_10 := p_8.cells
      have fp_10 := p_8.free
      have ct_11 := t_8.cells
      have ft_11 := t_8.free
      have cq_12 := q_9.cells
      have fq_12 := q_9.free
      go_wp2_with fail
      refine (szSchema_any A C n c m d hs ats cs 1048576 _ (HRS.out.below B_9 (Nat.le_refl _)).at_ (HRS.out.below B_9 (Nat.le_refl _)).cl HOk.out HHs.out HCs.out (by omega) (by omega) (by omega) (by omega)).mono ?_
      rw [HZ.out]
      rintro e w1 ⟨rfl, b⟩
      clear cp_10 fp_10
      clear ct_11 ft_11
      clear cq_12 fq_12
      simp only [World.size_alloc] at b
      have t_13 := b.size
      simp only [World.size_alloc] at t_13
      have z_13 : w.heap.size ≤ w1.heap.size := by omega
      have p_14 := p_8.same (same_below b (by omega))
      clear p_8
      have t_14 := t_8.same (same_below b (by omega))
      clear t_8
      have q_14 := q_9.same (same_below b (by omega))
      clear q_9
      have B_13 := B_9.trans (b.mono (by omega))
      clear B_9 b
      have cp_15 := p_14.cells
      have fp_15 := p_14.free
      have ct_16 := t_14.cells
      have ft_16 := t_14.free
      have cq_17 := q_14.cells
      have fq_17 := q_14.free
      go_wp2_with fail
      refine (szStats_any T X q e0 p f0 gs xss (1048576 - ((n : Int) + (asTot ats : Int) + ((m : Int) + (bytesOf cs : Int)))) _ (HRX.out.below B_13 (Nat.le_refl _)) HBX.out (by omega) (by omega) (by omega) (by omega)).mono ?_
      rw [HZT.out]
      rintro e w2 ⟨rfl, b⟩
      clear cp_15 fp_15
      clear ct_16 ft_16
      clear cq_17 fq_17
      have t_18 := b.size
      have z_18 : w.heap.size ≤ w2.heap.size := by omega
      have p_19 := p_14.same (same_below b (by omega))
      clear p_14
      have t_19 := t_14.same (same_below b (by omega))
      clear t_14
      have q_19 := q_14.same (same_below b (by omega))
      clear q_14
      have B_18 := B_13.trans (b.mono (by omega))
      clear B_13 b
      have cp_20 := p_19.cells
      have fp_20 := p_19.free
      have ct_21 := t_19.cells
      have ft_21 := t_19.free
      have cq_22 := q_19.cells
      have fq_22 := q_19.free
      go_wp2_with fail
      go_ret
      exact ⟨rfl, B_18⟩
  · have HZ := Lib.hid (szI_no (left := 1048576) (n := ((n : Int) + (asTot ats : Int) + ((m : Int) + (bytesOf cs : Int)))) (by omega))
    have B0 := Below.refl w.heap.size w
    have s0 : w.heap.size ≤ w.heap.size := Nat.le_refl _
    go_enter Try.func10, Try.ntmps10
    have p_2 : Bx (w.alloc (.cells #[.slice A n c, .slice C m d] 25)) (w.heap.size) 25 #[.slice A n c, .slice C m d] := Bx.new _ _ _
    have B_2 := B0.alloc s0 (.cells #[.slice A n c, .slice C m d] 25)
    clear B0
    have cp_3 := p_2.cells
    have fp_3 := p_2.free
    clear cp_3 fp_3
    have p_4 := p_2.same (same_alloc (.cells #[.slice T q e0, .slice X p f0] 55) (by simp only [World.size_alloc]; omega))
    clear p_2
    have t_5 : Bx ((w.alloc (.cells #[.slice A n c, .slice C m d] 25)).alloc (.cells #[.slice T q e0, .slice X p f0] 55)) (w.heap.size + 1) 55 #[.slice T q e0, .slice X p f0] := by
      have h := Bx.new (w.alloc (.cells #[.slice A n c, .slice C m d] 25)) 55 #[.slice T q e0, .slice X p f0]
      simpa only [World.size_alloc] using h
    have B_5 := B_2.alloc (by simp only [World.size_alloc]; omega) (.cells #[.slice T q e0, .slice X p f0] 55)
    clear B_2
    have cp_6 := p_4.cells
    have fp_6 := p_4.free
    have ct_7 := t_5.cells
    have ft_7 := t_5.free
    clear cp_6 fp_6
    clear ct_7 ft_7
    have p_8 := p_4.same (same_alloc (.cells #[.int .i64 fa, .int .i64 ft] 38) (by simp only [World.size_alloc]; omega))
    clear p_4
    have t_8 := t_5.same (same_alloc (.cells #[.int .i64 fa, .int .i64 ft] 38) (by simp only [World.size_alloc]; omega))
    clear t_5
    have q_9 : Bx (((w.alloc (.cells #[.slice A n c, .slice C m d] 25)).alloc (.cells #[.slice T q e0, .slice X p f0] 55)).alloc (.cells #[.int .i64 fa, .int .i64 ft] 38)) (w.heap.size + 1 + 1) 38 #[.int .i64 fa, .int .i64 ft] := by
      have h := Bx.new ((w.alloc (.cells #[.slice A n c, .slice C m d] 25)).alloc (.cells #[.slice T q e0, .slice X p f0] 55)) 38 #[.int .i64 fa, .int .i64 ft]
      simpa only [World.size_alloc] using h
    have B_9 := B_5.alloc (by simp only [World.size_alloc]; omega) (.cells #[.int .i64 fa, .int .i64 ft] 38)
    clear B_5
    have cp_10 := p_8.cells
    have fp_10 := p_8.free
    have ct_11 := t_8.cells
    have ft_11 := t_8.free
    have cq_12 := q_9.cells
    have fq_12 := q_9.free
    go_wp2_with fail
    refine (szSchema_any A C n c m d hs ats cs 1048576 _ (HRS.out.below B_9 (Nat.le_refl _)).at_ (HRS.out.below B_9 (Nat.le_refl _)).cl HOk.out HHs.out HCs.out (by omega) (by omega) (by omega) (by omega)).mono ?_
    rw [HZ.out]
    rintro e w1 ⟨rfl, b⟩
    clear cp_10 fp_10
    clear ct_11 ft_11
    clear cq_12 fq_12
    simp only [World.size_alloc] at b
    have t_13 := b.size
    simp only [World.size_alloc] at t_13
    have z_13 : w.heap.size ≤ w1.heap.size := by omega
    have p_14 := p_8.same (same_below b (by omega))
    clear p_8
    have t_14 := t_8.same (same_below b (by omega))
    clear t_8
    have q_14 := q_9.same (same_below b (by omega))
    clear q_9
    have B_13 := B_9.trans (b.mono (by omega))
    clear B_9 b
    have cp_15 := p_14.cells
    have fp_15 := p_14.free
    have ct_16 := t_14.cells
    have ft_16 := t_14.free
    have cq_17 := q_14.cells
    have fq_17 := q_14.free
    go_wp2_with fail
    go_ret
    exact ⟨rfl, B_13⟩

theorem walk (w : World) (A : Option Addr) (n c : Nat) (hs : List AH) (ats : List AD) (C : Option Addr) (m d : Nat) (cs : List ByteArray) (T : Option Addr) (q e0 : Nat) (ts : List Int) (X : Option Addr) (p f0 : Nat) (gs : List Hd) (xss : List (List Int)) (fa ft i : Int) (hl : n ≤ c) (hm : c ≤ maxLen) (hr : RdAS w A n hs ats) (hg : ∀ h ∈ hs, AHw h) (hx : ∀ a ∈ ats, ADw a) (hl2 : m ≤ d) (hm2 : d ≤ maxLen) (hr2 : Rd w C m (cs.map Value.string)) (hw2 : ∀ s ∈ cs, s.size ≤ maxLen) (hlt : q ≤ e0) (hmt : e0 ≤ maxLen) (hrt : Rd w T q (ts.map (Value.int .i64))) (hwt : ∀ z ∈ ts, (Lit.int .i64 z).wf = true) (hlx : p ≤ f0) (hmx : f0 ≤ maxLen) (hrx : RdSS w X p gs (iss xss)) (hbx : ∀ x ∈ gs, x.2.1 ≤ x.2.2 ∧ x.2.2 ≤ maxLen) (hwx : ∀ xs ∈ xss, ∀ z ∈ xs, (Lit.int .i64 z).wf = true) (_ : (Lit.int .i64 fa).wf = true) (_ : (Lit.int .i64 ft).wf = true) (_ : (Lit.int .i64 i).wf = true) :
    Calls Try.prog 10 #[.agg #[.slice A n c, .slice C m d], .agg #[.slice T q e0, .slice X p f0], .agg #[.int .i64 fa, .int .i64 ft], .int .i64 i] w fun e w' => e = .returned (.bool true) ∧ Below w.heap.size w w' := by
  cases hT : btB ats cs ts xss fa ft i
  · exact walk_no w A n c hs ats C m d cs T q e0 ts X p f0 gs xss fa ft i hl hm hr hg hx hl2 hm2 hr2 hw2 hlt hmt hrt hwt hlx hmx hrx hbx hwx (by assumption) (by assumption) (by assumption) (Lib.hid hT)
  · exact walk_yes w A n c hs ats C m d cs T q e0 ts X p f0 gs xss fa ft i hl hm hr hg hx hl2 hm2 hr2 hw2 hlt hmt hrt hwt hlx hmx hrx hbx hwx (by assumption) (by assumption) (by assumption) (Lib.hid hT)

set_option maxRecDepth 100000 in
theorem walks : Walks 10 Try.f10 := by
  intro H enc W base args ds ps hval hA _
  rw [Try.params10] at hA hval
  obtain ⟨v0, vs0, d0, ds0, p0, q0, hargs, rfl, rfl, h0, r0⟩ := trodAll_cons hA
  obtain ⟨v1, vs1, d1, ds1, p1, q1, rfl, rfl, rfl, h1, r1⟩ := trodAll_cons r0
  obtain ⟨v2, vs2, d2, ds2, p2, q2, rfl, rfl, rfl, h2, r2⟩ := trodAll_cons r1
  obtain ⟨v3, vs3, d3, ds3, p3, q3, rfl, rfl, rfl, h3, r3⟩ := trodAll_cons r2
  obtain ⟨rfl, rfl, rfl⟩ := trodAll_nil r3
  obtain rfl : args = #[v0, v1, v2, v3] := by cases args; simp_all
  obtain ⟨cs0, rfl, hl0, nn0, hf0⟩ := open_agg Try.underlying25 (by kernel_rfl) (by kernel_rfl) (hval 0 25 v0 rfl rfl) h0
  obtain ⟨c0_0, _, e0_0, y0_0⟩ := hf0 0 _ rfl
  obtain ⟨c0_1, _, e0_1, y0_1⟩ := hf0 1 _ rfl
  obtain ⟨a0_0, a0_1, rfl⟩ : ∃ a0_0 a0_1, cs0 = [a0_0, a0_1] := by
    match cs0, hl0 with
    | [a0, a1], _ => exact ⟨a0, a1, rfl⟩
  simp only [List.getElem?_cons_zero, List.getElem?_cons_succ, Option.some.injEq] at e0_0 e0_1
  subst e0_0 e0_1
  obtain ⟨A0_0, n0_0, c0_0, g0_0, x0_0, rfl, hl0_0, hm0_0, hr0_0, hg0_0, hx0_0⟩ := open_attrs (ts := 23) (ss := 23) Try.underlying22 Try.underlying105 (by kernel_rfl) (by kernel_rfl) Try.underlying9 Try.underlying26 Try.underlying3 (by kernel_rfl) Try.underlying23 Try.underlying9 (by kernel_rfl) y0_0
  obtain ⟨A0_1, n0_1, c0_1, x0_1, rfl, hl0_1, hm0_1, hr0_1, w0_1⟩ := open_strings_rd Try.underlying23 (by kernel_rfl) Try.underlying9 y0_1
  obtain ⟨cs1, rfl, hl1, nn1, hf1⟩ := open_agg Try.underlying55 (by kernel_rfl) (by kernel_rfl) (hval 1 55 v1 rfl rfl) h1
  obtain ⟨c1_0, _, e1_0, y1_0⟩ := hf1 0 _ rfl
  obtain ⟨c1_1, _, e1_1, y1_1⟩ := hf1 1 _ rfl
  obtain ⟨a1_0, a1_1, rfl⟩ : ∃ a1_0 a1_1, cs1 = [a1_0, a1_1] := by
    match cs1, hl1 with
    | [a0, a1], _ => exact ⟨a0, a1, rfl⟩
  simp only [List.getElem?_cons_zero, List.getElem?_cons_succ, Option.some.injEq] at e1_0 e1_1
  subst e1_0 e1_1
  obtain ⟨A1_0, n1_0, c1_0, x1_0, rfl, hl1_0, hm1_0, hr1_0, w1_0⟩ := open_ints_rd Try.underlying26 (by kernel_rfl) Try.underlying3 y1_0
  obtain ⟨A1_1, n1_1, c1_1, g1_1, x1_1, rfl, hl1_1, hm1_1, hr1_1, hb1_1, w1_1⟩ := open_rows Try.underlying53 (by kernel_rfl) Try.underlying26 (by kernel_rfl) Try.underlying3 y1_1
  obtain ⟨cs2, rfl, hl2, nn2, hf2⟩ := open_agg Try.underlying38 (by kernel_rfl) (by kernel_rfl) (hval 2 38 v2 rfl rfl) h2
  obtain ⟨c2_0, _, e2_0, y2_0⟩ := hf2 0 _ rfl
  obtain ⟨c2_1, _, e2_1, y2_1⟩ := hf2 1 _ rfl
  obtain ⟨a2_0, a2_1, rfl⟩ : ∃ a2_0 a2_1, cs2 = [a2_0, a2_1] := by
    match cs2, hl2 with
    | [a0, a1], _ => exact ⟨a0, a1, rfl⟩
  simp only [List.getElem?_cons_zero, List.getElem?_cons_succ, Option.some.injEq] at e2_0 e2_1
  subst e2_0 e2_1
  obtain ⟨x2_0, rfl, w2_0⟩ := field_int Try.underlying3 y2_0
  obtain ⟨x2_1, rfl, w2_1⟩ := field_int Try.underlying3 y2_1
  obtain ⟨a3, rfl, rfl, rfl, w3⟩ := open_int Try.underlying3 (hval 3 3 v3 rfl rfl) h3
  exact walk (w := W) A0_0 n0_0 c0_0 g0_0 x0_0 A0_1 n0_1 c0_1 x0_1 A1_0 n1_0 c1_0 x1_0 A1_1 n1_1 c1_1 g1_1 x1_1 x2_0 x2_1 a3 hl0_0 hm0_0 hr0_0 hg0_0 hx0_0 hl0_1 hm0_1 hr0_1 w0_1 hl1_0 hm1_0 hr1_0 w1_0 hl1_1 hm1_1 hr1_1 hb1_1 w1_1 w2_0 w2_1 w3

set_option maxRecDepth 100000 in
theorem lifted (os : Os) (started : os.Started) (H : Type) (enc : TypeId × Value → H) :
    ReturnsInHanded {} Try.checked os 10 .any (Rows.fnExactBranchTotalsSpec.pre6 enc Try.prog Try.f10 Rows.fnExactBranchTotalsRow.domain false) (Rows.fnExactBranchTotalsSpec.post enc Try.prog Try.f10 false true false false) :=
  law_lifted started (by kernel_rfl) Try.func10
    (ChangeSpec.witness6 (enc := enc) (C := Try.checked) false ⟨#[], #[.agg #[.slice none 0 0, .slice none 0 0], .agg #[.slice none 0 0, .slice none 0 0], .agg #[.int .i64 0, .int .i64 0], .int .i64 0], []⟩ 8 (by kernel_rfl) (by kernel_rfl) (by kernel_rfl) (by kernel_rfl))
    rfl rfl Try.underlying4 (fun ds h => match ds, h with | [_, _, _, _], _ => rfl) (by
      rw [Try.params10]
      intro t ht
      simp only [List.mem_cons, List.not_mem_nil, or_false] at ht
      rcases ht with rfl | rfl | rfl | rfl <;> exact ⟨by kernel_rfl, of_decide_eq_true (by kernel_rfl)⟩) walks

theorem over : Rows.fnExactBranchTotalsRow.holds Try.pinned (OpenSpec.ofChange Rows.fnExactBranchTotalsSpec) :=
  OpenClaim.holds_of_wide 10 Try.f10 rfl rfl rfl rfl rfl rfl rfl ⟨rfl, rfl, rfl, rfl, rfl⟩ rfl rfl rfl rfl rfl (by kernel_rfl) Try.func10 (by kernel_rfl)
    (of_decide_eq_true (by kernel_rfl)) (by unfold Func.isWrapper; first | (rw [if_pos (by decide +kernel)]; kernel_rfl) | (rw [if_neg (by decide +kernel)]; exact ⟨rfl, rfl⟩))
    (fun os started H enc _ => lifted os started H enc)

theorem proved : Rows.FnExactBranchTotalsSaid := over
#print axioms proved

end LawBranchTotals
end Go.Proofs.Ytgkefkbpdbokbaa
