/-
  Proved: laws.FnExactStatsAdd returns true for every schema, stats, example and weight. Conditions: none.
-/
import Derived.Test.YtchkmcikpamdeaaStAddI
import Derived.Test.YtchkmcikpamdeaaStAddS
import Derived.Test.YtchkmcikpamdeaaExW
import Derived.Test.YtchkmcikpamdeaaOpenSch
import Derived.Test.YtchkmcikpamdeaaOpenSS
import Derived.Test.YtchkmcikpamdeaaObj
import Derived.Deep.DeepCutAuto
namespace Go.Proofs.Ytchkmcikpamdeaa
open Go.ChangeShapes Go.WideShapes Go.ChangeAt Go.RowKit Go.Deep
namespace LawStatsAdd
set_option linter.unusedSimpArgs false
set_option linter.unusedVariables false

/-- toSchema, read from an earlier world on: what it returns reads as the schema. -/
theorem to2 (A C : Option Addr) (n c m d : Nat) (hs : List AH) (ats : List AD) (cs : List ByteArray) (w W0 : World) (B : Nat) (r : RdSch w A C n m hs ats cs) (hn : n ≤ 1048576) (hb : asTot ats ≤ 1048576) (hm : m ≤ 1048576) (ok : ∀ a ∈ ats, ADok a) (cok : ∀ s ∈ cs, s.size ≤ 9223372036854775807) (hB : Below B W0 w) (hs' : B ≤ W0.heap.size) :
    Calls Try.prog 13 #[.agg #[.slice A n c, .slice C m d]] w fun e w' => (∃ g1 g2 gs, e = .returned (.agg #[.slice (some ⟨g1, 0, none⟩) n n, .slice (some ⟨g2, 0, none⟩) m m]) ∧ Sch w' (some ⟨g1, 0, none⟩) (some ⟨g2, 0, none⟩) n m m gs ats cs ∧ Below w.heap.size w w') ∧ Below B W0 w' :=
  lift ((toSchema_any A C n c m d hs ats cs w r hn hb hm).mono fun _ _ ⟨g1, g2, mid, gs, h1, h2, h3⟩ => ⟨⟨g1, g2, gs, h1, h2.sch hn hb hm ok cok, h3⟩, h3⟩) hB hs'

/-- toStats, read from an earlier world on: what it returns reads as the totals and cells. -/
theorem to3 (A C : Option Addr) (n c m d : Nat) (gs : List Hd) (ts : List Int) (xss : List (List Int)) (w W0 : World) (B : Nat) (r : Sta w A C n m gs ts xss) (hB : Below B W0 w) (hs' : B ≤ W0.heap.size) :
    Calls Try.prog 14 #[.agg #[.slice A n c, .slice C m d]] w fun e w' => (∃ g1 g2 hs, e = .returned (.agg #[.slice (some ⟨g1, 0, none⟩) n n, .slice (some ⟨g2, 0, none⟩) m m]) ∧ Sta w' (some ⟨g1, 0, none⟩) (some ⟨g2, 0, none⟩) n m hs ts xss ∧ Below w.heap.size w w') ∧ Below B W0 w' :=
  lift ((toStats_any A C n c m d gs ts xss w r).mono fun _ _ ⟨g1, g2, mid, hs, h1, h2, h3⟩ => ⟨⟨g1, g2, hs, h1, h2.sta r.hq r.hp r.hb, h3⟩, h3⟩) hB hs'

theorem lift2 {P : Program} {F : FuncId} {args : Array Value} {w W0 : World} {B : Nat} {R : Ending → World → Prop} (h : Calls P F args w fun e w' => R e w' ∧ Below w.heap.size w w') (hB : Below B W0 w) (hs : B ≤ W0.heap.size) :
    Calls P F args w fun e w' => R e w' ∧ Below w.heap.size w w' ∧ Below B W0 w' :=
  h.mono fun _ _ ⟨h1, h2⟩ => ⟨h1, h2, hB.trans (h2.mono (Nat.le_trans hs hB.size))⟩

/-- A box of the region's own, laid behind the first k blocks. -/
structure Lain (k : Nat) (w : World) (b : Nat) (t : TypeId) (cs : Array Value) : Prop where
  le : k ≤ b
  bx : Bx w b t cs
theorem Lain.next {k b : Nat} {w w' : World} {t : TypeId} {cs : Array Value} (x : Lain k w b t cs) (c : Below w.heap.size w w') : Lain k w' b t cs := ⟨x.1, x.2.same (same_below c (Nat.succ_le_of_lt x.2.lt))⟩
theorem Lain.first {v w' : World} {t : TypeId} {cs : Array Value} (c : Below (v.alloc (.cells cs t)).drew.heap.size (v.alloc (.cells cs t)).drew w') : Lain v.heap.size w' v.heap.size t cs :=
  ⟨Nat.le_refl _, ((Bx.new v t cs).same (w' := (v.alloc (.cells cs t)).drew) (fun _ _ _ => rfl)).same (same_below c (by show v.heap.size + 1 ≤ (v.alloc (.cells cs t)).heap.size; simp only [World.size_alloc, Nat.le_refl]))⟩
theorem Lain.mid {B : Nat} {v0 v w' : World} {t : TypeId} {cs : Array Value} (h : Below B v0 v) (c : Below (v.alloc (.cells cs t)).heap.size (v.alloc (.cells cs t)) w') : Lain v0.heap.size w' v.heap.size t cs :=
  ⟨h.size, (Bx.new v t cs).same (same_below c (by simp only [World.size_alloc, Nat.le_refl]))⟩

theorem to4 (A : Option Addr) (n c : Nat) (xs : List Int) (cl : Int) (w W0 : World) (B : Nat) (h : Rd w A n (xs.map (Value.int .i64))) (hn : n ≤ 1073741824) (hB : Below B W0 w) (hs' : B ≤ W0.heap.size) :
    Calls Try.prog 15 #[.agg #[.slice A n c, .int .i64 cl]] w fun e w' => (∃ g, e = .returned (.agg #[.slice (some ⟨g, 0, none⟩) n n, .int .i64 cl]) ∧ Rd w' (some ⟨g, 0, none⟩) n (xs.map (Value.int .i64)) ∧ Below w.heap.size w w') ∧ Below B W0 w' :=
  lift ((toEx_any A n c xs cl w h hn).mono fun _ _ ⟨g, h1, h2, h3⟩ => ⟨⟨g, h1, h2.rd, h3⟩, h3⟩) hB hs'
theorem totI_set2 (ys : List Int) : ∀ (xss : List (List Int)) (r : Nat), ys.length = (xss.getD r []).length → totI (xss.set r ys) = totI xss
  | [], r, _ => by simp
  | xs :: t, 0, h => by simp only [List.set_cons_zero, totI, List.map_cons, List.sum_cons, List.getD_cons_zero] at h ⊢; omega
  | xs :: t, r + 1, h => by
    have ih := totI_set2 ys t r (by simpa using h)
    simp only [List.set_cons_succ, totI, List.map_cons, List.sum_cons] at ih ⊢; omega
theorem addRow_len (m : Nat) (cl u : Int) (xs : List Int) (b : Int) : (addRow m cl u xs b).length = xs.length := by
  unfold addRow addAt; split
  · rw [List.length_set]
  · rfl
theorem addK_tot (m : Nat) (cl u : Int) (bs : List Int) (xss : List (List Int)) : ∀ k, totI (addK m cl u bs xss k) = totI xss
  | 0 => rfl
  | k + 1 => by
    rw [show addK m cl u bs xss (k + 1) = (addK m cl u bs xss k).set k (addRow m cl u (xss.getD k []) (bs.getD k 0)) from rfl, totI_set2, addK_tot m cl u bs xss k]
    rw [addRow_len]; simp only [List.getD, addK_get k (Nat.le_refl _)]
theorem addX_tot (ats : List AD) (cs : List ByteArray) (ts : List Int) (xss : List (List Int)) (bs : List Int) (cl u : Int) : totI (addX ats cs ts xss bs cl u) = totI xss ∧ (addX ats cs ts xss bs cl u).length = xss.length := by
  unfold addX; split
  · exact ⟨addK_tot _ _ _ _ _ _, addK_len _⟩
  · exact ⟨rfl, rfl⟩
theorem sta_wide {lo hi lo' hi' : Nat} {w : World} {A C : Option Addr} {n c m d mid : Nat} {gs : List Hd} {ts : List Int} {xss : List (List Int)} (h : OwSta lo hi w A C n c m d mid gs ts xss) (h1 : lo' ≤ lo) (h2 : hi ≤ hi') : OwSta lo' hi' w A C n c m d mid gs ts xss :=
  ⟨h.tot.wide h1 (Nat.le_refl _), h.cel.wide (Nat.le_refl _) h2, ⟨Nat.le_trans h1 h.le.1, Nat.le_trans h.le.2 h2⟩⟩
theorem sta_pre {lo k B : Nat} {a b : Value} {w : World} {A C : Option Addr} {n c m d mid : Nat} {gs : List Hd} {ts : List Int} {xss : List (List Int)} (h : OwSta lo w.heap.size w A C n c m d mid gs ts xss) (hk : k ≤ lo) (hB : B < lo) :
    OwSta k ((w.setCell ⟨B, 0, none⟩ a).setCell ⟨B, 1, none⟩ b).heap.size ((w.setCell ⟨B, 0, none⟩ a).setCell ⟨B, 1, none⟩ b) A C n c m d mid gs ts xss :=
  sta_wide ((h.same (same_set (.inl hB))).same (same_set (.inl hB))) hk (by simp only [World.size_setCell]; exact Nat.le_refl _)
theorem sta_at {lo k : Nat} {o : Obj} {w : World} {A C : Option Addr} {n c m d mid : Nat} {gs : List Hd} {ts : List Int} {xss : List (List Int)} (h : OwSta lo w.heap.size w A C n c m d mid gs ts xss) (hk : k ≤ lo) :
    OwSta k (w.alloc o).heap.size (w.alloc o) A C n c m d mid gs ts xss :=
  sta_wide (h.same (same_alloc o (Nat.le_refl _))) hk (by rw [World.size_alloc]; exact Nat.le_succ _)

theorem sadd2 (A C : Option Addr) (n c m d : Nat) (hs : List AH) (ats : List AD) (cs : List ByteArray) (T X : Option Addr) (q e0 p f0 : Nat) (gs : List Hd) (ts : List Int) (xss : List (List Int)) (E : Option Addr) (r0n e1 : Nat) (bs : List Int) (cl u : Int) (w : World) (r : Sch w A C n m d hs ats cs) (s : Sta w T X q p gs ts xss) (x : Rd w E r0n (bs.map (Value.int .i64))) (hr0 : r0n ≤ 1048576) (z : Bool) (ts2 : List Int) (xss2 : List (List Int)) (hz : addStB ats cs ts xss bs cl u = z) (ht : addT ats cs ts xss bs cl u = ts2) (hx : addX ats cs ts xss bs cl u = xss2) :
    Calls Try.prog 12 #[.agg #[.slice A n c, .slice C m d], .agg #[.slice T q e0, .slice X p f0], .agg #[.slice E r0n e1, .int .i64 cl], .int .i64 u] w fun e w' => ∃ A' c' C' d' mid hs', e = .returned (.tuple #[.agg #[.slice A' q c', .slice C' p d'], .bool z]) ∧ OwSta w.heap.size w'.heap.size w' A' C' q c' p d' mid hs' ts2 xss2 ∧ Below w.heap.size w w' := by
  subst hz ht hx
  exact sStatsAdd_any A C n c m d hs ats cs T X q e0 p f0 gs ts xss E r0n e1 bs cl u w r s x hr0
theorem sadd_from (A C : Option Addr) (n c m d : Nat) (hs : List AH) (ats : List AD) (cs : List ByteArray) (T X : Option Addr) (q e0 p f0 : Nat) (gs : List Hd) (ts : List Int) (xss : List (List Int)) (E : Option Addr) (r0n e1 : Nat) (bs : List Int) (cl u : Int) (w : World) (r : Sch w A C n m d hs ats cs) (s : Sta w T X q p gs ts xss) (x : Rd w E r0n (bs.map (Value.int .i64))) (hr0 : r0n ≤ 1048576) (z : Bool) (ts2 : List Int) (xss2 : List (List Int)) (hz : addStB ats cs ts xss bs cl u = z) (ht : addT ats cs ts xss bs cl u = ts2) (hx : addX ats cs ts xss bs cl u = xss2) (W0 : World) (B : Nat) (hB : Below B W0 w) (hs' : B ≤ W0.heap.size) :
    Calls Try.prog 12 #[.agg #[.slice A n c, .slice C m d], .agg #[.slice T q e0, .slice X p f0], .agg #[.slice E r0n e1, .int .i64 cl], .int .i64 u] w fun e w' => (∃ lo A' c' C' d' mid hs', e = .returned (.tuple #[.agg #[.slice A' q c', .slice C' p d'], .bool z]) ∧ lo = w.heap.size ∧ OwSta lo w'.heap.size w' A' C' q c' p d' mid hs' ts2 xss2 ∧ Below w.heap.size w w') ∧ Below B W0 w' :=
  lift ((sadd2 A C n c m d hs ats cs T X q e0 p f0 gs ts xss E r0n e1 bs cl u w r s x hr0 z ts2 xss2 hz ht hx).mono fun _ _ ⟨A', c', C', d', mid, hs', h1, h2, h3⟩ => ⟨⟨w.heap.size, A', c', C', d', mid, hs', h1, rfl, h2, h3⟩, h3⟩) hB hs'

theorem iadd2 (A C : Option Addr) (n c m d : Nat) (hs : List AH) (ats : List AD) (cs : List ByteArray) (T X : Option Addr) (q e0 p f0 : Nat) (gs : List Hd) (ts : List Int) (xss : List (List Int)) (E : Option Addr) (r0n e1 : Nat) (bs : List Int) (cl u : Int) (w : World) (r : Sch w A C n m d hs ats cs) (s : Sta w T X q p gs ts xss) (x : Rd w E r0n (bs.map (Value.int .i64))) (hr0 : r0n ≤ 1048576) (z : Bool) (ts2 : List Int) (xss2 : List (List Int)) (hz : addStB ats cs ts xss bs cl u = z) (ht : addT ats cs ts xss bs cl u = ts2) (hx : addX ats cs ts xss bs cl u = xss2) :
    Calls Try.prog 16 #[.agg #[.slice A n c, .slice C m d], .agg #[.slice T q e0, .slice X p f0], .agg #[.slice E r0n e1, .int .i64 cl], .int .i64 u] w fun e w' => ∃ A' c' C' d' mid hs', e = .returned (.tuple #[.agg #[.slice A' q c', .slice C' p d'], .bool z]) ∧ OwSta w.heap.size w'.heap.size w' A' C' q c' p d' mid hs' ts2 xss2 ∧ Below w.heap.size w w' := by
  subst hz ht hx
  exact iStatsAdd_any A C n c m d hs ats cs T X q e0 p f0 gs ts xss E r0n e1 bs cl u w r s x hr0
theorem iadd_from (A C : Option Addr) (n c m d : Nat) (hs : List AH) (ats : List AD) (cs : List ByteArray) (T X : Option Addr) (q e0 p f0 : Nat) (gs : List Hd) (ts : List Int) (xss : List (List Int)) (E : Option Addr) (r0n e1 : Nat) (bs : List Int) (cl u : Int) (w : World) (r : Sch w A C n m d hs ats cs) (s : Sta w T X q p gs ts xss) (x : Rd w E r0n (bs.map (Value.int .i64))) (hr0 : r0n ≤ 1048576) (z : Bool) (ts2 : List Int) (xss2 : List (List Int)) (hz : addStB ats cs ts xss bs cl u = z) (ht : addT ats cs ts xss bs cl u = ts2) (hx : addX ats cs ts xss bs cl u = xss2) (W0 : World) (B : Nat) (hB : Below B W0 w) (hs' : B ≤ W0.heap.size) :
    Calls Try.prog 16 #[.agg #[.slice A n c, .slice C m d], .agg #[.slice T q e0, .slice X p f0], .agg #[.slice E r0n e1, .int .i64 cl], .int .i64 u] w fun e w' => (∃ lo A' c' C' d' mid hs', e = .returned (.tuple #[.agg #[.slice A' q c', .slice C' p d'], .bool z]) ∧ lo = w.heap.size ∧ OwSta lo w'.heap.size w' A' C' q c' p d' mid hs' ts2 xss2 ∧ Below w.heap.size w w') ∧ Below B W0 w' :=
  lift ((iadd2 A C n c m d hs ats cs T X q e0 p f0 gs ts xss E r0n e1 bs cl u w r s x hr0 z ts2 xss2 hz ht hx).mono fun _ _ ⟨A', c', C', d', mid, hs', h1, h2, h3⟩ => ⟨⟨w.heap.size, A', c', C', d', mid, hs', h1, rfl, h2, h3⟩, h3⟩) hB hs'

set_option maxRecDepth 20000 in
set_option maxHeartbeats 16000000 in
theorem walk (w : World) (A : Option Addr) (n c : Nat) (hs : List AH) (ats : List AD) (C : Option Addr) (m d : Nat) (cs : List ByteArray) (T : Option Addr) (q e0 : Nat) (ts : List Int) (X : Option Addr) (p f0 : Nat) (gs : List Hd) (xss : List (List Int)) (E : Option Addr) (r0n e1 : Nat) (bs : List Int) (cl u : Int) (hl : n ≤ c) (hm : c ≤ maxLen) (hr : RdAS w A n hs ats) (hg : ∀ h ∈ hs, AHw h) (hx : ∀ a ∈ ats, ADw a) (hl2 : m ≤ d) (hm2 : d ≤ maxLen) (hr2 : Rd w C m (cs.map Value.string)) (hw2 : ∀ s ∈ cs, s.size ≤ maxLen) (hlt : q ≤ e0) (hmt : e0 ≤ maxLen) (hrt : Rd w T q (ts.map (Value.int .i64))) (hwt : ∀ z ∈ ts, (Lit.int .i64 z).wf = true) (hlx : p ≤ f0) (hmx : f0 ≤ maxLen) (hrx : RdSS w X p gs (iss xss)) (hbx : ∀ x ∈ gs, x.2.1 ≤ x.2.2 ∧ x.2.2 ≤ maxLen) (hwx : ∀ xs ∈ xss, ∀ z ∈ xs, (Lit.int .i64 z).wf = true) (hle : r0n ≤ e1) (hme : e1 ≤ maxLen) (hre : Rd w E r0n (bs.map (Value.int .i64))) (_ : ∀ z ∈ bs, (Lit.int .i64 z).wf = true) (_ : (Lit.int .i64 cl).wf = true) (_ : (Lit.int .i64 u).wf = true) :
    Calls Try.prog 3 #[.agg #[.slice A n c, .slice C m d], .agg #[.slice T q e0, .slice X p f0], .agg #[.slice E r0n e1, .int .i64 cl], .int .i64 u] w fun e w' => e = .returned (.bool true) ∧ Below w.heap.size w w' := by
  unfold maxLen at hm hm2 hmt hmx
  have HRS : Hid (RdSch w A C n m hs ats cs) := ⟨hr, hr2⟩
  have HOk : Hid (∀ a ∈ ats, ADok a) := fun a ha => ⟨by have := (hx a ha).1; unfold maxLen at this; omega, fun s hs => by have := (hx a ha).2.2 s hs; unfold maxLen at this; omega⟩
  have HHs : Hid (∀ h ∈ hs, AHok h) := fun h hh => ⟨by have := (hg h hh).1; unfold maxLen at this; omega, by have := (hg h hh).2; unfold maxLen at this; omega⟩
  have HCs : Hid (∀ s ∈ cs, s.size ≤ 9223372036854775807) := fun s hs => by have := hw2 s hs; unfold maxLen at this; omega
  have HRX := Lib.hid hrx; have HRT := Lib.hid hrt
  have HBX : Hid (∀ x ∈ gs, x.2.1 ≤ 9223372036854775807) := fun x hx => by have := hbx x hx; unfold maxLen at this; omega
  have HTI := Lib.hid (tot_iss xss)
  clear hr hr2 hg hx hw2 hrt hwt hrx hbx hwx
  unfold maxLen at hme
  have HRE := Lib.hid hre
  obtain ⟨z, hz⟩ : ∃ z, addStB ats cs ts xss bs cl u = z := ⟨_, rfl⟩
  obtain ⟨ts2, hy⟩ : ∃ y, addT ats cs ts xss bs cl u = y := ⟨_, rfl⟩
  obtain ⟨xss2, hy2⟩ : ∃ y, addX ats cs ts xss bs cl u = y := ⟨_, rfl⟩
  have htl := addX_tot ats cs ts xss bs cl u
  rw [hy2] at htl
  have hxl := HRX.out.len
  rw [iss_len] at hxl
  have HLM : Hid ((iss xss2).length = p) := by unfold Hid; rw [iss_len, htl.2]; exact hxl
  have HTY := Lib.hid (tot_iss xss2)
  have HTX := Lib.hid htl.1
  have HD := Lib.hid hz; have HT2 := Lib.hid hy; have HX2 := Lib.hid hy2
  clear hz hy hy2 htl hxl hre
  by_cases hn : ((n : Int) + (asTot ats : Int) + ((m : Int) + (bytesOf cs : Int))) ≤ 1048576
  · have HZ := Lib.hid (szI_yes hn)
    by_cases hnt : ((q : Int) + ((p : Int) + (tot (iss xss) : Int))) ≤ (1048576 - ((n : Int) + (asTot ats : Int) + ((m : Int) + (bytesOf cs : Int))))
    · have HZT := Lib.hid (szI_yes hnt)
      have htot : totI xss = tot (iss xss) := HTI.out.symm
      have HST : Hid (Sta w T X q p gs ts xss) := ⟨HRT.out, HRX.out, by omega, by omega, by omega⟩
      have hty : totI xss2 = tot (iss xss2) := HTY.out.symm
      have htx : totI xss2 = totI xss := HTX.out
      have B0 := Below.refl w.heap.size w
      have s0 : w.heap.size ≤ w.heap.size := Nat.le_refl _
      go_enter Try.func3, Try.ntmps3
      have p_2 : Bx (w.alloc (.cells #[.slice A n c, .slice C m d] 25)) (w.heap.size) 25 #[.slice A n c, .slice C m d] := Bx.new _ _ _
      have B_2 := B0.alloc s0 (.cells #[.slice A n c, .slice C m d] 25)
      clear B0
      have cp_3 := p_2.cells
      have fp_3 := p_2.free
      clear cp_3 fp_3
      have p_4 := p_2.same (same_alloc (.cells #[.slice T q e0, .slice X p f0] 29) (by simp only [World.size_alloc]; omega))
      clear p_2
      have t_5 : Bx ((w.alloc (.cells #[.slice A n c, .slice C m d] 25)).alloc (.cells #[.slice T q e0, .slice X p f0] 29)) (w.heap.size + 1) 29 #[.slice T q e0, .slice X p f0] := by
        have h := Bx.new (w.alloc (.cells #[.slice A n c, .slice C m d] 25)) 29 #[.slice T q e0, .slice X p f0]
        simpa only [World.size_alloc] using h
      have B_5 := B_2.alloc (by simp only [World.size_alloc]; omega) (.cells #[.slice T q e0, .slice X p f0] 29)
      clear B_2
      have cp_6 := p_4.cells
      have fp_6 := p_4.free
      have ct_7 := t_5.cells
      have ft_7 := t_5.free
      clear cp_6 fp_6
      clear ct_7 ft_7
      have p_8 := p_4.same (same_alloc (.cells #[.slice E r0n e1, .int .i64 cl] 31) (by simp only [World.size_alloc]; omega))
      clear p_4
      have t_8 := t_5.same (same_alloc (.cells #[.slice E r0n e1, .int .i64 cl] 31) (by simp only [World.size_alloc]; omega))
      clear t_5
      have x_9 : Bx (((w.alloc (.cells #[.slice A n c, .slice C m d] 25)).alloc (.cells #[.slice T q e0, .slice X p f0] 29)).alloc (.cells #[.slice E r0n e1, .int .i64 cl] 31)) (w.heap.size + 1 + 1) 31 #[.slice E r0n e1, .int .i64 cl] := by
        have h := Bx.new ((w.alloc (.cells #[.slice A n c, .slice C m d] 25)).alloc (.cells #[.slice T q e0, .slice X p f0] 29)) 31 #[.slice E r0n e1, .int .i64 cl]
        simpa only [World.size_alloc] using h
      have B_9 := B_5.alloc (by simp only [World.size_alloc]; omega) (.cells #[.slice E r0n e1, .int .i64 cl] 31)
      clear B_5
      have cp_10 := p_8.cells
      have fp_10 := p_8.free
      have ct_11 := t_8.cells
      have ft_11 := t_8.free
      have cx_12 := x_9.cells
      have fx_12 := x_9.free
      go_wp2_with fail
      refine (szSchema_any A C n c m d hs ats cs 1048576 _ (HRS.out.below B_9 (Nat.le_refl _)).at_ (HRS.out.below B_9 (Nat.le_refl _)).cl HOk.out HHs.out HCs.out (by omega) (by omega) (by omega) (by omega)).mono ?_
      rw [HZ.out]
      rintro e w1 ⟨rfl, b⟩
      clear cp_10 fp_10
      clear ct_11 ft_11
      clear cx_12 fx_12
      simp only [World.size_alloc] at b
      have t_13 := b.size
      simp only [World.size_alloc] at t_13
      have z_13 : w.heap.size ≤ w1.heap.size := by omega
      have p_14 := p_8.same (same_below b (by omega))
      clear p_8
      have t_14 := t_8.same (same_below b (by omega))
      clear t_8
      have x_14 := x_9.same (same_below b (by omega))
      clear x_9
      have B_13 := B_9.trans (b.mono (by omega))
      clear B_9 b
      have cp_15 := p_14.cells
      have fp_15 := p_14.free
      have ct_16 := t_14.cells
      have ft_16 := t_14.free
      have cx_17 := x_14.cells
      have fx_17 := x_14.free
      go_wp2_with fail
      refine (szStats_any T X q e0 p f0 gs xss (1048576 - ((n : Int) + (asTot ats : Int) + ((m : Int) + (bytesOf cs : Int)))) _ (HRX.out.below B_13 (Nat.le_refl _)) HBX.out (by omega) (by omega) (by omega) (by omega)).mono ?_
      rw [HZT.out]
      rintro e w2 ⟨rfl, b⟩
      clear cp_15 fp_15
      clear ct_16 ft_16
      clear cx_17 fx_17
      have t_18 := b.size
      have z_18 : w.heap.size ≤ w2.heap.size := by omega
      have p_19 := p_14.same (same_below b (by omega))
      clear p_14
      have t_19 := t_14.same (same_below b (by omega))
      clear t_14
      have x_19 := x_14.same (same_below b (by omega))
      clear x_14
      have B_18 := B_13.trans (b.mono (by omega))
      clear B_13 b
      have cp_20 := p_19.cells
      have fp_20 := p_19.free
      have ct_21 := t_19.cells
      have ft_21 := t_19.free
      have cx_22 := x_19.cells
      have fx_22 := x_19.free
      by_cases hne : (r0n : Int) ≤ ((1048576 - ((n : Int) + (asTot ats : Int) + ((m : Int) + (bytesOf cs : Int)))) - ((q : Int) + ((p : Int) + (tot (iss xss) : Int))))
      case neg =>
        have HZE := Lib.hid (szI_no (left := ((1048576 - ((n : Int) + (asTot ats : Int) + ((m : Int) + (bytesOf cs : Int)))) - ((q : Int) + ((p : Int) + (tot (iss xss) : Int))))) (n := (r0n : Int)) (by omega))
        go_wp2_with fail
        refine (szEx_any E r0n e1 cl ((1048576 - ((n : Int) + (asTot ats : Int) + ((m : Int) + (bytesOf cs : Int)))) - ((q : Int) + ((p : Int) + (tot (iss xss) : Int)))) _ (by omega) (by omega) (by omega)).mono ?_
        rw [HZE.out]
        rintro e w3 ⟨rfl, b⟩
        clear cp_20 fp_20
        clear ct_21 ft_21
        clear cx_22 fx_22
        have t_23 := b.size
        have z_23 : w.heap.size ≤ w3.heap.size := by omega
        have p_24 := p_19.same (same_below b (by omega))
        clear p_19
        have t_24 := t_19.same (same_below b (by omega))
        clear t_19
        have x_24 := x_19.same (same_below b (by omega))
        clear x_19
        have B_23 := B_18.trans (b.mono (by omega))
        clear B_18 b
        have cp_25 := p_24.cells
        have fp_25 := p_24.free
        have ct_26 := t_24.cells
        have ft_26 := t_24.free
        have cx_27 := x_24.cells
        have fx_27 := x_24.free
        go_wp2_with fail
        go_ret
        exact ⟨rfl, B_23⟩
      have HZE := Lib.hid (szI_yes hne)
      go_wp2_with fail
      refine (szEx_any E r0n e1 cl ((1048576 - ((n : Int) + (asTot ats : Int) + ((m : Int) + (bytesOf cs : Int)))) - ((q : Int) + ((p : Int) + (tot (iss xss) : Int)))) _ (by omega) (by omega) (by omega)).mono ?_
      rw [HZE.out]
      rintro e w3 ⟨rfl, b⟩
      clear cp_20 fp_20
      clear ct_21 ft_21
      clear cx_22 fx_22
      have t_23 := b.size
      have z_23 : w.heap.size ≤ w3.heap.size := by omega
      have p_24 := p_19.same (same_below b (by omega))
      clear p_19
      have t_24 := t_19.same (same_below b (by omega))
      clear t_19
      have x_24 := x_19.same (same_below b (by omega))
      clear x_19
      have B_23 := B_18.trans (b.mono (by omega))
      clear B_18 b
      have cp_25 := p_24.cells
      have fp_25 := p_24.free
      have ct_26 := t_24.cells
      have ft_26 := t_24.free
      have cx_27 := x_24.cells
      have fx_27 := x_24.free
      go_upto_region 11 with fail
      have lp_28 := p_24.lt
      have dp0_28 : Hid (w3.cell? ⟨w.heap.size, 0, none⟩ = some (.slice A n c)) := p_24.cells 0
      have dp1_28 : Hid (w3.cell? ⟨w.heap.size, 1, none⟩ = some (.slice C m d)) := p_24.cells 1
      have lt_28 := t_24.lt
      have dt0_28 : Hid (w3.cell? ⟨w.heap.size + 1, 0, none⟩ = some (.slice T q e0)) := t_24.cells 0
      have dt1_28 : Hid (w3.cell? ⟨w.heap.size + 1, 1, none⟩ = some (.slice X p f0)) := t_24.cells 1
      have lx_28 := x_24.lt
      have dx0_28 : Hid (w3.cell? ⟨w.heap.size + 1 + 1, 0, none⟩ = some (.slice E r0n e1)) := x_24.cells 0
      have dx1_28 : Hid (w3.cell? ⟨w.heap.size + 1 + 1, 1, none⟩ = some (.int .i64 cl)) := x_24.cells 1
      clear cp_25 fp_25
      clear ct_26 ft_26
      clear cx_27 fx_27
      have HK_28 : Hid (∀ w' : World, Below w3.heap.size w3 w' → w'.cell? ⟨w.heap.size, 0, none⟩ = some (.slice A n c) ∧ w'.cell? ⟨w.heap.size, 1, none⟩ = some (.slice C m d) ∧ w'.cell? ⟨w.heap.size + 1, 0, none⟩ = some (.slice T q e0) ∧ w'.cell? ⟨w.heap.size + 1, 1, none⟩ = some (.slice X p f0) ∧ w'.cell? ⟨w.heap.size + 1 + 1, 0, none⟩ = some (.slice E r0n e1) ∧ w'.cell? ⟨w.heap.size + 1 + 1, 1, none⟩ = some (.int .i64 cl) ∧ Below w3.heap.size w3 w') := fun w' hb => ⟨(Below.cell (p := ⟨w.heap.size, 0, none⟩) hb lp_28).trans dp0_28.out, (Below.cell (p := ⟨w.heap.size, 1, none⟩) hb lp_28).trans dp1_28.out, (Below.cell (p := ⟨w.heap.size + 1, 0, none⟩) hb lt_28).trans dt0_28.out, (Below.cell (p := ⟨w.heap.size + 1, 1, none⟩) hb lt_28).trans dt1_28.out, (Below.cell (p := ⟨w.heap.size + 1 + 1, 0, none⟩) hb lx_28).trans dx0_28.out, (Below.cell (p := ⟨w.heap.size + 1 + 1, 1, none⟩) hb lx_28).trans dx1_28.out, hb⟩
      have HA_28 := Lib.hid B_23
      have lo_28 := B_23.size
      go_cut [10, 11] (fun s8 s9 wx => ∃ (B : Nat) (A2 : Option Addr) (c2 : Nat) (C2 : Option Addr) (d2 mid : Nat) (g2 : List Hd), s8 = .pointer (some ⟨B, 0, none⟩) ∧ s9 = .bool z ∧ w3.heap.size ≤ B ∧ OwSta w3.heap.size wx.heap.size wx A2 C2 q c2 p d2 mid g2 ts2 xss2 ∧ Bx wx B 35 #[.slice A2 q c2, .slice C2 p d2] ∧ Below w3.heap.size w3 wx)
      case first =>
        go_region_held3 (fun w' => w'.cell? ⟨w.heap.size, 0, none⟩ = some (.slice A n c) ∧ w'.cell? ⟨w.heap.size, 1, none⟩ = some (.slice C m d) ∧ w'.cell? ⟨w.heap.size + 1, 0, none⟩ = some (.slice T q e0) ∧ w'.cell? ⟨w.heap.size + 1, 1, none⟩ = some (.slice X p f0) ∧ w'.cell? ⟨w.heap.size + 1 + 1, 0, none⟩ = some (.slice E r0n e1) ∧ w'.cell? ⟨w.heap.size + 1 + 1, 1, none⟩ = some (.int .i64 cl) ∧ Below w3.heap.size w3 w') ((refine HK_28.out _ ?_; first | exact (Below.refl _ _).drew | assumption | exact Below.alloc (Below.refl _ _).drew (Nat.le_refl _) _ | exact ((Below.refl _ _).alloc (Nat.le_refl _) _).drew | exact Below.alloc (by assumption) (Below.size (by assumption)) _ | exact (Below.setCell (p := ⟨_, 1, none⟩) (Below.setCell (p := ⟨_, 0, none⟩) (by assumption) (by first | exact x0.1 | (show _ ≤ _; omega)) _) (by first | exact x0.1 | (show _ ≤ _; omega)) _) | go_grown))
          (first
            | (go_at_call 13; go_split_ands; refine (to2 A C n c m d hs ats cs _ w3 w3.heap.size (HRS.out.below (HA_28.out.trans (Below.mono (by assumption) HA_28.out.size)) (Nat.le_refl _)) (by omega) (by omega) (by omega) HOk.out HCs.out (by assumption) (Nat.le_refl _)).mono ?_; rintro e w' ⟨⟨ga8, gb8, gs8, rfl, r8, c8⟩, b8⟩; (first | (replace x0 := x0.next c8) | (have x0 := Lain.first c8) | (have x0 := Lain.mid (v0 := w3) (by assumption) c8) | skip))
            | (go_at_call 14; go_split_ands; refine (to3 T X q e0 p f0 gs ts xss _ w3 w3.heap.size (HST.out.below (HA_28.out.trans (Below.mono (by assumption) HA_28.out.size)) (Nat.le_refl _)) (by assumption) (Nat.le_refl _)).mono ?_; rintro e w' ⟨⟨ga7, gb7, gs7, rfl, r7, c7⟩, b7⟩; (try (first | (replace r8 := r8.below c7 (Nat.le_refl _)) | (replace r8 := (r8.below (below_alloc1 _) (Nat.le_refl _)).below c7 (Nat.le_refl _)))); (first | (replace x0 := x0.next c7) | (have x0 := Lain.first c7) | (have x0 := Lain.mid (v0 := w3) (by assumption) c7) | skip))
            | (go_at_call 15; go_split_ands; refine (to4 E r0n e1 bs cl _ w3 w3.heap.size (HRE.out.below (HA_28.out.trans (Below.mono (by assumption) HA_28.out.size)) (Nat.le_refl _)) (by omega) (by assumption) (Nat.le_refl _)).mono ?_; rintro e w' ⟨⟨ga6, rfl, r6, c6⟩, b6⟩; (try (first | (replace r8 := r8.below c6 (Nat.le_refl _)) | (replace r8 := (r8.below (below_alloc1 _) (Nat.le_refl _)).below c6 (Nat.le_refl _)))); (try (first | (replace r7 := r7.below c6 (Nat.le_refl _)) | (replace r7 := (r7.below (below_alloc1 _) (Nat.le_refl _)).below c6 (Nat.le_refl _)))); (first | (replace x0 := x0.next c6) | (have x0 := Lain.first c6) | (have x0 := Lain.mid (v0 := w3) (by assumption) c6) | skip))
            | (go_at_call 12; go_split_ands; (first | (refine (sadd_from _ _ _ _ _ _ _ ats cs _ _ _ _ _ _ _ ts xss _ _ _ bs cl u _ r8 r7 r6 (by omega) z ts2 xss2 HD.out HT2.out HX2.out w3 w3.heap.size (by assumption) (Nat.le_refl _)).mono ?_) | (refine (sadd_from _ _ _ _ _ _ _ ats cs _ _ _ _ _ _ _ ts xss _ _ _ bs cl u _ (r8.below (below_alloc1 _) (Nat.le_refl _)) (r7.below (below_alloc1 _) (Nat.le_refl _)) (r6.below (below_alloc1 _) (Nat.le_refl _)) (by omega) z ts2 xss2 HD.out HT2.out HX2.out w3 w3.heap.size (by assumption) (Nat.le_refl _)).mono ?_)); rintro e wl ⟨⟨lo, A2, c2, C2, d2, mid, g2, rfl, hlo, o9, c9⟩, b9⟩; have hkl : w3.heap.size ≤ lo := (by rw [hlo]; first | exact b6.size | (have h6 := b6.size; simp only [World.size_alloc, World.size_drew]; omega)); (try (have hbl := x0.2.lt)); (try (simp only [World.size_alloc, World.size_drew] at hlo)); (first | (replace x0 := x0.next c9) | (have x0 := Lain.first c9) | (have x0 := Lain.mid (v0 := w3) (by assumption) c9) | skip); (try (have xc0 := x0.2.cells 0; have xf0 := x0.2.free 0; have xc1 := x0.2.cells 1; have xf1 := x0.2.free 1; simp at xc0 xc1))))
        all_goals (go_wp2_with fail; go_meet)
        all_goals (refine ⟨_, A2, c2, C2, d2, mid, g2, rfl, rfl, ?_, ?_, ?_, ?_⟩)
        all_goals (first | exact x0.1 | exact Below.size (by assumption) | exact Bx.new _ _ _ | exact ((x0.2.set_ 0 _).set_ 1 _) | exact sta_at o9 hkl | exact sta_pre o9 hkl (by omega) | assumption | exact Below.alloc (by assumption) (Below.size (by assumption)) _ | exact (Below.setCell (p := ⟨_, 1, none⟩) (Below.setCell (p := ⟨_, 0, none⟩) (by assumption) (by first | exact x0.1 | (show _ ≤ _; omega)) _) (by first | exact x0.1 | (show _ ≤ _; omega)) _) | omega | (go_grown; done))
      obtain ⟨Bw0, Awr, cwr, Cwr, dwr, midwr, gswr, rfl, rfl, hBw0, howr, hxw0, b_28⟩ := hcut
      have lx_28 := hxw0.lt
      obtain ⟨w4, rfl⟩ : ∃ w4 : World, w4 = wc := ⟨_, rfl⟩
      have t_28 := b_28.size
      have z_28 : w.heap.size ≤ w4.heap.size := by omega
      have p_29 := p_24.same (same_below b_28 (by omega))
      clear p_24
      have t_29 := t_24.same (same_below b_28 (by omega))
      clear t_24
      have x_29 := x_24.same (same_below b_28 (by omega))
      clear x_24
      have B_28 := B_23.trans (b_28.mono (by omega))
      clear B_23 b_28
      have cp_30 := p_29.cells
      have fp_30 := p_29.free
      have ct_31 := t_29.cells
      have ft_31 := t_29.free
      have cx_32 := x_29.cells
      have fx_32 := x_29.free
      have cw0_33 := hxw0.cells
      have fw0_33 := hxw0.free
      go_wp2_with fail
      refine (toSchema_any A C n c m d hs ats cs _ (HRS.out.below B_28 (Nat.le_refl _)) (by omega) (by omega) (by omega)).mono ?_
      rintro e w5 ⟨g1, g2, midsx, gssx, rfl, o, b⟩
      clear cp_30 fp_30
      clear ct_31 ft_31
      clear cx_32 fx_32
      clear cw0_33 fw0_33
      have t_34 := b.size
      have z_34 : w.heap.size ≤ w5.heap.size := by omega
      have p_35 := p_29.same (same_below b (by omega))
      clear p_29
      have t_35 := t_29.same (same_below b (by omega))
      clear t_29
      have x_35 := x_29.same (same_below b (by omega))
      clear x_29
      have wr_35 := howr.same (same_below b (by omega))
      clear howr
      have w0_35 := hxw0.same (same_below b (by omega))
      clear hxw0
      have B_34 := B_28.trans (b.mono (by omega))
      clear B_28 b
      have sx_34 := o
      clear o
      have cp_36 := p_35.cells
      have fp_36 := p_35.free
      have ct_37 := t_35.cells
      have ft_37 := t_35.free
      have cx_38 := x_35.cells
      have fx_38 := x_35.free
      have cw0_39 := w0_35.cells
      have fw0_39 := w0_35.free
      clear cp_36 fp_36
      clear ct_37 ft_37
      clear cx_38 fx_38
      clear cw0_39 fw0_39
      have p_40 := p_35.same (same_alloc (.cells #[.slice (some ⟨g1, 0, none⟩) n n, .slice (some ⟨g2, 0, none⟩) m m] 40) (by omega))
      clear p_35
      have t_40 := t_35.same (same_alloc (.cells #[.slice (some ⟨g1, 0, none⟩) n n, .slice (some ⟨g2, 0, none⟩) m m] 40) (by omega))
      clear t_35
      have x_40 := x_35.same (same_alloc (.cells #[.slice (some ⟨g1, 0, none⟩) n n, .slice (some ⟨g2, 0, none⟩) m m] 40) (by omega))
      clear x_35
      have wr_40 := wr_35.same (same_alloc (.cells #[.slice (some ⟨g1, 0, none⟩) n n, .slice (some ⟨g2, 0, none⟩) m m] 40) (by omega))
      clear wr_35
      have w0_40 := w0_35.same (same_alloc (.cells #[.slice (some ⟨g1, 0, none⟩) n n, .slice (some ⟨g2, 0, none⟩) m m] 40) (by omega))
      clear w0_35
      have sx_40 := sx_34.same (same_alloc (.cells #[.slice (some ⟨g1, 0, none⟩) n n, .slice (some ⟨g2, 0, none⟩) m m] 40) (by omega))
      clear sx_34
      have x0_41 : Bx (w5.alloc (.cells #[.slice (some ⟨g1, 0, none⟩) n n, .slice (some ⟨g2, 0, none⟩) m m] 40)) (w5.heap.size) 40 #[.slice (some ⟨g1, 0, none⟩) n n, .slice (some ⟨g2, 0, none⟩) m m] := Bx.new _ _ _
      have B_41 := B_34.alloc z_34 (.cells #[.slice (some ⟨g1, 0, none⟩) n n, .slice (some ⟨g2, 0, none⟩) m m] 40)
      clear B_34
      have cp_42 := p_40.cells
      have fp_42 := p_40.free
      have ct_43 := t_40.cells
      have ft_43 := t_40.free
      have cx_44 := x_40.cells
      have fx_44 := x_40.free
      have cw0_45 := w0_40.cells
      have fw0_45 := w0_40.free
      have cx0_46 := x0_41.cells
      have fx0_46 := x0_41.free
      go_wp2_with fail
      refine (toStats_any T X q e0 p f0 gs ts xss _ (HST.out.below B_41 (Nat.le_refl _))).mono ?_
      rintro e w6 ⟨g3, g4, midty, gsty, rfl, o, b⟩
      clear cp_42 fp_42
      clear ct_43 ft_43
      clear cx_44 fx_44
      clear cw0_45 fw0_45
      clear cx0_46 fx0_46
      simp only [World.size_alloc] at b o
      have t_47 := b.size
      simp only [World.size_alloc] at t_47
      have z_47 : w.heap.size ≤ w6.heap.size := by omega
      have p_48 := p_40.same (same_below b (by omega))
      clear p_40
      have t_48 := t_40.same (same_below b (by omega))
      clear t_40
      have x_48 := x_40.same (same_below b (by omega))
      clear x_40
      have wr_48 := wr_40.same (same_below b (by omega))
      clear wr_40
      have w0_48 := w0_40.same (same_below b (by omega))
      clear w0_40
      have sx_48 := sx_40.same (same_below b (by omega))
      clear sx_40
      have x0_48 := x0_41.same (same_below b (by omega))
      clear x0_41
      have B_47 := B_41.trans (b.mono (by omega))
      clear B_41 b
      have ty_47 := o
      clear o
      have cp_49 := p_48.cells
      have fp_49 := p_48.free
      have ct_50 := t_48.cells
      have ft_50 := t_48.free
      have cx_51 := x_48.cells
      have fx_51 := x_48.free
      have cw0_52 := w0_48.cells
      have fw0_52 := w0_48.free
      have cx0_53 := x0_48.cells
      have fx0_53 := x0_48.free
      clear cp_49 fp_49
      clear ct_50 ft_50
      clear cx_51 fx_51
      clear cw0_52 fw0_52
      clear cx0_53 fx0_53
      have p_54 := p_48.same (same_alloc (.cells #[.slice (some ⟨g3, 0, none⟩) q q, .slice (some ⟨g4, 0, none⟩) p p] 35) (by omega))
      clear p_48
      have t_54 := t_48.same (same_alloc (.cells #[.slice (some ⟨g3, 0, none⟩) q q, .slice (some ⟨g4, 0, none⟩) p p] 35) (by omega))
      clear t_48
      have x_54 := x_48.same (same_alloc (.cells #[.slice (some ⟨g3, 0, none⟩) q q, .slice (some ⟨g4, 0, none⟩) p p] 35) (by omega))
      clear x_48
      have wr_54 := wr_48.same (same_alloc (.cells #[.slice (some ⟨g3, 0, none⟩) q q, .slice (some ⟨g4, 0, none⟩) p p] 35) (by omega))
      clear wr_48
      have w0_54 := w0_48.same (same_alloc (.cells #[.slice (some ⟨g3, 0, none⟩) q q, .slice (some ⟨g4, 0, none⟩) p p] 35) (by omega))
      clear w0_48
      have sx_54 := sx_48.same (same_alloc (.cells #[.slice (some ⟨g3, 0, none⟩) q q, .slice (some ⟨g4, 0, none⟩) p p] 35) (by omega))
      clear sx_48
      have x0_54 := x0_48.same (same_alloc (.cells #[.slice (some ⟨g3, 0, none⟩) q q, .slice (some ⟨g4, 0, none⟩) p p] 35) (by omega))
      clear x0_48
      have ty_54 := ty_47.same (same_alloc (.cells #[.slice (some ⟨g3, 0, none⟩) q q, .slice (some ⟨g4, 0, none⟩) p p] 35) (by omega))
      clear ty_47
      have y0_55 : Bx (w6.alloc (.cells #[.slice (some ⟨g3, 0, none⟩) q q, .slice (some ⟨g4, 0, none⟩) p p] 35)) (w6.heap.size) 35 #[.slice (some ⟨g3, 0, none⟩) q q, .slice (some ⟨g4, 0, none⟩) p p] := Bx.new _ _ _
      have B_55 := B_47.alloc z_47 (.cells #[.slice (some ⟨g3, 0, none⟩) q q, .slice (some ⟨g4, 0, none⟩) p p] 35)
      clear B_47
      have cp_56 := p_54.cells
      have fp_56 := p_54.free
      have ct_57 := t_54.cells
      have ft_57 := t_54.free
      have cx_58 := x_54.cells
      have fx_58 := x_54.free
      have cw0_59 := w0_54.cells
      have fw0_59 := w0_54.free
      have cx0_60 := x0_54.cells
      have fx0_60 := x0_54.free
      have cy0_61 := y0_55.cells
      have fy0_61 := y0_55.free
      go_wp2_with fail
      refine (toEx_any E r0n e1 bs cl _ (HRE.out.below B_55 (Nat.le_refl _)) (by omega)).mono ?_
      rintro e w7 ⟨g5, rfl, o, b⟩
      clear cp_56 fp_56
      clear ct_57 ft_57
      clear cx_58 fx_58
      clear cw0_59 fw0_59
      clear cx0_60 fx0_60
      clear cy0_61 fy0_61
      simp only [World.size_alloc] at b o
      have t_62 := b.size
      simp only [World.size_alloc] at t_62
      have z_62 : w.heap.size ≤ w7.heap.size := by omega
      have p_63 := p_54.same (same_below b (by omega))
      clear p_54
      have t_63 := t_54.same (same_below b (by omega))
      clear t_54
      have x_63 := x_54.same (same_below b (by omega))
      clear x_54
      have wr_63 := wr_54.same (same_below b (by omega))
      clear wr_54
      have w0_63 := w0_54.same (same_below b (by omega))
      clear w0_54
      have sx_63 := sx_54.same (same_below b (by omega))
      clear sx_54
      have x0_63 := x0_54.same (same_below b (by omega))
      clear x0_54
      have ty_63 := ty_54.same (same_below b (by omega))
      clear ty_54
      have y0_63 := y0_55.same (same_below b (by omega))
      clear y0_55
      have B_62 := B_55.trans (b.mono (by omega))
      clear B_55 b
      have ez_62 := o
      clear o
      have cp_64 := p_63.cells
      have fp_64 := p_63.free
      have ct_65 := t_63.cells
      have ft_65 := t_63.free
      have cx_66 := x_63.cells
      have fx_66 := x_63.free
      have cw0_67 := w0_63.cells
      have fw0_67 := w0_63.free
      have cx0_68 := x0_63.cells
      have fx0_68 := x0_63.free
      have cy0_69 := y0_63.cells
      have fy0_69 := y0_63.free
      clear cp_64 fp_64
      clear ct_65 ft_65
      clear cx_66 fx_66
      clear cw0_67 fw0_67
      clear cx0_68 fx0_68
      clear cy0_69 fy0_69
      have p_70 := p_63.same (same_alloc (.cells #[.slice (some ⟨g5, 0, none⟩) r0n r0n, .int .i64 cl] 43) (by omega))
      clear p_63
      have t_70 := t_63.same (same_alloc (.cells #[.slice (some ⟨g5, 0, none⟩) r0n r0n, .int .i64 cl] 43) (by omega))
      clear t_63
      have x_70 := x_63.same (same_alloc (.cells #[.slice (some ⟨g5, 0, none⟩) r0n r0n, .int .i64 cl] 43) (by omega))
      clear x_63
      have wr_70 := wr_63.same (same_alloc (.cells #[.slice (some ⟨g5, 0, none⟩) r0n r0n, .int .i64 cl] 43) (by omega))
      clear wr_63
      have w0_70 := w0_63.same (same_alloc (.cells #[.slice (some ⟨g5, 0, none⟩) r0n r0n, .int .i64 cl] 43) (by omega))
      clear w0_63
      have sx_70 := sx_63.same (same_alloc (.cells #[.slice (some ⟨g5, 0, none⟩) r0n r0n, .int .i64 cl] 43) (by omega))
      clear sx_63
      have x0_70 := x0_63.same (same_alloc (.cells #[.slice (some ⟨g5, 0, none⟩) r0n r0n, .int .i64 cl] 43) (by omega))
      clear x0_63
      have ty_70 := ty_63.same (same_alloc (.cells #[.slice (some ⟨g5, 0, none⟩) r0n r0n, .int .i64 cl] 43) (by omega))
      clear ty_63
      have y0_70 := y0_63.same (same_alloc (.cells #[.slice (some ⟨g5, 0, none⟩) r0n r0n, .int .i64 cl] 43) (by omega))
      clear y0_63
      have ez_70 := ez_62.same (same_alloc (.cells #[.slice (some ⟨g5, 0, none⟩) r0n r0n, .int .i64 cl] 43) (by omega))
      clear ez_62
      have z0_71 : Bx (w7.alloc (.cells #[.slice (some ⟨g5, 0, none⟩) r0n r0n, .int .i64 cl] 43)) (w7.heap.size) 43 #[.slice (some ⟨g5, 0, none⟩) r0n r0n, .int .i64 cl] := Bx.new _ _ _
      have B_71 := B_62.alloc z_62 (.cells #[.slice (some ⟨g5, 0, none⟩) r0n r0n, .int .i64 cl] 43)
      clear B_62
      have cp_72 := p_70.cells
      have fp_72 := p_70.free
      have ct_73 := t_70.cells
      have ft_73 := t_70.free
      have cx_74 := x_70.cells
      have fx_74 := x_70.free
      have cw0_75 := w0_70.cells
      have fw0_75 := w0_70.free
      have cx0_76 := x0_70.cells
      have fx0_76 := x0_70.free
      have cy0_77 := y0_70.cells
      have fy0_77 := y0_70.free
      have cz0_78 := z0_71.cells
      have fz0_78 := z0_71.free
      go_wp2_with fail
      refine (iadd2 _ _ _ _ _ _ _ ats cs _ _ _ _ _ _ _ ts xss _ _ _ bs cl u _ (sx_70.sch (by omega) (by omega) (by omega) HOk.out HCs.out) (ty_70.sta (by omega) (by omega) (by omega)) ez_70.rd (by omega) z ts2 xss2 HD.out HT2.out HX2.out).mono ?_
      rintro e w8 ⟨A3, c3, C3, d3, mid3, h3, rfl, o, b⟩
      clear cp_72 fp_72
      clear ct_73 ft_73
      clear cx_74 fx_74
      clear cw0_75 fw0_75
      clear cx0_76 fx0_76
      clear cy0_77 fy0_77
      clear cz0_78 fz0_78
      simp only [World.size_alloc] at b o
      have t_79 := b.size
      simp only [World.size_alloc] at t_79
      have z_79 : w.heap.size ≤ w8.heap.size := by omega
      have p_80 := p_70.same (same_below b (by omega))
      clear p_70
      have t_80 := t_70.same (same_below b (by omega))
      clear t_70
      have x_80 := x_70.same (same_below b (by omega))
      clear x_70
      have wr_80 := wr_70.same (same_below b (by omega))
      clear wr_70
      have w0_80 := w0_70.same (same_below b (by omega))
      clear w0_70
      have sx_80 := sx_70.same (same_below b (by omega))
      clear sx_70
      have x0_80 := x0_70.same (same_below b (by omega))
      clear x0_70
      have ty_80 := ty_70.same (same_below b (by omega))
      clear ty_70
      have y0_80 := y0_70.same (same_below b (by omega))
      clear y0_70
      have ez_80 := ez_70.same (same_below b (by omega))
      clear ez_70
      have z0_80 := z0_71.same (same_below b (by omega))
      clear z0_71
      have B_79 := B_71.trans (b.mono (by omega))
      clear B_71 b
      have gr_79 := o
      clear o
      have cp_81 := p_80.cells
      have fp_81 := p_80.free
      have ct_82 := t_80.cells
      have ft_82 := t_80.free
      have cx_83 := x_80.cells
      have fx_83 := x_80.free
      have cw0_84 := w0_80.cells
      have fw0_84 := w0_80.free
      have cx0_85 := x0_80.cells
      have fx0_85 := x0_80.free
      have cy0_86 := y0_80.cells
      have fy0_86 := y0_80.free
      have cz0_87 := z0_80.cells
      have fz0_87 := z0_80.free
      clear cp_81 fp_81
      clear ct_82 ft_82
      clear cx_83 fx_83
      clear cw0_84 fw0_84
      clear cx0_85 fx0_85
      clear cy0_86 fy0_86
      clear cz0_87 fz0_87
      have p_88 := p_80.same (same_alloc (.cells #[.slice A3 q c3, .slice C3 p d3] 35) (by omega))
      clear p_80
      have t_88 := t_80.same (same_alloc (.cells #[.slice A3 q c3, .slice C3 p d3] 35) (by omega))
      clear t_80
      have x_88 := x_80.same (same_alloc (.cells #[.slice A3 q c3, .slice C3 p d3] 35) (by omega))
      clear x_80
      have wr_88 := wr_80.same (same_alloc (.cells #[.slice A3 q c3, .slice C3 p d3] 35) (by omega))
      clear wr_80
      have w0_88 := w0_80.same (same_alloc (.cells #[.slice A3 q c3, .slice C3 p d3] 35) (by omega))
      clear w0_80
      have sx_88 := sx_80.same (same_alloc (.cells #[.slice A3 q c3, .slice C3 p d3] 35) (by omega))
      clear sx_80
      have x0_88 := x0_80.same (same_alloc (.cells #[.slice A3 q c3, .slice C3 p d3] 35) (by omega))
      clear x0_80
      have ty_88 := ty_80.same (same_alloc (.cells #[.slice A3 q c3, .slice C3 p d3] 35) (by omega))
      clear ty_80
      have y0_88 := y0_80.same (same_alloc (.cells #[.slice A3 q c3, .slice C3 p d3] 35) (by omega))
      clear y0_80
      have ez_88 := ez_80.same (same_alloc (.cells #[.slice A3 q c3, .slice C3 p d3] 35) (by omega))
      clear ez_80
      have z0_88 := z0_80.same (same_alloc (.cells #[.slice A3 q c3, .slice C3 p d3] 35) (by omega))
      clear z0_80
      have gr_88 := gr_79.same (same_alloc (.cells #[.slice A3 q c3, .slice C3 p d3] 35) (by omega))
      clear gr_79
      have g0_89 : Bx (w8.alloc (.cells #[.slice A3 q c3, .slice C3 p d3] 35)) (w8.heap.size) 35 #[.slice A3 q c3, .slice C3 p d3] := Bx.new _ _ _
      have B_89 := B_79.alloc z_79 (.cells #[.slice A3 q c3, .slice C3 p d3] 35)
      clear B_79
      have cp_90 := p_88.cells
      have fp_90 := p_88.free
      have ct_91 := t_88.cells
      have ft_91 := t_88.free
      have cx_92 := x_88.cells
      have fx_92 := x_88.free
      have cw0_93 := w0_88.cells
      have fw0_93 := w0_88.free
      have cx0_94 := x0_88.cells
      have fx0_94 := x0_88.free
      have cy0_95 := y0_88.cells
      have fy0_95 := y0_88.free
      have cz0_96 := z0_88.cells
      have fz0_96 := z0_88.free
      have cg0_97 := g0_89.cells
      have fg0_97 := g0_89.free
      go_wp2_with fail
      refine (eqStats_same _ _ _ _ q _ p _ _ _ _ _ ts2 xss2 _ (gr_88.sta (by omega) (by omega) (by omega)) (wr_88.sta (by omega) (by omega) (by omega))).mono ?_
      rintro e w9 ⟨rfl, b⟩
      clear cp_90 fp_90
      clear ct_91 ft_91
      clear cx_92 fx_92
      clear cw0_93 fw0_93
      clear cx0_94 fx0_94
      clear cy0_95 fy0_95
      clear cz0_96 fz0_96
      clear cg0_97 fg0_97
      simp only [World.size_alloc] at b
      have t_98 := b.size
      simp only [World.size_alloc] at t_98
      have z_98 : w.heap.size ≤ w9.heap.size := by omega
      have p_99 := p_88.same (same_below b (by omega))
      clear p_88
      have t_99 := t_88.same (same_below b (by omega))
      clear t_88
      have x_99 := x_88.same (same_below b (by omega))
      clear x_88
      have wr_99 := wr_88.same (same_below b (by omega))
      clear wr_88
      have w0_99 := w0_88.same (same_below b (by omega))
      clear w0_88
      have sx_99 := sx_88.same (same_below b (by omega))
      clear sx_88
      have x0_99 := x0_88.same (same_below b (by omega))
      clear x0_88
      have ty_99 := ty_88.same (same_below b (by omega))
      clear ty_88
      have y0_99 := y0_88.same (same_below b (by omega))
      clear y0_88
      have ez_99 := ez_88.same (same_below b (by omega))
      clear ez_88
      have z0_99 := z0_88.same (same_below b (by omega))
      clear z0_88
      have gr_99 := gr_88.same (same_below b (by omega))
      clear gr_88
      have g0_99 := g0_89.same (same_below b (by omega))
      clear g0_89
      have B_98 := B_89.trans (b.mono (by omega))
      clear B_89 b
      have cp_100 := p_99.cells
      have fp_100 := p_99.free
      have ct_101 := t_99.cells
      have ft_101 := t_99.free
      have cx_102 := x_99.cells
      have fx_102 := x_99.free
      have cw0_103 := w0_99.cells
      have fw0_103 := w0_99.free
      have cx0_104 := x0_99.cells
      have fx0_104 := x0_99.free
      have cy0_105 := y0_99.cells
      have fy0_105 := y0_99.free
      have cz0_106 := z0_99.cells
      have fz0_106 := z0_99.free
      have cg0_107 := g0_99.cells
      have fg0_107 := g0_99.free
      go_wp2_with fail
      have lp_108 := p_99.lt
      have dp0_108 : Hid (w9.cell? ⟨w.heap.size, 0, none⟩ = some (.slice A n c)) := p_99.cells 0
      have dp1_108 : Hid (w9.cell? ⟨w.heap.size, 1, none⟩ = some (.slice C m d)) := p_99.cells 1
      have lx0_108 := x0_99.lt
      have dx00_108 : Hid (w9.cell? ⟨w5.heap.size, 0, none⟩ = some (.slice (some ⟨g1, 0, none⟩) n n)) := x0_99.cells 0
      have dx01_108 : Hid (w9.cell? ⟨w5.heap.size, 1, none⟩ = some (.slice (some ⟨g2, 0, none⟩) m m)) := x0_99.cells 1
      clear cp_100 fp_100
      clear ct_101 ft_101
      clear cx_102 fx_102
      clear cw0_103 fw0_103
      clear cx0_104 fx0_104
      clear cy0_105 fy0_105
      clear cz0_106 fz0_106
      clear cg0_107 fg0_107
      have HA_108 := Lib.hid B_98
      go_region_held3 (fun w' => w'.cell? ⟨w.heap.size, 0, none⟩ = some (.slice A n c) ∧ w'.cell? ⟨w.heap.size, 1, none⟩ = some (.slice C m d) ∧ w'.cell? ⟨w5.heap.size, 0, none⟩ = some (.slice (some ⟨g1, 0, none⟩) n n) ∧ w'.cell? ⟨w5.heap.size, 1, none⟩ = some (.slice (some ⟨g2, 0, none⟩) m m) ∧ Below w9.heap.size w9 w')
        (first
          | exact ⟨dp0_108.out, dp1_108.out, dx00_108.out, dx01_108.out, (Below.refl _ _).drew⟩
          | exact ⟨(Below.cell (p := ⟨w.heap.size, 0, none⟩) b9 lp_108).trans dp0_108.out, (Below.cell (p := ⟨w.heap.size, 1, none⟩) b9 lp_108).trans dp1_108.out, (Below.cell (p := ⟨w5.heap.size, 0, none⟩) b9 lx0_108).trans dx00_108.out, (Below.cell (p := ⟨w5.heap.size, 1, none⟩) b9 lx0_108).trans dx01_108.out, b9⟩
          | exact ⟨(Below.cell (p := ⟨w.heap.size, 0, none⟩) b8 lp_108).trans dp0_108.out, (Below.cell (p := ⟨w.heap.size, 1, none⟩) b8 lp_108).trans dp1_108.out, (Below.cell (p := ⟨w5.heap.size, 0, none⟩) b8 lx0_108).trans dx00_108.out, (Below.cell (p := ⟨w5.heap.size, 1, none⟩) b8 lx0_108).trans dx01_108.out, b8⟩)
        (first
          | (go_at_call 13; go_split_ands; refine (to2 A C n c m d hs ats cs _ w9 w9.heap.size (HRS.out.below (HA_108.out.trans (Below.mono (by assumption) HA_108.out.size)) (Nat.le_refl _)) (by omega) (by omega) (by omega) HOk.out HCs.out (by assumption) (Nat.le_refl _)).mono ?_; rintro e w' ⟨⟨ga8, gb8, gs8, rfl, r8, c8⟩, b8⟩)
          | (go_at_call 18; refine (lift (W0 := w9) (B := w9.heap.size) (eqSchema_same _ _ _ _ n _ m _ _ _ _ _ ats cs _ (sx_99.rd.below (by assumption) (Nat.le_refl _)) r8.rd (by omega) (by omega) (by omega)) (by assumption) (Nat.le_refl _)).mono ?_; rintro e w10 ⟨rfl, b9⟩))
      have t_108 := b9.size
      have z_108 : w.heap.size ≤ w10.heap.size := by omega
      have p_109 := p_99.same (same_below b9 (by omega))
      clear p_99
      have t_109 := t_99.same (same_below b9 (by omega))
      clear t_99
      have x_109 := x_99.same (same_below b9 (by omega))
      clear x_99
      have wr_109 := wr_99.same (same_below b9 (by omega))
      clear wr_99
      have w0_109 := w0_99.same (same_below b9 (by omega))
      clear w0_99
      have sx_109 := sx_99.same (same_below b9 (by omega))
      clear sx_99
      have x0_109 := x0_99.same (same_below b9 (by omega))
      clear x0_99
      have ty_109 := ty_99.same (same_below b9 (by omega))
      clear ty_99
      have y0_109 := y0_99.same (same_below b9 (by omega))
      clear y0_99
      have ez_109 := ez_99.same (same_below b9 (by omega))
      clear ez_99
      have z0_109 := z0_99.same (same_below b9 (by omega))
      clear z0_99
      have gr_109 := gr_99.same (same_below b9 (by omega))
      clear gr_99
      have g0_109 := g0_99.same (same_below b9 (by omega))
      clear g0_99
      have B_108 := B_98.trans (b9.mono (by omega))
      clear B_98 b9
      have cp_110 := p_109.cells
      have fp_110 := p_109.free
      have ct_111 := t_109.cells
      have ft_111 := t_109.free
      have cx_112 := x_109.cells
      have fx_112 := x_109.free
      have cw0_113 := w0_109.cells
      have fw0_113 := w0_109.free
      have cx0_114 := x0_109.cells
      have fx0_114 := x0_109.free
      have cy0_115 := y0_109.cells
      have fy0_115 := y0_109.free
      have cz0_116 := z0_109.cells
      have fz0_116 := z0_109.free
      have cg0_117 := g0_109.cells
      have fg0_117 := g0_109.free
      go_wp2_with fail
      have lt_118 := t_109.lt
      have dt0_118 : Hid (w10.cell? ⟨w.heap.size + 1, 0, none⟩ = some (.slice T q e0)) := t_109.cells 0
      have dt1_118 : Hid (w10.cell? ⟨w.heap.size + 1, 1, none⟩ = some (.slice X p f0)) := t_109.cells 1
      have ly0_118 := y0_109.lt
      have dy00_118 : Hid (w10.cell? ⟨w6.heap.size, 0, none⟩ = some (.slice (some ⟨g3, 0, none⟩) q q)) := y0_109.cells 0
      have dy01_118 : Hid (w10.cell? ⟨w6.heap.size, 1, none⟩ = some (.slice (some ⟨g4, 0, none⟩) p p)) := y0_109.cells 1
      clear cp_110 fp_110
      clear ct_111 ft_111
      clear cx_112 fx_112
      clear cw0_113 fw0_113
      clear cx0_114 fx0_114
      clear cy0_115 fy0_115
      clear cz0_116 fz0_116
      clear cg0_117 fg0_117
      have HA_118 := Lib.hid B_108
      go_region_held3 (fun w' => w'.cell? ⟨w.heap.size + 1, 0, none⟩ = some (.slice T q e0) ∧ w'.cell? ⟨w.heap.size + 1, 1, none⟩ = some (.slice X p f0) ∧ w'.cell? ⟨w6.heap.size, 0, none⟩ = some (.slice (some ⟨g3, 0, none⟩) q q) ∧ w'.cell? ⟨w6.heap.size, 1, none⟩ = some (.slice (some ⟨g4, 0, none⟩) p p) ∧ Below w10.heap.size w10 w')
        (first
          | exact ⟨dt0_118.out, dt1_118.out, dy00_118.out, dy01_118.out, (Below.refl _ _).drew⟩
          | exact ⟨(Below.cell (p := ⟨w.heap.size + 1, 0, none⟩) b9 lt_118).trans dt0_118.out, (Below.cell (p := ⟨w.heap.size + 1, 1, none⟩) b9 lt_118).trans dt1_118.out, (Below.cell (p := ⟨w6.heap.size, 0, none⟩) b9 ly0_118).trans dy00_118.out, (Below.cell (p := ⟨w6.heap.size, 1, none⟩) b9 ly0_118).trans dy01_118.out, b9⟩
          | exact ⟨(Below.cell (p := ⟨w.heap.size + 1, 0, none⟩) b8 lt_118).trans dt0_118.out, (Below.cell (p := ⟨w.heap.size + 1, 1, none⟩) b8 lt_118).trans dt1_118.out, (Below.cell (p := ⟨w6.heap.size, 0, none⟩) b8 ly0_118).trans dy00_118.out, (Below.cell (p := ⟨w6.heap.size, 1, none⟩) b8 ly0_118).trans dy01_118.out, b8⟩)
        (first
          | (go_at_call 14; go_split_ands; refine (to3 T X q e0 p f0 gs ts xss _ w10 w10.heap.size (HST.out.below (HA_118.out.trans (Below.mono (by assumption) HA_118.out.size)) (Nat.le_refl _)) (by assumption) (Nat.le_refl _)).mono ?_; rintro e w' ⟨⟨ga8, gb8, gs8, rfl, r8, c8⟩, b8⟩)
          | (go_at_call 17; refine (lift (W0 := w10) (B := w10.heap.size) (eqStats_same _ _ _ _ q _ p _ _ _ _ _ ts xss _ ((ty_109.sta (by omega) (by omega) (by omega)).below (by assumption) (Nat.le_refl _)) r8) (by assumption) (Nat.le_refl _)).mono ?_; rintro e w11 ⟨rfl, b9⟩))
      have t_118 := b9.size
      have z_118 : w.heap.size ≤ w11.heap.size := by omega
      have p_119 := p_109.same (same_below b9 (by omega))
      clear p_109
      have t_119 := t_109.same (same_below b9 (by omega))
      clear t_109
      have x_119 := x_109.same (same_below b9 (by omega))
      clear x_109
      have wr_119 := wr_109.same (same_below b9 (by omega))
      clear wr_109
      have w0_119 := w0_109.same (same_below b9 (by omega))
      clear w0_109
      have sx_119 := sx_109.same (same_below b9 (by omega))
      clear sx_109
      have x0_119 := x0_109.same (same_below b9 (by omega))
      clear x0_109
      have ty_119 := ty_109.same (same_below b9 (by omega))
      clear ty_109
      have y0_119 := y0_109.same (same_below b9 (by omega))
      clear y0_109
      have ez_119 := ez_109.same (same_below b9 (by omega))
      clear ez_109
      have z0_119 := z0_109.same (same_below b9 (by omega))
      clear z0_109
      have gr_119 := gr_109.same (same_below b9 (by omega))
      clear gr_109
      have g0_119 := g0_109.same (same_below b9 (by omega))
      clear g0_109
      have B_118 := B_108.trans (b9.mono (by omega))
      clear B_108 b9
      have cp_120 := p_119.cells
      have fp_120 := p_119.free
      have ct_121 := t_119.cells
      have ft_121 := t_119.free
      have cx_122 := x_119.cells
      have fx_122 := x_119.free
      have cw0_123 := w0_119.cells
      have fw0_123 := w0_119.free
      have cx0_124 := x0_119.cells
      have fx0_124 := x0_119.free
      have cy0_125 := y0_119.cells
      have fy0_125 := y0_119.free
      have cz0_126 := z0_119.cells
      have fz0_126 := z0_119.free
      have cg0_127 := g0_119.cells
      have fg0_127 := g0_119.free
      go_wp2_with fail
      have lx_128 := x_119.lt
      have dx0_128 : Hid (w11.cell? ⟨w.heap.size + 1 + 1, 0, none⟩ = some (.slice E r0n e1)) := x_119.cells 0
      have dx1_128 : Hid (w11.cell? ⟨w.heap.size + 1 + 1, 1, none⟩ = some (.int .i64 cl)) := x_119.cells 1
      have lz0_128 := z0_119.lt
      have dz00_128 : Hid (w11.cell? ⟨w7.heap.size, 0, none⟩ = some (.slice (some ⟨g5, 0, none⟩) r0n r0n)) := z0_119.cells 0
      have dz01_128 : Hid (w11.cell? ⟨w7.heap.size, 1, none⟩ = some (.int .i64 cl)) := z0_119.cells 1
      clear cp_120 fp_120
      clear ct_121 ft_121
      clear cx_122 fx_122
      clear cw0_123 fw0_123
      clear cx0_124 fx0_124
      clear cy0_125 fy0_125
      clear cz0_126 fz0_126
      clear cg0_127 fg0_127
      have HA_128 := Lib.hid B_118
      go_region_held3 (fun w' => w'.cell? ⟨w.heap.size + 1 + 1, 0, none⟩ = some (.slice E r0n e1) ∧ w'.cell? ⟨w.heap.size + 1 + 1, 1, none⟩ = some (.int .i64 cl) ∧ w'.cell? ⟨w7.heap.size, 0, none⟩ = some (.slice (some ⟨g5, 0, none⟩) r0n r0n) ∧ w'.cell? ⟨w7.heap.size, 1, none⟩ = some (.int .i64 cl) ∧ Below w11.heap.size w11 w')
        (first
          | exact ⟨dx0_128.out, dx1_128.out, dz00_128.out, dz01_128.out, (Below.refl _ _).drew⟩
          | exact ⟨(Below.cell (p := ⟨w.heap.size + 1 + 1, 0, none⟩) b9 lx_128).trans dx0_128.out, (Below.cell (p := ⟨w.heap.size + 1 + 1, 1, none⟩) b9 lx_128).trans dx1_128.out, (Below.cell (p := ⟨w7.heap.size, 0, none⟩) b9 lz0_128).trans dz00_128.out, (Below.cell (p := ⟨w7.heap.size, 1, none⟩) b9 lz0_128).trans dz01_128.out, b9⟩
          | exact ⟨(Below.cell (p := ⟨w.heap.size + 1 + 1, 0, none⟩) b6 lx_128).trans dx0_128.out, (Below.cell (p := ⟨w.heap.size + 1 + 1, 1, none⟩) b6 lx_128).trans dx1_128.out, (Below.cell (p := ⟨w7.heap.size, 0, none⟩) b6 lz0_128).trans dz00_128.out, (Below.cell (p := ⟨w7.heap.size, 1, none⟩) b6 lz0_128).trans dz01_128.out, b6⟩)
        (first
          | (go_at_call 15; go_split_ands; refine (to4 E r0n e1 bs cl _ w11 w11.heap.size (HRE.out.below (HA_128.out.trans (Below.mono (by assumption) HA_128.out.size)) (Nat.le_refl _)) (by omega) (by assumption) (Nat.le_refl _)).mono ?_; rintro e w' ⟨⟨ga6, rfl, r6, c6⟩, b6⟩; try (replace rQ := rQ.below c6 (Nat.le_refl _)); try (replace rQ := rQ.below c6 (Nat.le_refl _)))
          | (go_at_call 19; refine (lift (W0 := w11) (B := w11.heap.size) (eqEx_same _ _ r0n _ _ bs cl _ (ez_119.rd.below (by assumption) (Nat.le_refl _)) r6 (by omega)) (by assumption) (Nat.le_refl _)).mono ?_; rintro e w12 ⟨rfl, b9⟩))
      have t_128 := b9.size
      have z_128 : w.heap.size ≤ w12.heap.size := by omega
      have p_129 := p_119.same (same_below b9 (by omega))
      clear p_119
      have t_129 := t_119.same (same_below b9 (by omega))
      clear t_119
      have x_129 := x_119.same (same_below b9 (by omega))
      clear x_119
      have wr_129 := wr_119.same (same_below b9 (by omega))
      clear wr_119
      have w0_129 := w0_119.same (same_below b9 (by omega))
      clear w0_119
      have sx_129 := sx_119.same (same_below b9 (by omega))
      clear sx_119
      have x0_129 := x0_119.same (same_below b9 (by omega))
      clear x0_119
      have ty_129 := ty_119.same (same_below b9 (by omega))
      clear ty_119
      have y0_129 := y0_119.same (same_below b9 (by omega))
      clear y0_119
      have ez_129 := ez_119.same (same_below b9 (by omega))
      clear ez_119
      have z0_129 := z0_119.same (same_below b9 (by omega))
      clear z0_119
      have gr_129 := gr_119.same (same_below b9 (by omega))
      clear gr_119
      have g0_129 := g0_119.same (same_below b9 (by omega))
      clear g0_119
      have B_128 := B_118.trans (b9.mono (by omega))
      clear B_118 b9
      have cp_130 := p_129.cells
      have fp_130 := p_129.free
      have ct_131 := t_129.cells
      have ft_131 := t_129.free
      have cx_132 := x_129.cells
      have fx_132 := x_129.free
      have cw0_133 := w0_129.cells
      have fw0_133 := w0_129.free
      have cx0_134 := x0_129.cells
      have fx0_134 := x0_129.free
      have cy0_135 := y0_129.cells
      have fy0_135 := y0_129.free
      have cz0_136 := z0_129.cells
      have fz0_136 := z0_129.free
      have cg0_137 := g0_129.cells
      have fg0_137 := g0_129.free
      go_wp2_with fail
      refine (markSchema_any _ _ _ n _ m _ 1 _ _ _ ats cs _ sx_129 (by omega) (by omega) (by omega) (by omega) (by omega)).mono ?_
      rintro e w13 ⟨⟨K1, rfl, hK1⟩, gg⟩
      clear cp_130 fp_130
      clear ct_131 ft_131
      clear cx_132 fx_132
      clear cw0_133 fw0_133
      clear cx0_134 fx0_134
      clear cy0_135 fy0_135
      clear cz0_136 fz0_136
      clear cg0_137 fg0_137
      have t_138 := gg.size
      have z_138 : w.heap.size ≤ w13.heap.size := by omega
      have p_139 := p_129.same (same_only gg (by omega) (by omega))
      clear p_129
      have t_139 := t_129.same (same_only gg (by omega) (by omega))
      clear t_129
      have x_139 := x_129.same (same_only gg (by omega) (by omega))
      clear x_129
      have wr_139 := wr_129.same (same_only gg (by omega) (by omega))
      clear wr_129
      have w0_139 := w0_129.same (same_only gg (by omega) (by omega))
      clear w0_129
      have x0_139 := x0_129.same (same_only gg (by omega) (by omega))
      clear x0_129
      have ty_139 := ty_129.same (same_only gg (by omega) (by omega))
      clear ty_129
      have y0_139 := y0_129.same (same_only gg (by omega) (by omega))
      clear y0_129
      have ez_139 := ez_129.same (same_only gg (by omega) (by omega))
      clear ez_129
      have z0_139 := z0_129.same (same_only gg (by omega) (by omega))
      clear z0_129
      have gr_139 := gr_129.same (same_only gg (by omega) (by omega))
      clear gr_129
      have g0_139 := g0_129.same (same_only gg (by omega) (by omega))
      clear g0_129
      clear sx_129
      have B_138 := B_128.trans (gg.below (by omega) (by omega))
      clear B_128 gg
      have cp_140 := p_139.cells
      have fp_140 := p_139.free
      have ct_141 := t_139.cells
      have ft_141 := t_139.free
      have cx_142 := x_139.cells
      have fx_142 := x_139.free
      have cw0_143 := w0_139.cells
      have fw0_143 := w0_139.free
      have cx0_144 := x0_139.cells
      have fx0_144 := x0_139.free
      have cy0_145 := y0_139.cells
      have fy0_145 := y0_139.free
      have cz0_146 := z0_139.cells
      have fz0_146 := z0_139.free
      have cg0_147 := g0_139.cells
      have fg0_147 := g0_139.free
      go_wp2_with fail
      refine (markStats_any _ _ _ q _ p _ K1 _ _ _ ts xss _ ty_139 (by omega) (by omega) (by omega) (by omega) (by omega)).mono ?_
      rintro e w14 ⟨⟨K2, rfl, hK2⟩, gg⟩
      clear cp_140 fp_140
      clear ct_141 ft_141
      clear cx_142 fx_142
      clear cw0_143 fw0_143
      clear cy0_145 fy0_145
      clear cz0_146 fz0_146
      clear cg0_147 fg0_147
      have t_148 := gg.size
      have z_148 : w.heap.size ≤ w14.heap.size := by omega
      have p_149 := p_139.same (same_only gg (by omega) (by omega))
      clear p_139
      have t_149 := t_139.same (same_only gg (by omega) (by omega))
      clear t_139
      have x_149 := x_139.same (same_only gg (by omega) (by omega))
      clear x_139
      have wr_149 := wr_139.same (same_only gg (by omega) (by omega))
      clear wr_139
      have w0_149 := w0_139.same (same_only gg (by omega) (by omega))
      clear w0_139
      have y0_149 := y0_139.same (same_only gg (by omega) (by omega))
      clear y0_139
      have ez_149 := ez_139.same (same_only gg (by omega) (by omega))
      clear ez_139
      have z0_149 := z0_139.same (same_only gg (by omega) (by omega))
      clear z0_139
      have gr_149 := gr_139.same (same_only gg (by omega) (by omega))
      clear gr_139
      have g0_149 := g0_139.same (same_only gg (by omega) (by omega))
      clear g0_139
      clear ty_139
      have B_148 := B_138.trans (gg.below (by omega) (by omega))
      clear B_138 gg
      have cp_150 := p_149.cells
      have fp_150 := p_149.free
      have ct_151 := t_149.cells
      have ft_151 := t_149.free
      have cx_152 := x_149.cells
      have fx_152 := x_149.free
      have cw0_153 := w0_149.cells
      have fw0_153 := w0_149.free
      have cy0_154 := y0_149.cells
      have fy0_154 := y0_149.free
      have cz0_155 := z0_149.cells
      have fz0_155 := z0_149.free
      have cg0_156 := g0_149.cells
      have fg0_156 := g0_149.free
      go_wp2_with fail
      refine (markEx_any _ _ r0n _ K2 _ _ cl _ ez_149 (by omega) (by omega) (by omega)).mono ?_
      rintro e w15 ⟨rfl, gg⟩
      clear cp_150 fp_150
      clear ct_151 ft_151
      clear cx_152 fx_152
      clear cw0_153 fw0_153
      clear cy0_154 fy0_154
      clear cz0_155 fz0_155
      clear cg0_156 fg0_156
      have t_157 := gg.size
      have z_157 : w.heap.size ≤ w15.heap.size := by omega
      have p_158 := p_149.same (same_only gg (by omega) (by omega))
      clear p_149
      have t_158 := t_149.same (same_only gg (by omega) (by omega))
      clear t_149
      have x_158 := x_149.same (same_only gg (by omega) (by omega))
      clear x_149
      have wr_158 := wr_149.same (same_only gg (by omega) (by omega))
      clear wr_149
      have w0_158 := w0_149.same (same_only gg (by omega) (by omega))
      clear w0_149
      have y0_158 := y0_149.same (same_only gg (by omega) (by omega))
      clear y0_149
      have z0_158 := z0_149.same (same_only gg (by omega) (by omega))
      clear z0_149
      have gr_158 := gr_149.same (same_only gg (by omega) (by omega))
      clear gr_149
      have g0_158 := g0_149.same (same_only gg (by omega) (by omega))
      clear g0_149
      clear ez_149
      have B_157 := B_148.trans (gg.below (by omega) (by omega))
      clear B_148 gg
      have cp_159 := p_158.cells
      have fp_159 := p_158.free
      have ct_160 := t_158.cells
      have ft_160 := t_158.free
      have cx_161 := x_158.cells
      have fx_161 := x_158.free
      have cw0_162 := w0_158.cells
      have fw0_162 := w0_158.free
      have cy0_163 := y0_158.cells
      have fy0_163 := y0_158.free
      have cz0_164 := z0_158.cells
      have fz0_164 := z0_158.free
      have cg0_165 := g0_158.cells
      have fg0_165 := g0_158.free
      obtain ⟨K3, hK3⟩ : ∃ K3, K2 + r0n = K3 := ⟨_, rfl⟩
      rw [hK3]
      have hK3b : K3 ≤ 16777216 := by omega
      clear hK3
      go_wp2_with fail
      refine (eqStats_same _ _ _ _ q _ p _ _ _ _ _ ts2 xss2 _ (gr_158.sta (by omega) (by omega) (by omega)) (wr_158.sta (by omega) (by omega) (by omega))).mono ?_
      rintro e w16 ⟨rfl, b⟩
      clear cp_159 fp_159
      clear ct_160 ft_160
      clear cx_161 fx_161
      clear cw0_162 fw0_162
      clear cy0_163 fy0_163
      clear cz0_164 fz0_164
      clear cg0_165 fg0_165
      have t_166 := b.size
      have z_166 : w.heap.size ≤ w16.heap.size := by omega
      have p_167 := p_158.same (same_below b (by omega))
      clear p_158
      have t_167 := t_158.same (same_below b (by omega))
      clear t_158
      have x_167 := x_158.same (same_below b (by omega))
      clear x_158
      have wr_167 := wr_158.same (same_below b (by omega))
      clear wr_158
      have w0_167 := w0_158.same (same_below b (by omega))
      clear w0_158
      have y0_167 := y0_158.same (same_below b (by omega))
      clear y0_158
      have z0_167 := z0_158.same (same_below b (by omega))
      clear z0_158
      have gr_167 := gr_158.same (same_below b (by omega))
      clear gr_158
      have g0_167 := g0_158.same (same_below b (by omega))
      clear g0_158
      have B_166 := B_157.trans (b.mono (by omega))
      clear B_157 b
      have cp_168 := p_167.cells
      have fp_168 := p_167.free
      have ct_169 := t_167.cells
      have ft_169 := t_167.free
      have cx_170 := x_167.cells
      have fx_170 := x_167.free
      have cw0_171 := w0_167.cells
      have fw0_171 := w0_167.free
      have cy0_172 := y0_167.cells
      have fy0_172 := y0_167.free
      have cz0_173 := z0_167.cells
      have fz0_173 := z0_167.free
      have cg0_174 := g0_167.cells
      have fg0_174 := g0_167.free
      go_wp2_with fail
      refine (markStatsK_any _ _ _ q _ p _ 1 _ _ _ ts2 xss2 _ gr_167 (by omega) (by omega) (by omega) (by omega) (by omega)).mono ?_
      rintro e w17 ⟨rfl, o, gg⟩
      clear cp_168 fp_168
      clear ct_169 ft_169
      clear cx_170 fx_170
      clear cw0_171 fw0_171
      clear cy0_172 fy0_172
      clear cz0_173 fz0_173
      clear cg0_174 fg0_174
      have t_175 := gg.size
      have z_175 : w.heap.size ≤ w17.heap.size := by omega
      have p_176 := p_167.same (same_only gg (by omega) (by omega))
      clear p_167
      have t_176 := t_167.same (same_only gg (by omega) (by omega))
      clear t_167
      have x_176 := x_167.same (same_only gg (by omega) (by omega))
      clear x_167
      have wr_176 := wr_167.same (same_only gg (by omega) (by omega))
      clear wr_167
      have w0_176 := w0_167.same (same_only gg (by omega) (by omega))
      clear w0_167
      have y0_176 := y0_167.same (same_only gg (by omega) (by omega))
      clear y0_167
      have z0_176 := z0_167.same (same_only gg (by omega) (by omega))
      clear z0_167
      have g0_176 := g0_167.same (same_only gg (by omega) (by omega))
      clear g0_167
      have gr_175 := o
      clear gr_167 o
      have B_175 := B_166.trans (gg.below (by omega) (by omega))
      clear B_166 gg
      have cp_177 := p_176.cells
      have fp_177 := p_176.free
      have ct_178 := t_176.cells
      have ft_178 := t_176.free
      have cx_179 := x_176.cells
      have fx_179 := x_176.free
      have cw0_180 := w0_176.cells
      have fw0_180 := w0_176.free
      have cy0_181 := y0_176.cells
      have fy0_181 := y0_176.free
      have cz0_182 := z0_176.cells
      have fz0_182 := z0_176.free
      have cg0_183 := g0_176.cells
      have fg0_183 := g0_176.free
      go_wp2_with fail
      refine (heldStats_any q _ p _ 1 _ _ _ (iss xss2) _ gr_175.tot.rd gr_175.cel.rd HLM.out (by omega) (by omega) (by omega) (by omega)).mono ?_
      rintro e w18 ⟨rfl, b⟩
      clear cp_177 fp_177
      clear ct_178 ft_178
      clear cx_179 fx_179
      clear cw0_180 fw0_180
      clear cy0_181 fy0_181
      clear cz0_182 fz0_182
      clear cg0_183 fg0_183
      have t_184 := b.size
      have z_184 : w.heap.size ≤ w18.heap.size := by omega
      have p_185 := p_176.same (same_below b (by omega))
      clear p_176
      have t_185 := t_176.same (same_below b (by omega))
      clear t_176
      have x_185 := x_176.same (same_below b (by omega))
      clear x_176
      have wr_185 := wr_176.same (same_below b (by omega))
      clear wr_176
      have w0_185 := w0_176.same (same_below b (by omega))
      clear w0_176
      have y0_185 := y0_176.same (same_below b (by omega))
      clear y0_176
      have z0_185 := z0_176.same (same_below b (by omega))
      clear z0_176
      have gr_185 := gr_175.same (same_below b (by omega))
      clear gr_175
      have g0_185 := g0_176.same (same_below b (by omega))
      clear g0_176
      have B_184 := B_175.trans (b.mono (by omega))
      clear B_175 b
      have cp_186 := p_185.cells
      have fp_186 := p_185.free
      have ct_187 := t_185.cells
      have ft_187 := t_185.free
      have cx_188 := x_185.cells
      have fx_188 := x_185.free
      have cw0_189 := w0_185.cells
      have fw0_189 := w0_185.free
      have cy0_190 := y0_185.cells
      have fy0_190 := y0_185.free
      have cz0_191 := z0_185.cells
      have fz0_191 := z0_185.free
      have cg0_192 := g0_185.cells
      have fg0_192 := g0_185.free
      go_upto_region 38 with fail
      have lp_193 := p_185.lt
      have dp0_193 : Hid (w18.cell? ⟨w.heap.size, 0, none⟩ = some (.slice A n c)) := p_185.cells 0
      have dp1_193 : Hid (w18.cell? ⟨w.heap.size, 1, none⟩ = some (.slice C m d)) := p_185.cells 1
      have lt_193 := t_185.lt
      have dt0_193 : Hid (w18.cell? ⟨w.heap.size + 1, 0, none⟩ = some (.slice T q e0)) := t_185.cells 0
      have dt1_193 : Hid (w18.cell? ⟨w.heap.size + 1, 1, none⟩ = some (.slice X p f0)) := t_185.cells 1
      have lx_193 := x_185.lt
      have dx0_193 : Hid (w18.cell? ⟨w.heap.size + 1 + 1, 0, none⟩ = some (.slice E r0n e1)) := x_185.cells 0
      have dx1_193 : Hid (w18.cell? ⟨w.heap.size + 1 + 1, 1, none⟩ = some (.int .i64 cl)) := x_185.cells 1
      clear cp_186 fp_186
      clear ct_187 ft_187
      clear cx_188 fx_188
      clear cw0_189 fw0_189
      clear cy0_190 fy0_190
      clear cz0_191 fz0_191
      clear cg0_192 fg0_192
      have HK_193 : Hid (∀ w' : World, Below w18.heap.size w18 w' → w'.cell? ⟨w.heap.size, 0, none⟩ = some (.slice A n c) ∧ w'.cell? ⟨w.heap.size, 1, none⟩ = some (.slice C m d) ∧ w'.cell? ⟨w.heap.size + 1, 0, none⟩ = some (.slice T q e0) ∧ w'.cell? ⟨w.heap.size + 1, 1, none⟩ = some (.slice X p f0) ∧ w'.cell? ⟨w.heap.size + 1 + 1, 0, none⟩ = some (.slice E r0n e1) ∧ w'.cell? ⟨w.heap.size + 1 + 1, 1, none⟩ = some (.int .i64 cl) ∧ Below w18.heap.size w18 w') := fun w' hb => ⟨(Below.cell (p := ⟨w.heap.size, 0, none⟩) hb lp_193).trans dp0_193.out, (Below.cell (p := ⟨w.heap.size, 1, none⟩) hb lp_193).trans dp1_193.out, (Below.cell (p := ⟨w.heap.size + 1, 0, none⟩) hb lt_193).trans dt0_193.out, (Below.cell (p := ⟨w.heap.size + 1, 1, none⟩) hb lt_193).trans dt1_193.out, (Below.cell (p := ⟨w.heap.size + 1 + 1, 0, none⟩) hb lx_193).trans dx0_193.out, (Below.cell (p := ⟨w.heap.size + 1 + 1, 1, none⟩) hb lx_193).trans dx1_193.out, hb⟩
      have HA_193 := Lib.hid B_184
      have lo_193 := B_184.size
      go_cut [20, 21] (fun s8 s9 wx => ∃ (B : Nat) (A2 : Option Addr) (c2 : Nat) (C2 : Option Addr) (d2 mid : Nat) (g2 : List Hd), s8 = .pointer (some ⟨B, 0, none⟩) ∧ s9 = .bool z ∧ w18.heap.size ≤ B ∧ OwSta w18.heap.size wx.heap.size wx A2 C2 q c2 p d2 mid g2 ts2 xss2 ∧ Bx wx B 35 #[.slice A2 q c2, .slice C2 p d2] ∧ Below w18.heap.size w18 wx)
      case first =>
        go_region_held3 (fun w' => w'.cell? ⟨w.heap.size, 0, none⟩ = some (.slice A n c) ∧ w'.cell? ⟨w.heap.size, 1, none⟩ = some (.slice C m d) ∧ w'.cell? ⟨w.heap.size + 1, 0, none⟩ = some (.slice T q e0) ∧ w'.cell? ⟨w.heap.size + 1, 1, none⟩ = some (.slice X p f0) ∧ w'.cell? ⟨w.heap.size + 1 + 1, 0, none⟩ = some (.slice E r0n e1) ∧ w'.cell? ⟨w.heap.size + 1 + 1, 1, none⟩ = some (.int .i64 cl) ∧ Below w18.heap.size w18 w') ((refine HK_193.out _ ?_; first | exact (Below.refl _ _).drew | assumption | exact Below.alloc (Below.refl _ _).drew (Nat.le_refl _) _ | exact ((Below.refl _ _).alloc (Nat.le_refl _) _).drew | exact Below.alloc (by assumption) (Below.size (by assumption)) _ | exact (Below.setCell (p := ⟨_, 1, none⟩) (Below.setCell (p := ⟨_, 0, none⟩) (by assumption) (by first | exact x0.1 | (show _ ≤ _; omega)) _) (by first | exact x0.1 | (show _ ≤ _; omega)) _) | go_grown))
          (first
            | (go_at_call 13; go_split_ands; refine (to2 A C n c m d hs ats cs _ w18 w18.heap.size (HRS.out.below (HA_193.out.trans (Below.mono (by assumption) HA_193.out.size)) (Nat.le_refl _)) (by omega) (by omega) (by omega) HOk.out HCs.out (by assumption) (Nat.le_refl _)).mono ?_; rintro e w' ⟨⟨ga8, gb8, gs8, rfl, r8, c8⟩, b8⟩; (first | (replace x0 := x0.next c8) | (have x0 := Lain.first c8) | (have x0 := Lain.mid (v0 := w18) (by assumption) c8) | skip))
            | (go_at_call 14; go_split_ands; refine (to3 T X q e0 p f0 gs ts xss _ w18 w18.heap.size (HST.out.below (HA_193.out.trans (Below.mono (by assumption) HA_193.out.size)) (Nat.le_refl _)) (by assumption) (Nat.le_refl _)).mono ?_; rintro e w' ⟨⟨ga7, gb7, gs7, rfl, r7, c7⟩, b7⟩; (try (first | (replace r8 := r8.below c7 (Nat.le_refl _)) | (replace r8 := (r8.below (below_alloc1 _) (Nat.le_refl _)).below c7 (Nat.le_refl _)))); (first | (replace x0 := x0.next c7) | (have x0 := Lain.first c7) | (have x0 := Lain.mid (v0 := w18) (by assumption) c7) | skip))
            | (go_at_call 15; go_split_ands; refine (to4 E r0n e1 bs cl _ w18 w18.heap.size (HRE.out.below (HA_193.out.trans (Below.mono (by assumption) HA_193.out.size)) (Nat.le_refl _)) (by omega) (by assumption) (Nat.le_refl _)).mono ?_; rintro e w' ⟨⟨ga6, rfl, r6, c6⟩, b6⟩; (try (first | (replace r8 := r8.below c6 (Nat.le_refl _)) | (replace r8 := (r8.below (below_alloc1 _) (Nat.le_refl _)).below c6 (Nat.le_refl _)))); (try (first | (replace r7 := r7.below c6 (Nat.le_refl _)) | (replace r7 := (r7.below (below_alloc1 _) (Nat.le_refl _)).below c6 (Nat.le_refl _)))); (first | (replace x0 := x0.next c6) | (have x0 := Lain.first c6) | (have x0 := Lain.mid (v0 := w18) (by assumption) c6) | skip))
            | (go_at_call 16; go_split_ands; (first | (refine (iadd_from _ _ _ _ _ _ _ ats cs _ _ _ _ _ _ _ ts xss _ _ _ bs cl u _ r8 r7 r6 (by omega) z ts2 xss2 HD.out HT2.out HX2.out w18 w18.heap.size (by assumption) (Nat.le_refl _)).mono ?_) | (refine (iadd_from _ _ _ _ _ _ _ ats cs _ _ _ _ _ _ _ ts xss _ _ _ bs cl u _ (r8.below (below_alloc1 _) (Nat.le_refl _)) (r7.below (below_alloc1 _) (Nat.le_refl _)) (r6.below (below_alloc1 _) (Nat.le_refl _)) (by omega) z ts2 xss2 HD.out HT2.out HX2.out w18 w18.heap.size (by assumption) (Nat.le_refl _)).mono ?_)); rintro e wl ⟨⟨lo, A2, c2, C2, d2, mid, g2, rfl, hlo, o9, c9⟩, b9⟩; have hkl : w18.heap.size ≤ lo := (by rw [hlo]; first | exact b6.size | (have h6 := b6.size; simp only [World.size_alloc, World.size_drew]; omega)); (try (have hbl := x0.2.lt)); (try (simp only [World.size_alloc, World.size_drew] at hlo)); (first | (replace x0 := x0.next c9) | (have x0 := Lain.first c9) | (have x0 := Lain.mid (v0 := w18) (by assumption) c9) | skip); (try (have xc0 := x0.2.cells 0; have xf0 := x0.2.free 0; have xc1 := x0.2.cells 1; have xf1 := x0.2.free 1; simp at xc0 xc1))))
        all_goals (go_wp2_with fail; go_meet)
        all_goals (refine ⟨_, A2, c2, C2, d2, mid, g2, rfl, rfl, ?_, ?_, ?_, ?_⟩)
        all_goals (first | exact x0.1 | exact Below.size (by assumption) | exact Bx.new _ _ _ | exact ((x0.2.set_ 0 _).set_ 1 _) | exact sta_at o9 hkl | exact sta_pre o9 hkl (by omega) | assumption | exact Below.alloc (by assumption) (Below.size (by assumption)) _ | exact (Below.setCell (p := ⟨_, 1, none⟩) (Below.setCell (p := ⟨_, 0, none⟩) (by assumption) (by first | exact x0.1 | (show _ ≤ _; omega)) _) (by first | exact x0.1 | (show _ ≤ _; omega)) _) | omega | (go_grown; done))
      obtain ⟨Bh0, Ahr, chr, Chr, dhr, midhr, gshr, rfl, rfl, hBh0, hohr, hxh0, b_193⟩ := hcut
      have lx_193 := hxh0.lt
      obtain ⟨w19, rfl⟩ : ∃ w19 : World, w19 = wc := ⟨_, rfl⟩
      have t_193 := b_193.size
      have z_193 : w.heap.size ≤ w19.heap.size := by omega
      have p_194 := p_185.same (same_below b_193 (by omega))
      clear p_185
      have t_194 := t_185.same (same_below b_193 (by omega))
      clear t_185
      have x_194 := x_185.same (same_below b_193 (by omega))
      clear x_185
      have wr_194 := wr_185.same (same_below b_193 (by omega))
      clear wr_185
      have w0_194 := w0_185.same (same_below b_193 (by omega))
      clear w0_185
      have y0_194 := y0_185.same (same_below b_193 (by omega))
      clear y0_185
      have z0_194 := z0_185.same (same_below b_193 (by omega))
      clear z0_185
      have gr_194 := gr_185.same (same_below b_193 (by omega))
      clear gr_185
      have g0_194 := g0_185.same (same_below b_193 (by omega))
      clear g0_185
      have B_193 := B_184.trans (b_193.mono (by omega))
      clear B_184 b_193
      have cp_195 := p_194.cells
      have fp_195 := p_194.free
      have ct_196 := t_194.cells
      have ft_196 := t_194.free
      have cx_197 := x_194.cells
      have fx_197 := x_194.free
      have cw0_198 := w0_194.cells
      have fw0_198 := w0_194.free
      have cy0_199 := y0_194.cells
      have fy0_199 := y0_194.free
      have cz0_200 := z0_194.cells
      have fz0_200 := z0_194.free
      have cg0_201 := g0_194.cells
      have fg0_201 := g0_194.free
      have ch0_202 := hxh0.cells
      have fh0_202 := hxh0.free
      go_wp2_with fail
      refine (eqStats_same _ _ _ _ q _ p _ _ _ _ _ ts2 xss2 _ (hohr.sta (by omega) (by omega) (by omega)) (wr_194.sta (by omega) (by omega) (by omega))).mono ?_
      rintro e w20 ⟨rfl, b⟩
      clear cp_195 fp_195
      clear ct_196 ft_196
      clear cx_197 fx_197
      clear cw0_198 fw0_198
      clear cy0_199 fy0_199
      clear cz0_200 fz0_200
      clear cg0_201 fg0_201
      clear ch0_202 fh0_202
      have t_203 := b.size
      have z_203 : w.heap.size ≤ w20.heap.size := by omega
      have p_204 := p_194.same (same_below b (by omega))
      clear p_194
      have t_204 := t_194.same (same_below b (by omega))
      clear t_194
      have x_204 := x_194.same (same_below b (by omega))
      clear x_194
      have wr_204 := wr_194.same (same_below b (by omega))
      clear wr_194
      have w0_204 := w0_194.same (same_below b (by omega))
      clear w0_194
      have y0_204 := y0_194.same (same_below b (by omega))
      clear y0_194
      have z0_204 := z0_194.same (same_below b (by omega))
      clear z0_194
      have gr_204 := gr_194.same (same_below b (by omega))
      clear gr_194
      have g0_204 := g0_194.same (same_below b (by omega))
      clear g0_194
      have hr_204 := hohr.same (same_below b (by omega))
      clear hohr
      have h0_204 := hxh0.same (same_below b (by omega))
      clear hxh0
      have B_203 := B_193.trans (b.mono (by omega))
      clear B_193 b
      have cp_205 := p_204.cells
      have fp_205 := p_204.free
      have ct_206 := t_204.cells
      have ft_206 := t_204.free
      have cx_207 := x_204.cells
      have fx_207 := x_204.free
      have cw0_208 := w0_204.cells
      have fw0_208 := w0_204.free
      have cy0_209 := y0_204.cells
      have fy0_209 := y0_204.free
      have cz0_210 := z0_204.cells
      have fz0_210 := z0_204.free
      have cg0_211 := g0_204.cells
      have fg0_211 := g0_204.free
      have ch0_212 := h0_204.cells
      have fh0_212 := h0_204.free
      clear hr_204
      clear ch0_212 fh0_212
      clear h0_204
      clear wr_204
      clear cw0_208 fw0_208
      clear w0_204
      go_wp2_with fail
      refine (heldStats_any q _ p _ 1 _ _ _ (iss xss2) _ gr_204.tot.rd gr_204.cel.rd HLM.out (by omega) (by omega) (by omega) (by omega)).mono ?_
      rintro e w21 ⟨rfl, b⟩
      clear cp_205 fp_205
      clear ct_206 ft_206
      clear cx_207 fx_207
      clear cy0_209 fy0_209
      clear cz0_210 fz0_210
      clear cg0_211 fg0_211
      have t_213 := b.size
      have z_213 : w.heap.size ≤ w21.heap.size := by omega
      have p_214 := p_204.same (same_below b (by omega))
      clear p_204
      have t_214 := t_204.same (same_below b (by omega))
      clear t_204
      have x_214 := x_204.same (same_below b (by omega))
      clear x_204
      have y0_214 := y0_204.same (same_below b (by omega))
      clear y0_204
      have z0_214 := z0_204.same (same_below b (by omega))
      clear z0_204
      have gr_214 := gr_204.same (same_below b (by omega))
      clear gr_204
      have g0_214 := g0_204.same (same_below b (by omega))
      clear g0_204
      have B_213 := B_203.trans (b.mono (by omega))
      clear B_203 b
      have cp_215 := p_214.cells
      have fp_215 := p_214.free
      have ct_216 := t_214.cells
      have ft_216 := t_214.free
      have cx_217 := x_214.cells
      have fx_217 := x_214.free
      have cy0_218 := y0_214.cells
      have fy0_218 := y0_214.free
      have cz0_219 := z0_214.cells
      have fz0_219 := z0_214.free
      have cg0_220 := g0_214.cells
      have fg0_220 := g0_214.free
      go_wp2_with fail
      go_ret
      exact ⟨rfl, B_213⟩
    · have HZT := Lib.hid (szI_no (left := (1048576 - ((n : Int) + (asTot ats : Int) + ((m : Int) + (bytesOf cs : Int))))) (n := ((q : Int) + ((p : Int) + (tot (iss xss) : Int)))) (by omega))
      have B0 := Below.refl w.heap.size w
      have s0 : w.heap.size ≤ w.heap.size := Nat.le_refl _
      go_enter Try.func3, Try.ntmps3
      have p_2 : Bx (w.alloc (.cells #[.slice A n c, .slice C m d] 25)) (w.heap.size) 25 #[.slice A n c, .slice C m d] := Bx.new _ _ _
      have B_2 := B0.alloc s0 (.cells #[.slice A n c, .slice C m d] 25)
      clear B0
      have cp_3 := p_2.cells
      have fp_3 := p_2.free
      clear cp_3 fp_3
      have p_4 := p_2.same (same_alloc (.cells #[.slice T q e0, .slice X p f0] 29) (by simp only [World.size_alloc]; omega))
      clear p_2
      have t_5 : Bx ((w.alloc (.cells #[.slice A n c, .slice C m d] 25)).alloc (.cells #[.slice T q e0, .slice X p f0] 29)) (w.heap.size + 1) 29 #[.slice T q e0, .slice X p f0] := by
        have h := Bx.new (w.alloc (.cells #[.slice A n c, .slice C m d] 25)) 29 #[.slice T q e0, .slice X p f0]
        simpa only [World.size_alloc] using h
      have B_5 := B_2.alloc (by simp only [World.size_alloc]; omega) (.cells #[.slice T q e0, .slice X p f0] 29)
      clear B_2
      have cp_6 := p_4.cells
      have fp_6 := p_4.free
      have ct_7 := t_5.cells
      have ft_7 := t_5.free
      clear cp_6 fp_6
      clear ct_7 ft_7
      have p_8 := p_4.same (same_alloc (.cells #[.slice E r0n e1, .int .i64 cl] 31) (by simp only [World.size_alloc]; omega))
      clear p_4
      have t_8 := t_5.same (same_alloc (.cells #[.slice E r0n e1, .int .i64 cl] 31) (by simp only [World.size_alloc]; omega))
      clear t_5
      have x_9 : Bx (((w.alloc (.cells #[.slice A n c, .slice C m d] 25)).alloc (.cells #[.slice T q e0, .slice X p f0] 29)).alloc (.cells #[.slice E r0n e1, .int .i64 cl] 31)) (w.heap.size + 1 + 1) 31 #[.slice E r0n e1, .int .i64 cl] := by
        have h := Bx.new ((w.alloc (.cells #[.slice A n c, .slice C m d] 25)).alloc (.cells #[.slice T q e0, .slice X p f0] 29)) 31 #[.slice E r0n e1, .int .i64 cl]
        simpa only [World.size_alloc] using h
      have B_9 := B_5.alloc (by simp only [World.size_alloc]; omega) (.cells #[.slice E r0n e1, .int .i64 cl] 31)
      clear B_5
      have cp_10 := p_8.cells
      have fp_10 := p_8.free
      have ct_11 := t_8.cells
      have ft_11 := t_8.free
      have cx_12 := x_9.cells
      have fx_12 := x_9.free
      go_wp2_with fail
      refine (szSchema_any A C n c m d hs ats cs 1048576 _ (HRS.out.below B_9 (Nat.le_refl _)).at_ (HRS.out.below B_9 (Nat.le_refl _)).cl HOk.out HHs.out HCs.out (by omega) (by omega) (by omega) (by omega)).mono ?_
      rw [HZ.out]
      rintro e w1 ⟨rfl, b⟩
      clear cp_10 fp_10
      clear ct_11 ft_11
      clear cx_12 fx_12
      simp only [World.size_alloc] at b
      have t_13 := b.size
      simp only [World.size_alloc] at t_13
      have z_13 : w.heap.size ≤ w1.heap.size := by omega
      have p_14 := p_8.same (same_below b (by omega))
      clear p_8
      have t_14 := t_8.same (same_below b (by omega))
      clear t_8
      have x_14 := x_9.same (same_below b (by omega))
      clear x_9
      have B_13 := B_9.trans (b.mono (by omega))
      clear B_9 b
      have cp_15 := p_14.cells
      have fp_15 := p_14.free
      have ct_16 := t_14.cells
      have ft_16 := t_14.free
      have cx_17 := x_14.cells
      have fx_17 := x_14.free
      go_wp2_with fail
      refine (szStats_any T X q e0 p f0 gs xss (1048576 - ((n : Int) + (asTot ats : Int) + ((m : Int) + (bytesOf cs : Int)))) _ (HRX.out.below B_13 (Nat.le_refl _)) HBX.out (by omega) (by omega) (by omega) (by omega)).mono ?_
      rw [HZT.out]
      rintro e w2 ⟨rfl, b⟩
      clear cp_15 fp_15
      clear ct_16 ft_16
      clear cx_17 fx_17
      have t_18 := b.size
      have z_18 : w.heap.size ≤ w2.heap.size := by omega
      have p_19 := p_14.same (same_below b (by omega))
      clear p_14
      have t_19 := t_14.same (same_below b (by omega))
      clear t_14
      have x_19 := x_14.same (same_below b (by omega))
      clear x_14
      have B_18 := B_13.trans (b.mono (by omega))
      clear B_13 b
      have cp_20 := p_19.cells
      have fp_20 := p_19.free
      have ct_21 := t_19.cells
      have ft_21 := t_19.free
      have cx_22 := x_19.cells
      have fx_22 := x_19.free
      go_wp2_with fail
      go_ret
      exact ⟨rfl, B_18⟩
  · have HZ := Lib.hid (szI_no (left := 1048576) (n := ((n : Int) + (asTot ats : Int) + ((m : Int) + (bytesOf cs : Int)))) (by omega))
    have B0 := Below.refl w.heap.size w
    have s0 : w.heap.size ≤ w.heap.size := Nat.le_refl _
    go_enter Try.func3, Try.ntmps3
    have p_2 : Bx (w.alloc (.cells #[.slice A n c, .slice C m d] 25)) (w.heap.size) 25 #[.slice A n c, .slice C m d] := Bx.new _ _ _
    have B_2 := B0.alloc s0 (.cells #[.slice A n c, .slice C m d] 25)
    clear B0
    have cp_3 := p_2.cells
    have fp_3 := p_2.free
    clear cp_3 fp_3
    have p_4 := p_2.same (same_alloc (.cells #[.slice T q e0, .slice X p f0] 29) (by simp only [World.size_alloc]; omega))
    clear p_2
    have t_5 : Bx ((w.alloc (.cells #[.slice A n c, .slice C m d] 25)).alloc (.cells #[.slice T q e0, .slice X p f0] 29)) (w.heap.size + 1) 29 #[.slice T q e0, .slice X p f0] := by
      have h := Bx.new (w.alloc (.cells #[.slice A n c, .slice C m d] 25)) 29 #[.slice T q e0, .slice X p f0]
      simpa only [World.size_alloc] using h
    have B_5 := B_2.alloc (by simp only [World.size_alloc]; omega) (.cells #[.slice T q e0, .slice X p f0] 29)
    clear B_2
    have cp_6 := p_4.cells
    have fp_6 := p_4.free
    have ct_7 := t_5.cells
    have ft_7 := t_5.free
    clear cp_6 fp_6
    clear ct_7 ft_7
    have p_8 := p_4.same (same_alloc (.cells #[.slice E r0n e1, .int .i64 cl] 31) (by simp only [World.size_alloc]; omega))
    clear p_4
    have t_8 := t_5.same (same_alloc (.cells #[.slice E r0n e1, .int .i64 cl] 31) (by simp only [World.size_alloc]; omega))
    clear t_5
    have x_9 : Bx (((w.alloc (.cells #[.slice A n c, .slice C m d] 25)).alloc (.cells #[.slice T q e0, .slice X p f0] 29)).alloc (.cells #[.slice E r0n e1, .int .i64 cl] 31)) (w.heap.size + 1 + 1) 31 #[.slice E r0n e1, .int .i64 cl] := by
      have h := Bx.new ((w.alloc (.cells #[.slice A n c, .slice C m d] 25)).alloc (.cells #[.slice T q e0, .slice X p f0] 29)) 31 #[.slice E r0n e1, .int .i64 cl]
      simpa only [World.size_alloc] using h
    have B_9 := B_5.alloc (by simp only [World.size_alloc]; omega) (.cells #[.slice E r0n e1, .int .i64 cl] 31)
    clear B_5
    have cp_10 := p_8.cells
    have fp_10 := p_8.free
    have ct_11 := t_8.cells
    have ft_11 := t_8.free
    have cx_12 := x_9.cells
    have fx_12 := x_9.free
    go_wp2_with fail
    refine (szSchema_any A C n c m d hs ats cs 1048576 _ (HRS.out.below B_9 (Nat.le_refl _)).at_ (HRS.out.below B_9 (Nat.le_refl _)).cl HOk.out HHs.out HCs.out (by omega) (by omega) (by omega) (by omega)).mono ?_
    rw [HZ.out]
    rintro e w1 ⟨rfl, b⟩
    clear cp_10 fp_10
    clear ct_11 ft_11
    clear cx_12 fx_12
    simp only [World.size_alloc] at b
    have t_13 := b.size
    simp only [World.size_alloc] at t_13
    have z_13 : w.heap.size ≤ w1.heap.size := by omega
    have p_14 := p_8.same (same_below b (by omega))
    clear p_8
    have t_14 := t_8.same (same_below b (by omega))
    clear t_8
    have x_14 := x_9.same (same_below b (by omega))
    clear x_9
    have B_13 := B_9.trans (b.mono (by omega))
    clear B_9 b
    have cp_15 := p_14.cells
    have fp_15 := p_14.free
    have ct_16 := t_14.cells
    have ft_16 := t_14.free
    have cx_17 := x_14.cells
    have fx_17 := x_14.free
    go_wp2_with fail
    go_ret
    exact ⟨rfl, B_13⟩

set_option maxRecDepth 100000 in
theorem walks : Walks 3 Try.f3 := by
  intro H enc W base args ds ps hval hA _
  rw [Try.params3] at hA hval
  obtain ⟨v0, vs0, d0, ds0, p0, q0, hargs, rfl, rfl, h0, r0⟩ := trodAll_cons hA
  obtain ⟨v1, vs1, d1, ds1, p1, q1, rfl, rfl, rfl, h1, r1⟩ := trodAll_cons r0
  obtain ⟨v2, vs2, d2, ds2, p2, q2, rfl, rfl, rfl, h2, r2⟩ := trodAll_cons r1
  obtain ⟨v3, vs3, d3, ds3, p3, q3, rfl, rfl, rfl, h3, r3⟩ := trodAll_cons r2
  obtain ⟨rfl, rfl, rfl⟩ := trodAll_nil r3
  obtain rfl : args = #[v0, v1, v2, v3] := by cases args; simp_all
  obtain ⟨cs0, rfl, hl0, nn0, hf0⟩ := open_agg Try.underlying25 (by kernel_rfl) (by kernel_rfl) (hval 0 25 v0 rfl rfl) h0
  obtain ⟨c0_0, _, e0_0, y0_0⟩ := hf0 0 _ rfl
  obtain ⟨c0_1, _, e0_1, y0_1⟩ := hf0 1 _ rfl
  obtain ⟨a0_0, a0_1, rfl⟩ : ∃ a0_0 a0_1, cs0 = [a0_0, a0_1] := by
    match cs0, hl0 with
    | [a0, a1], _ => exact ⟨a0, a1, rfl⟩
  simp only [List.getElem?_cons_zero, List.getElem?_cons_succ, Option.some.injEq] at e0_0 e0_1
  subst e0_0 e0_1
  obtain ⟨A0_0, n0_0, c0_0, g0_0, x0_0, rfl, hl0_0, hm0_0, hr0_0, hg0_0, hx0_0⟩ := open_attrs (ts := 23) (ss := 23) Try.underlying22 Try.underlying109 (by kernel_rfl) (by kernel_rfl) Try.underlying9 Try.underlying26 Try.underlying3 (by kernel_rfl) Try.underlying23 Try.underlying9 (by kernel_rfl) y0_0
  obtain ⟨A0_1, n0_1, c0_1, x0_1, rfl, hl0_1, hm0_1, hr0_1, w0_1⟩ := open_strings_rd Try.underlying23 (by kernel_rfl) Try.underlying9 y0_1
  obtain ⟨cs1, rfl, hl1, nn1, hf1⟩ := open_agg Try.underlying29 (by kernel_rfl) (by kernel_rfl) (hval 1 29 v1 rfl rfl) h1
  obtain ⟨c1_0, _, e1_0, y1_0⟩ := hf1 0 _ rfl
  obtain ⟨c1_1, _, e1_1, y1_1⟩ := hf1 1 _ rfl
  obtain ⟨a1_0, a1_1, rfl⟩ : ∃ a1_0 a1_1, cs1 = [a1_0, a1_1] := by
    match cs1, hl1 with
    | [a0, a1], _ => exact ⟨a0, a1, rfl⟩
  simp only [List.getElem?_cons_zero, List.getElem?_cons_succ, Option.some.injEq] at e1_0 e1_1
  subst e1_0 e1_1
  obtain ⟨A1_0, n1_0, c1_0, x1_0, rfl, hl1_0, hm1_0, hr1_0, w1_0⟩ := open_ints_rd Try.underlying26 (by kernel_rfl) Try.underlying3 y1_0
  obtain ⟨A1_1, n1_1, c1_1, g1_1, x1_1, rfl, hl1_1, hm1_1, hr1_1, hb1_1, w1_1⟩ := open_rows Try.underlying27 (by kernel_rfl) Try.underlying26 (by kernel_rfl) Try.underlying3 y1_1
  obtain ⟨cs2, rfl, hl2, nn2, hf2⟩ := open_agg Try.underlying31 (by kernel_rfl) (by kernel_rfl) (hval 2 31 v2 rfl rfl) h2
  obtain ⟨c2_0, _, e2_0, y2_0⟩ := hf2 0 _ rfl
  obtain ⟨c2_1, _, e2_1, y2_1⟩ := hf2 1 _ rfl
  obtain ⟨a2_0, a2_1, rfl⟩ : ∃ a2_0 a2_1, cs2 = [a2_0, a2_1] := by
    match cs2, hl2 with
    | [a0, a1], _ => exact ⟨a0, a1, rfl⟩
  simp only [List.getElem?_cons_zero, List.getElem?_cons_succ, Option.some.injEq] at e2_0 e2_1
  subst e2_0 e2_1
  obtain ⟨A2_0, n2_0, c2_0, x2_0, rfl, hl2_0, hm2_0, hr2_0, w2_0⟩ := open_ints_rd Try.underlying26 (by kernel_rfl) Try.underlying3 y2_0
  obtain ⟨x2_1, rfl, w2_1⟩ := field_int Try.underlying3 y2_1
  obtain ⟨a3, rfl, rfl, rfl, w3⟩ := open_int Try.underlying3 (hval 3 3 v3 rfl rfl) h3
  exact walk (w := W) A0_0 n0_0 c0_0 g0_0 x0_0 A0_1 n0_1 c0_1 x0_1 A1_0 n1_0 c1_0 x1_0 A1_1 n1_1 c1_1 g1_1 x1_1 A2_0 n2_0 c2_0 x2_0 x2_1 a3 hl0_0 hm0_0 hr0_0 hg0_0 hx0_0 hl0_1 hm0_1 hr0_1 w0_1 hl1_0 hm1_0 hr1_0 w1_0 hl1_1 hm1_1 hr1_1 hb1_1 w1_1 hl2_0 hm2_0 hr2_0 w2_0 w2_1 w3

set_option maxRecDepth 100000 in
theorem lifted (os : Os) (started : os.Started) (H : Type) (enc : TypeId × Value → H) :
    ReturnsInHanded {} Try.checked os 3 .any (Rows.fnExactStatsAddSpec.pre6 enc Try.prog Try.f3 Rows.fnExactStatsAddRow.domain false) (Rows.fnExactStatsAddSpec.post enc Try.prog Try.f3 false true false false) :=
  law_lifted started (by kernel_rfl) Try.func3
    (ChangeSpec.witness6 (enc := enc) (C := Try.checked) false ⟨#[], #[.agg #[.slice none 0 0, .slice none 0 0], .agg #[.slice none 0 0, .slice none 0 0], .agg #[.slice none 0 0, .int .i64 0], .int .i64 0], []⟩ 8 (by kernel_rfl) (by kernel_rfl) (by kernel_rfl) (by kernel_rfl))
    rfl rfl Try.underlying4 (fun ds h => match ds, h with | [_, _, _, _], _ => rfl) (by
      rw [Try.params3]
      intro t ht
      simp only [List.mem_cons, List.not_mem_nil, or_false] at ht
      rcases ht with rfl | rfl | rfl | rfl <;> exact ⟨by kernel_rfl, of_decide_eq_true (by kernel_rfl)⟩) walks

theorem over : Rows.fnExactStatsAddRow.holds Try.pinned (OpenSpec.ofChange Rows.fnExactStatsAddSpec) :=
  OpenClaim.holds_of_wide 3 Try.f3 rfl rfl rfl rfl rfl rfl rfl ⟨rfl, rfl, rfl, rfl, rfl⟩ rfl rfl rfl rfl rfl (by kernel_rfl) Try.func3 (by kernel_rfl)
    (of_decide_eq_true (by kernel_rfl)) (by unfold Func.isWrapper; first | (rw [if_pos (by decide +kernel)]; kernel_rfl) | (rw [if_neg (by decide +kernel)]; exact ⟨rfl, rfl⟩))
    (fun os started H enc _ => lifted os started H enc)

theorem proved : Rows.FnExactStatsAddSaid := over
#print axioms proved

end LawStatsAdd
end Go.Proofs.Ytchkmcikpamdeaa
