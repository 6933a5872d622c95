/-
  StatsNew and Thin of the reference.
-/
import Derived.Test.YtchkmcikpamdeaaDraw9
import Derived.Test.YtchkmcikpamdeaaClStS
import Derived.Test.YtchkmcikpamdeaaMerO
import Derived.Deep.CutBlock
namespace Go.Proofs.Ytchkmcikpamdeaa
open Go.RowKit
set_option linter.unusedSimpArgs false
set_option linter.unusedVariables false

/-- 'make([]T, n)' at a step. -/
theorem wp_make_full {P : Program} (w : World) {o : Oper} {a : Act} {K : Act → World → Prop} {Q : Exit → Act → World → Prop} (l c : Operand) (t : TypeId) (hop : o.op = Op.makeSlice t l c)
    (base : Nat) (e : TypeId) (i : TypeInfo) (z : Value) (size : Nat) (h1 : P.underlying t = some (.slice e)) (h2 : P.info? e = some i) (h3 : i.zero = some z) (h4 : i.size = size)
    (kl kc : IntKind) (L C : Int) (n : Nat) (hl : a.eval l = .int kl L) (hc : a.eval c = .int kc C) (hL : L = (n : Int)) (hC : C = (n : Int)) (b2 : i.bytes * n ≤ 281474976710656) (b3 : n ≤ maxLen) (b4 : base ≤ w.heap.size)
    (hK : ∀ w', w'.ownsRow base e size (.slice (some ⟨w.heap.size, 0, none⟩) n n) n (madeCells z.cells (n * size)).toList → w.grownBy w' none → K (a.put o.dst (.slice (some ⟨w.heap.size, 0, none⟩) n n)) w') :
    o.wp P a w K Q := by
  obtain ⟨w', hrun, r1, r2⟩ := run_make_full (P := P) w base t e i z size h1 h2 h3 h4 kl kc n b2 b3 b4
  subst hL
  subst hC
  unfold Oper.wp
  simp [execOp, hop, hl, hc, hrun, Result.andThen]
  exact hK w' r1 r2
/-- What StatsNew answers. -/
def NewR (w : World) (e : Ending) (w' : World) : Prop :=
  ∃ (T : Option Addr) (q c : Nat) (X : Option Addr) (p d mid : Nat) (gs : List Hd) (ts : List Int) (xss : List (List Int)), e = .returned (.agg #[.slice T q c, .slice X p d]) ∧ (q ≤ 16 ∧ p ≤ 16 ∧ ∀ xs ∈ xss, xs.length ≤ 64) ∧ OwSta w.heap.size w'.heap.size w' T X q c p d mid gs ts xss ∧ Below w.heap.size w w'
set_option maxRecDepth 20000 in
set_option maxHeartbeats 8000000 in
theorem sStatsNew_any (w : World) (S1 S2 : Option Addr) (sn sc sm sd : Nat) (hs : List AH) (ats : List AD) (cs : List ByteArray) {P : Nat → Prop} (s : SchF P w S1 S2 sn sm sd hs ats cs) :
    Calls Try.prog 118 #[.agg #[.slice S1 sn sc, .slice S2 sm sd]] w (NewR w) := by
  have HS := Lib.hid s
  obtain ⟨i1, hi0, hz0, hz1, hz2⟩ := info_parts info_int
  have HQ := Lib.hid hi0; have HQ0 := Lib.hid hz0; have HQ1 := Lib.hid hz1; have HQ2 := Lib.hid hz2
  clear hi0 hz0 hz1 hz2
  obtain ⟨i5, hi0, hz0, hz1, hz2⟩ := info_parts info_IntSS
  have HN := Lib.hid hi0; have HN0 := Lib.hid hz0; have HN1 := Lib.hid hz1; have HN2 := Lib.hid hz2
  clear hi0 hz0 hz1 hz2
  have B0 := Below.refl w.heap.size w
  have s0 : w.heap.size ≤ w.heap.size := Nat.le_refl _
  go_enter Try.func118, Try.ntmps118
  have s_2 : Bx (w.alloc (.cells #[.slice S1 sn sc, .slice S2 sm sd] 40)) (w.heap.size) 40 #[.slice S1 sn sc, .slice S2 sm sd] := Bx.new _ _ _
  have B_2 := B0.alloc s0 (.cells #[.slice S1 sn sc, .slice S2 sm sd] 40)
  clear B0
  have cs_3 := s_2.cells
  have fs_3 := s_2.free
  clear cs_3 fs_3
  have s_4 := s_2.same (same_alloc (.cells #[.slice none 0 0, .slice none 0 0] 35) (by simp only [World.size_alloc]; omega))
  clear s_2
  have r_5 : Bx ((w.alloc (.cells #[.slice S1 sn sc, .slice S2 sm sd] 40)).alloc (.cells #[.slice none 0 0, .slice none 0 0] 35)) (w.heap.size + 1) 35 #[.slice none 0 0, .slice none 0 0] := by
    have h := Bx.new (w.alloc (.cells #[.slice S1 sn sc, .slice S2 sm sd] 40)) 35 #[.slice none 0 0, .slice none 0 0]
    simpa only [World.size_alloc] using h
  have B_5 := B_2.alloc (by simp only [World.size_alloc]; omega) (.cells #[.slice none 0 0, .slice none 0 0] 35)
  clear B_2
  have cs_6 := s_4.cells
  have fs_6 := s_4.free
  have cr_7 := r_5.cells
  have fr_7 := r_5.free
  go_wp2_with fail
  clear cs_6 fs_6
  clear cr_7 fr_7
  obtain ⟨v8, hv8⟩ : ∃ v8, v8 = ((w.alloc (.cells #[.slice S1 sn sc, .slice S2 sm sd] 40)).alloc (.cells #[.slice none 0 0, .slice none 0 0] 35)) := ⟨_, rfl⟩
  have zv8 : w.heap.size + 1 + 1 ≤ v8.heap.size := by rw [hv8]; simp
  rw [← hv8] at s_4 r_5 B_5 ⊢
  clear hv8
  have HSb0 := Lib.hid s_4; have HRr0 := Lib.hid r_5
  have K0 := Lib.hid (Keeps.below (P := fun j => True) B_5 (Nat.le_refl _))
  have HSv := Lib.hid ((HS.out.keep (K0.out.mono (fun _ _ => trivial))).sch)
  have HB0 := Lib.hid B_5
  have hsn := s.hn; have hsm := s.hm
  obtain ⟨y, hy⟩ : ∃ y, schB ats cs = y := ⟨_, rfl⟩
  have HY := Lib.hid hy
  clear s_4 r_5 B_5 hy
  refine (sSchemaOk_any S1 S2 sn sc sm sd hs ats cs _ HSv.out).mono ?_
  rw [HY.out]
  rintro e w5 ⟨rfl, hb⟩
  have s5 := hb.size
  have K5 := Keeps.below (P := fun j => True) hb (Nat.le_refl _)
  have HSb5 := Lib.hid (HSb0.out.keep K5 trivial); have HRr := Lib.hid (HRr0.out.keep K5 trivial)
  have HB5 := Lib.hid (HB0.out.trans (hb.mono (by omega)))
  clear hb K5 HSb0 HRr0 HB0 K0
  cases y
  · skip
    have HKf := Lib.hid (keeps_step (set1_keeps w5 (w.heap.size + 1) 0 (.slice none 0 0)) 1 (.slice none 0 0))
    have r0 : w5.cell? ⟨w.heap.size + 1, 0, none⟩ = some (.slice none 0 0) := HRr.out.cells 0
    have r1 : w5.cell? ⟨w.heap.size + 1, 1, none⟩ = some (.slice none 0 0) := HRr.out.cells 1
    have rf0 := HRr.out.free 0; have rf1 := HRr.out.free 1
    have hfin : ∀ w9, w9 = (w5.setCell ⟨(w.heap.size + 1), 0, none⟩ (.slice none 0 0)).setCell ⟨(w.heap.size + 1), 1, none⟩ (.slice none 0 0) → OwSta w.heap.size w9.heap.size w9 none none 0 0 0 0 w.heap.size [] [] [] ∧ Below w.heap.size w w9 := by
      intro w9 h9
      subst h9
      exact ⟨⟨⟨World.ownsRow_nil _ _ _ _, by intro k hk; cases hk⟩, OwSS.nil _ _ _, ⟨Nat.le_refl _, by simp only [World.size_setCell]; omega⟩⟩, HB5.out.trans (HKf.out.2.mono (by omega))⟩
    have HFin := Lib.hid hfin
    clear hfin
    go_wp2_with ((with_reducible refine bodyPost_ret (v := .agg #[.slice none 0 0, .slice none 0 0]) ?k1 ?k2 ?k3); (case k1 => (simp [results, Try.results118, go_sem, r0, r1, rf0, rf1])); (case k2 => rfl); (case k3 => (exact ⟨none, 0, 0, none, 0, 0, w.heap.size, [], [], [], rfl, ⟨by omega, by omega, by simp⟩, (HFin.out _ rfl).1, (HFin.out _ rfl).2⟩)))
  · skip
    have p0 : w5.cell? ⟨w.heap.size, 0, none⟩ = some (.slice S1 sn sc) := HSb5.out.cells 0; have pf0 := HSb5.out.free 0
    have p1 : w5.cell? ⟨w.heap.size, 1, none⟩ = some (.slice S2 sm sd) := HSb5.out.cells 1; have pf1 := HSb5.out.free 1
    go_wp2_with (at_make; refine wpList_make_full _ rfl _ _ 26 rfl w5.heap.size 3 i1 (Value.int .i64 0) 1 Try.underlying26 HQ.out HQ0.out HQ1.out .i64 .i64 _ _ sm rfl rfl (by omega) (by omega) ?c1 ?c2 (Nat.le_refl _) ?_)
    case c1 => rw [HQ2.out]; omega
    case c2 => unfold maxLen; omega
    intro w6 hown hgrow
    have HB6 : Hid (Below w5.heap.size w5 w6) := (Below.refl _ _).grown hgrow (Nat.le_refl _) (fun k hk => by cases hk)
    have HTot : Hid (w6.ownsRow w5.heap.size 3 1 (.slice (some ⟨w5.heap.size, 0, none⟩) sm sm) sm ((List.replicate sm (0 : Int)).map (Value.int .i64))) := by
      unfold Hid; rw [List.map_replicate, ← toList_madeCells_one]; simpa [Value.cells] using hown
    have hz6 := (HTot.out.lt w5.heap.size rfl).2
    have K6 := Lib.hid (Keeps.below (P := fun j => True) HB6.out (Nat.le_refl _))
    have HSb7 := Lib.hid ((HSb5.out.keep K6.out trivial).keep (Keeps.alloc (P := fun j => True) (.cells #[.slice (some ⟨w5.heap.size, 0, none⟩) sm sm, .slice none 0 0] 35)) trivial)
    have HRr7 := Lib.hid ((HRr.out.keep K6.out trivial).keep (Keeps.alloc (P := fun j => True) (.cells #[.slice (some ⟨w5.heap.size, 0, none⟩) sm sm, .slice none 0 0] 35)) trivial)
    have HBx7 := Lib.hid (Bx.new w6 35 #[.slice (some ⟨w5.heap.size, 0, none⟩) sm sm, .slice none 0 0])
    have HTot7 := Lib.hid ((Ow.of HTot.out).same (same_alloc (.cells #[.slice (some ⟨w5.heap.size, 0, none⟩) sm sm, .slice none 0 0] 35) (Nat.le_refl _)))
    have HB7 : Hid (Below w.heap.size w (w6.alloc (.cells #[.slice (some ⟨w5.heap.size, 0, none⟩) sm sm, .slice none 0 0] 35))) := (HB5.out.trans (HB6.out.mono (by omega))).alloc (by omega) _
    clear hown hgrow HB6 HTot K6 HSb5 HRr HB5 p0 p1 pf0 pf1
    go_wp2_with fail
    go_loopw [4] (fun s4 wr => ∃ (i : Nat) (X1 : Option Addr) (d1 : Nat) (gs : List Hd) (xss : List (List Int)), i ≤ sn ∧ s4 = .int .i64 i ∧ xss.length = i ∧ (∀ xs ∈ xss, xs.length ≤ 64) ∧ Bx wr w.heap.size 40 #[.slice S1 sn sc, .slice S2 sm sd] ∧ Bx wr (w.heap.size + 1) 35 #[.slice none 0 0, .slice none 0 0] ∧ Bx wr w6.heap.size 35 #[.slice (some ⟨w5.heap.size, 0, none⟩) sm sm, .slice X1 i d1] ∧ Ow 3 w5.heap.size w6.heap.size wr (some ⟨w5.heap.size, 0, none⟩) sm sm ((List.replicate sm (0 : Int)).map (Value.int .i64)) ∧ OwSS (w6.heap.size + 1) wr.heap.size wr X1 i d1 gs (iss xss) ∧ Below w.heap.size w wr) (fun s4 _ => sn - (intOf s4).toNat)
    case atStart => exact ⟨0, none, 0, [], [], Nat.zero_le _, rfl, rfl, by simp, HSb7.out, HRr7.out, HBx7.out, HTot7.out, OwSS.nil _ _ _, HB7.out⟩
    case round =>
      obtain ⟨i, X1, d1, gs, xss, hi, rfl, hxl, hx64, hsb, hrr, hbx, htot, hss, hb⟩ := hrel
      obtain ⟨wo, rfl⟩ : ∃ wo : World, wo = wr := ⟨_, rfl⟩
      have hsz := hb.size
      have hlb := hbx.lt
      have HSb := Lib.hid hsb; have HRr := Lib.hid hrr; have HBx := Lib.hid hbx; have HTot := Lib.hid htot; have HSS := Lib.hid hss; have HB := Lib.hid hb; have HXl := Lib.hid hxl; have HX64 := Lib.hid hx64
      clear hsb hrr hbx htot hss hb hxl hx64 HSb7 HRr7 HBx7 HTot7 HB7
      by_cases hlt : i < sn
      · have hlti : (i : Int) < (sn : Int) := by omega
        have hSo := HS.out.keep (Keeps.below HB.out (Nat.le_refl _))
        obtain ⟨h, a, ba, off, ha, hac, hA, hbl, d0, d1_, d2_⟩ := hSo.sch.get hlt
        subst hA
        have hbaw : ba < w.heap.size := by
          obtain ⟨b', off', e', hl', _⟩ := HS.out.hd.rd.ex (by omega)
          simp only [Option.some.injEq, Addr.mk.injEq] at e'
          omega
        obtain ⟨nb, hnb, hn2, hn4⟩ := attrB_bins (schB_get HY.out ha)
        have HAc := Lib.hid (hac.below (below_drew wo.heap.size wo) (Nat.le_refl _)); have HAb := Lib.hid (schB_get HY.out ha); have HNb := Lib.hid hnb
        obtain ⟨KN, hKN⟩ : ∃ KN : Nat, nb * sm = KN := ⟨_, rfl⟩
        have hK64 : KN ≤ 64 := by have := Nat.mul_le_mul hn4 hsm; omega
        have hmul : (nb : Int) * (sm : Int) = (KN : Int) := by rw [← hKN]; push_cast; rfl
        have hw1 : IntKind.i64.wrap (KN : Int) = (KN : Int) := IntWalk.i64_in _ (by omega)
        have p0 : wo.cell? ⟨w.heap.size, 0, none⟩ = some (.slice (some ⟨ba, off, none⟩) sn sc) := HSb.out.cells 0; have pf0 := HSb.out.free 0
        have p1 : wo.cell? ⟨w.heap.size, 1, none⟩ = some (.slice S2 sm sd) := HSb.out.cells 1; have pf1 := HSb.out.free 1
        have q0 : wo.cell? ⟨w6.heap.size, 0, none⟩ = some (.slice (some ⟨w5.heap.size, 0, none⟩) sm sm) := HBx.out.cells 0; have qf0 := HBx.out.free 0
        have q1 : wo.cell? ⟨w6.heap.size, 1, none⟩ = some (.slice X1 i d1) := HBx.out.cells 1; have qf1 := HBx.out.free 1
        have hrow : ∀ j, (Value.slice X1 i d1).ownBlock = some j → w6.heap.size + 1 ≤ j := fun j hj => (HSS.out.hd.own.lt j hj).1
        have HRow := Lib.hid hrow
        have HKe : Hid (∀ w' : World, Keeps (fun j => j ≤ w6.heap.size) wo w' → w'.cell? ⟨w6.heap.size, 1, none⟩ = some (.slice X1 i d1) ∧ w'.frozen? ⟨w6.heap.size, 1, none⟩ = false ∧ w'.cell? ⟨w.heap.size, 0, none⟩ = some (.slice (some ⟨ba, off, none⟩) sn sc) ∧ w'.cell? ⟨w.heap.size, 1, none⟩ = some (.slice S2 sm sd) ∧ w'.cell? ⟨ba, off + i * 3, none⟩ = some (.string a.nm) ∧ w'.cell? ⟨ba, off + i * 3 + 1, none⟩ = some (.slice h.1.1 h.1.2.1 h.1.2.2) ∧ w'.cell? ⟨ba, off + i * 3 + 2, none⟩ = some (.slice h.2.1 h.2.2.1 h.2.2.2)) := fun w' hk => by
          have e1 := HBx.out.keep hk (Nat.le_refl _)
          have e2 := HSb.out.keep hk (by omega)
          have e3 : ∀ o, w'.cell? ⟨ba, o, none⟩ = wo.cell? ⟨ba, o, none⟩ := fun o => World.cell?_of_block (hk.block ba (by omega) hbl)
          exact ⟨e1.cells 1, e1.free 1, e2.cells 0, e2.cells 1, (e3 _).trans d0, (e3 _).trans d1_, (e3 _).trans d2_⟩
        clear hKN hrow hSo hac ha hnb
        go_upto_region 7 with fail
        skip
        refine wp_region_last (n := 16) (S := fun w' => w'.cell? ⟨w6.heap.size, 1, none⟩ = some (.slice X1 i d1) ∧ w'.frozen? ⟨w6.heap.size, 1, none⟩ = false ∧ w'.cell? ⟨w.heap.size, 0, none⟩ = some (.slice (some ⟨ba, off, none⟩) sn sc) ∧ w'.cell? ⟨w.heap.size, 1, none⟩ = some (.slice S2 sm sd) ∧ w'.cell? ⟨ba, off + i * 3, none⟩ = some (.string a.nm) ∧ w'.cell? ⟨ba, off + i * 3 + 1, none⟩ = some (.slice h.1.1 h.1.2.1 h.1.2.2) ∧ w'.cell? ⟨ba, off + i * 3 + 2, none⟩ = some (.slice h.2.1 h.2.2.1 h.2.2.2)) (by kernel_rfl) rfl (by kernel_rfl) (HKe.out _ (Keeps.drew)) ?_
        intro hS; (try dsimp only at hS)
        simp only [List.take_succ_cons, List.take_zero, List.getElem_toArray, List.getElem_cons_succ, List.getElem_cons_zero]
        refine wpAnyH_take (i := 0) (v := ?v1x) rfl (by kernel_rfl) (by kernel_rfl) (by kernel_rfl) (fun _ _ _ h => h) (Or.inl ⟨by rfl, ?hy1x⟩) hS ?rest1x
        case hy1x => (intro w' hSw; (try dsimp only at hSw); go_simp; (try (with_reducible rfl)))
        (try simp only [Act.put, List.setIfInBounds_toArray, List.set_cons_zero, List.set_cons_succ, List.getElem_toArray, List.getElem_cons_succ, List.getElem_cons_zero])
        refine wpAnyH_take (i := 1) (v := ?v2x) rfl (by kernel_rfl) (by kernel_rfl) (by kernel_rfl) (fun _ _ _ h => h) (Or.inl ⟨by rfl, ?hy2x⟩) hS ?rest2x
        case hy2x => (intro w' hSw; (try dsimp only at hSw); go_simp; (try (with_reducible rfl)))
        (try simp only [Act.put, List.setIfInBounds_toArray, List.set_cons_zero, List.set_cons_succ, List.getElem_toArray, List.getElem_cons_succ, List.getElem_cons_zero])
        refine wpAnyH_take (i := 2) (v := ?v3x) rfl (by kernel_rfl) (by kernel_rfl) (by kernel_rfl) (fun _ _ _ h => h) (Or.inl ⟨by rfl, ?hy3x⟩) hS ?rest3x
        case hy3x => (intro w' hSw; (try dsimp only at hSw); go_simp; (try (with_reducible rfl)))
        (try simp only [Act.put, List.setIfInBounds_toArray, List.set_cons_zero, List.set_cons_succ, List.getElem_toArray, List.getElem_cons_succ, List.getElem_cons_zero])
        refine wpAnyH_take (i := 3) (v := ?v4x) rfl (by kernel_rfl) (by kernel_rfl) (by kernel_rfl) (fun _ _ _ h => h) (Or.inl ⟨by rfl, ?hy4x⟩) hS ?rest4x
        case hy4x => (intro w' hSw; (try dsimp only at hSw); go_simp; (try (with_reducible rfl)))
        (try simp only [Act.put, List.setIfInBounds_toArray, List.set_cons_zero, List.set_cons_succ, List.getElem_toArray, List.getElem_cons_succ, List.getElem_cons_zero])
        refine wpAnyH_take (i := 4) (v := ?v5x) rfl (by kernel_rfl) (by kernel_rfl) (by kernel_rfl) (fun _ _ _ h => h) (Or.inl ⟨by rfl, ?hy5x⟩) hS ?rest5x
        case hy5x => (intro w' hSw; (try dsimp only at hSw); go_simp; (try (with_reducible rfl)))
        (try simp only [Act.put, List.setIfInBounds_toArray, List.set_cons_zero, List.set_cons_succ, List.getElem_toArray, List.getElem_cons_succ, List.getElem_cons_zero])
        refine wpAnyH_take (i := 5) (v := ?v6x) rfl (by kernel_rfl) (by kernel_rfl) (by kernel_rfl) (fun _ _ _ h => h) (Or.inl ⟨by rfl, ?hy6x⟩) hS ?rest6x
        case hy6x => (intro w' hSw; (try dsimp only at hSw); go_simp; (try (with_reducible rfl)))
        (try simp only [Act.put, List.setIfInBounds_toArray, List.set_cons_zero, List.set_cons_succ, List.getElem_toArray, List.getElem_cons_succ, List.getElem_cons_zero])
        refine wpAnyH_take (i := 6) (v := ?v7x) rfl (by kernel_rfl) (by kernel_rfl) (by kernel_rfl) (fun _ _ _ h => h) (Or.inl ⟨by rfl, ?hy7x⟩) hS ?rest7x
        case hy7x => (intro w' hSw; (try dsimp only at hSw); go_simp; (try (with_reducible rfl)))
        (try simp only [Act.put, List.setIfInBounds_toArray, List.set_cons_zero, List.set_cons_succ, List.getElem_toArray, List.getElem_cons_succ, List.getElem_cons_zero])
        refine wpAnyH_take (i := 8) (v := ?v8x) rfl (by kernel_rfl) (by kernel_rfl) (by kernel_rfl) (fun _ _ _ h => h) (Or.inl ⟨by rfl, ?hy8x⟩) hS ?rest8x
        case hy8x => (intro w' hSw; (try dsimp only at hSw); go_simp; (try (with_reducible rfl)))
        (try simp only [Act.put, List.setIfInBounds_toArray, List.set_cons_zero, List.set_cons_succ, List.getElem_toArray, List.getElem_cons_succ, List.getElem_cons_zero])
        refine wpAnyH_take (i := 9) (v := ?v9x) rfl (by kernel_rfl) (by kernel_rfl) (by kernel_rfl) (fun _ _ _ h => h) (Or.inl ⟨by rfl, ?hy9x⟩) hS ?rest9x
        case hy9x => (intro w' hSw; (try dsimp only at hSw); go_simp; (try (with_reducible rfl)))
        (try simp only [Act.put, List.setIfInBounds_toArray, List.set_cons_zero, List.set_cons_succ, List.getElem_toArray, List.getElem_cons_succ, List.getElem_cons_zero])
        refine wpAnyH_take (i := 10) (v := ?v10x) rfl (by kernel_rfl) (by kernel_rfl) (by kernel_rfl) (fun _ _ _ h => h) (Or.inl ⟨by rfl, ?hy10x⟩) hS ?rest10x
        case hy10x => (intro w' hSw; (try dsimp only at hSw); go_simp; (try (with_reducible rfl)))
        (try simp only [Act.put, List.setIfInBounds_toArray, List.set_cons_zero, List.set_cons_succ, List.getElem_toArray, List.getElem_cons_succ, List.getElem_cons_zero])
        refine wpAnyH_ready (rs := [7]) (by kernel_rfl) (by simp) ?_
        refine AllReadyH.cons rfl (fun K hK => ?_) AllReadyH.nil
        (try dsimp only [List.getElem_toArray, List.getElem_cons_succ, List.getElem_cons_zero])
        (go_simp; (refine ((sBins_any a h _ HAc.out HAb.out).mono fun _ _ hz => (⟨hz.1.trans (by rw [HNb.out]), hz.2⟩ : _ = Ending.returned (.int .i64 (nb : Nat)) ∧ _)).mono ?_); rintro e q3 ⟨rfl, hb3⟩; dsimp only)
        have hB3 : Below wo.heap.size wo q3 := (below_drew wo.heap.size wo).trans hb3
        have hz3 := hB3.size
        have K3 := Lib.hid (Keeps.below (P := fun j => True) hB3 (Nat.le_refl _))
        refine hK.out _ _ (HKe.out _ (K3.out.mono (fun _ _ => trivial))) (fun hS9 => ?_)
        clear hK K hS; have hS := hS9; clear hS9; (try dsimp only at hS)
        (try simp only [Act.put, List.setIfInBounds_toArray, List.set_cons_zero, List.set_cons_succ, List.getElem_toArray, List.getElem_cons_succ, List.getElem_cons_zero])
        refine wpAnyH_take (i := 11) (v := ?v11x) rfl (by kernel_rfl) (by kernel_rfl) (by kernel_rfl) (fun _ _ _ h => h) (Or.inl ⟨by rfl, ?hy11x⟩) hS ?rest11x
        case hy11x => (intro w' hSw; (try dsimp only at hSw); go_simp; (try (with_reducible rfl)))
        (try simp only [Act.put, List.setIfInBounds_toArray, List.set_cons_zero, List.set_cons_succ, List.getElem_toArray, List.getElem_cons_succ, List.getElem_cons_zero])
        refine wpAnyH_ready (rs := [12]) (by kernel_rfl) (by simp) ?_
        refine AllReadyH.cons rfl (fun K hK => ?_) AllReadyH.nil
        (try dsimp only [List.getElem_toArray, List.getElem_cons_succ, List.getElem_cons_zero])
        (rw [if_pos (by rfl)]; refine wp_make_full _ _ _ 26 (by rfl) (w6.heap.size + 1) 3 i1 _ 1 Try.underlying26 HQ.out HQ0.out HQ1.out .i64 .i64 _ _ KN (by rfl) (by rfl) (by omega) (by omega) (by rw [HQ2.out]; omega) (by unfold maxLen; omega) (by omega) ?_; intro q4 hown4 hgrow4)
        have hB4 : Below q3.heap.size q3 q4 := Below.grown (Below.refl _ _) hgrow4 (Nat.le_refl _) (fun k hk => by cases hk)
        have hz4 := (hown4.lt q3.heap.size rfl).2
        have hBq : Below wo.heap.size wo q4 := hB3.trans (hB4.mono hz3)
        have K4 := Lib.hid (Keeps.below (P := fun j => True) hBq (Nat.le_refl _))
        have HRow4 := Lib.hid (Ow.of (show q4.ownsRow q3.heap.size 3 1 (.slice (some ⟨q3.heap.size, 0, none⟩) KN KN) KN ((List.replicate KN (0 : Int)).map (Value.int .i64)) by rw [List.map_replicate, ← toList_madeCells_one]; simpa [Value.cells] using (own_reown hown4 (by intro g hg; simp only [Value.ownBlock, Option.some.injEq] at hg; omega))))
        have HSSq := Lib.hid (HSS.out.same (same_below hBq (Nat.le_refl _)))
        refine hK.out _ _ (HKe.out _ (K4.out.mono (fun _ _ => trivial))) (fun hS9 => ?_)
        clear hK K hS; have hS := hS9; clear hS9; (try dsimp only at hS)
        (try simp only [Act.put, List.setIfInBounds_toArray, List.set_cons_zero, List.set_cons_succ, List.getElem_toArray, List.getElem_cons_succ, List.getElem_cons_zero])
        refine wpAnyH_ready (rs := [13]) (by kernel_rfl) (by simp) ?_
        refine AllReadyH.cons rfl (fun K hK => ?_) AllReadyH.nil
        (try dsimp only [List.getElem_toArray, List.getElem_cons_succ, List.getElem_cons_zero])
        go_simp
        refine hK.out _ _ (HKe.out _ ((K4.out.mono (fun _ _ => trivial)).trans (Keeps.alloc _))) (fun hS9 => ?_)
        clear hK K hS; have hS := hS9; clear hS9; (try dsimp only at hS)
        (try simp only [Act.put, List.setIfInBounds_toArray, List.set_cons_zero, List.set_cons_succ, List.getElem_toArray, List.getElem_cons_succ, List.getElem_cons_zero])
        refine wpAnyH_ready (rs := [14]) (by kernel_rfl) (by simp) ?_
        refine AllReadyH.cons rfl (fun K hK => ?_) AllReadyH.nil
        (try dsimp only [List.getElem_toArray, List.getElem_cons_succ, List.getElem_cons_zero])
        (rw [if_pos (by rfl)]; refine wp_append_lies _ _ _ _ (by rfl) (w6.heap.size + 1) 26 i5 _ 1 24 Try.underlying27 HN.out HN0.out HN1.out HN2.out rfl (by omega) _ i (gs.map hdV) (by rfl) (HSSq.out.hd.own.alloc _) ⟨q4.heap.size, 0, none⟩ 1 1 [.slice (some ⟨q3.heap.size, 0, none⟩) KN KN] (by rfl) (by rfl) (World.news_of_block (cs := #[.slice (some ⟨q3.heap.size, 0, none⟩) KN KN]) (t := 26) (fr := (0, 0)) (heap_alloc_new q4 _)) (by simp [Value.oneCell']) (by omega) (by simp only [maxLen]; omega) (by omega) (by simp only [World.size_alloc]; omega) (q4.heap.size + 1) (by first | rfl | simp) ?_; intro g7 cap7 u6 hown7 hgrow7 hat7 hlt7)
        refine hK.out _ _ (HKe.out _ (((K4.out.mono (fun _ _ => trivial)).trans (Keeps.alloc _)).trans (Keeps.grown hgrow7 (fun j hj e => by have := HRow.out j e; omega)))) (fun hS9 => ?_)
        clear hK K hS; have hS := hS9; clear hS9; (try dsimp only at hS)
        (try simp only [Act.put, List.setIfInBounds_toArray, List.set_cons_zero, List.set_cons_succ, List.getElem_toArray, List.getElem_cons_succ, List.getElem_cons_zero])
        refine wpAnyH_take (i := 15) (v := ?v12x) rfl (by kernel_rfl) (by kernel_rfl) (by kernel_rfl) (fun _ _ _ h => h) (Or.inl ⟨by rfl, ?hy12x⟩) hS ?rest12x
        case hy12x => (intro w' hSw; (try dsimp only at hSw); go_simp; (try (with_reducible rfl)))
        (try simp only [Act.put, List.setIfInBounds_toArray, List.set_cons_zero, List.set_cons_succ, List.getElem_toArray, List.getElem_cons_succ, List.getElem_cons_zero])
        refine wpAnyH_done (by kernel_rfl) ?_ _
        refine fun K hK => ?_
        go_simp
        refine hK.out _ _ ?_
        clear hK K
        have hpush := HSSq.out.same (same_alloc (.cells #[.slice (some ⟨q3.heap.size, 0, none⟩) KN KN] 26) hBq.size)
        have HP9 := (hpush.push (x := (some ⟨q3.heap.size, 0, none⟩, KN, KN)) (HRow4.out.same (same_alloc (.cells #[.slice (some ⟨q3.heap.size, 0, none⟩) KN KN] 26) (Nat.le_refl _))) (by omega) (by omega) (by omega) (by rw [World.size_alloc]; exact Nat.le_succ _) (by first | exact hown7 | simpa [hdV] using hown7) hgrow7 (hat7.imp id (fun e => by rw [World.size_alloc]; omega)))
        have hB6 : Below (w6.heap.size + 1) wo u6 := (hBq.mono (by omega)).trans (((below_alloc1 _).mono (by omega)).trans (below_of_grown hgrow7 (by rw [World.size_alloc]; omega) (fun j hj => HRow.out j hj)))
        have hK6 : Keeps (fun j => j ≤ w6.heap.size) wo u6 := ⟨hB6.size, fun j hj hl => hB6.block j (by omega)⟩
        have hu6 := HBx.out.keep hK6 (Nat.le_refl _)
        have hx7 : Bx (u6.setCell ⟨w6.heap.size, 1, none⟩ (.slice (some ⟨g7, 0, none⟩) (i + 1) cap7)) w6.heap.size 35 #[.slice (some ⟨w5.heap.size, 0, none⟩) sm sm, .slice (some ⟨g7, 0, none⟩) (i + 1) cap7] := hu6.set_ 1 (.slice (some ⟨g7, 0, none⟩) (i + 1) cap7)
        have HBx9 := Lib.hid hx7
        have HK9 := Lib.hid ((hK6.mono (Q := fun j => j < w6.heap.size) (fun j hj => by omega)).trans (Keeps.set (b := w6.heap.size) (i := 1) (u := .slice (some ⟨g7, 0, none⟩) (i + 1) cap7) (by simp)))
        have HSb9 := Lib.hid (HSb.out.keep HK9.out (by omega)); have HRr9 := Lib.hid (HRr.out.keep HK9.out (by omega))
        have HTot9 := Lib.hid (HTot.out.same (w' := u6.setCell ⟨w6.heap.size, 1, none⟩ (.slice (some ⟨g7, 0, none⟩) (i + 1) cap7)) (fun j h1 h2 => HK9.out.block j h2 (by omega)))
        have HB9 : Hid (Below w.heap.size w (u6.setCell ⟨w6.heap.size, 1, none⟩ (.slice (some ⟨g7, 0, none⟩) (i + 1) cap7))) := (HB.out.trans (hB6.mono (by omega))).setCell (p := ⟨w6.heap.size, 1, none⟩) (show w.heap.size ≤ w6.heap.size by omega) _
        have HSS9 : Hid (OwSS (w6.heap.size + 1) (u6.setCell ⟨w6.heap.size, 1, none⟩ (.slice (some ⟨g7, 0, none⟩) (i + 1) cap7)).heap.size (u6.setCell ⟨w6.heap.size, 1, none⟩ (.slice (some ⟨g7, 0, none⟩) (i + 1) cap7)) (some ⟨g7, 0, none⟩) (i + 1) cap7 (gs ++ [(some ⟨q3.heap.size, 0, none⟩, KN, KN)]) (iss (xss ++ [List.replicate KN 0]))) := by
          have e1 : iss (xss ++ [List.replicate KN 0]) = iss xss ++ [(List.replicate KN (0 : Int)).map (Value.int .i64)] := by unfold iss; rw [List.map_append]; rfl
          unfold Hid
          rw [World.size_setCell, e1]
          exact HP9.same (same_set (by omega))
        have HX9 : Hid (∀ xs ∈ xss ++ [List.replicate KN 0], xs.length ≤ 64) := fun xs hxs => by
          rcases List.mem_append.1 hxs with e | e
          · exact HX64.out xs e
          · obtain rfl : xs = List.replicate KN 0 := by simpa using e
            rw [List.length_replicate]; exact hK64
        have HXl9 : Hid ((xss ++ [List.replicate KN 0]).length = i + 1) := by unfold Hid; rw [List.length_append, HXl.out]; rfl
        clear hown7 hgrow7 hat7 hpush HP9 hB6 hK6 hu6 hx7 hown4 hgrow4 hB4 hBq hB3 hb3 hmul hw1 d0 d1_ d2_
        go_wp2_with fail
        go_roundw
        case rel => exact ⟨i + 1, some ⟨g7, 0, none⟩, cap7, _, _, by omega, by go_num, HXl9.out, HX9.out, HSb9.out, HRr9.out, HBx9.out, HTot9.out, HSS9.out, HB9.out⟩
        case measure => simp [intOf]; omega
      · obtain rfl : i = sn := by omega
        have p0 : wo.cell? ⟨w.heap.size, 0, none⟩ = some (.slice S1 i sc) := HSb.out.cells 0; have pf0 := HSb.out.free 0
        have p1 : wo.cell? ⟨w.heap.size, 1, none⟩ = some (.slice S2 sm sd) := HSb.out.cells 1; have pf1 := HSb.out.free 1
        have q0 : wo.cell? ⟨w6.heap.size, 0, none⟩ = some (.slice (some ⟨w5.heap.size, 0, none⟩) sm sm) := HBx.out.cells 0; have qf0 := HBx.out.free 0
        have q1 : wo.cell? ⟨w6.heap.size, 1, none⟩ = some (.slice X1 i d1) := HBx.out.cells 1; have qf1 := HBx.out.free 1
        have HKf := Lib.hid (keeps_step (set1_keeps wo (w.heap.size + 1) 0 (.slice (some ⟨w5.heap.size, 0, none⟩) sm sm)) 1 (.slice X1 i d1))
        have r0 : wo.cell? ⟨w.heap.size + 1, 0, none⟩ = some (.slice none 0 0) := HRr.out.cells 0
        have r1 : wo.cell? ⟨w.heap.size + 1, 1, none⟩ = some (.slice none 0 0) := HRr.out.cells 1
        have rf0 := HRr.out.free 0; have rf1 := HRr.out.free 1
        have hfin : ∀ w9, w9 = (wo.setCell ⟨(w.heap.size + 1), 0, none⟩ (.slice (some ⟨w5.heap.size, 0, none⟩) sm sm)).setCell ⟨(w.heap.size + 1), 1, none⟩ (.slice X1 i d1) → OwSta w.heap.size w9.heap.size w9 (some ⟨w5.heap.size, 0, none⟩) X1 sm sm i d1 w6.heap.size gs (List.replicate sm 0) xss ∧ Below w.heap.size w w9 := by
          intro w9 h9
          subst h9
          exact ⟨⟨(HTot.out.same (fun j h1 h2 => HKf.out.1.block j (by omega) (by omega))).wide (by omega) (Nat.le_refl _), by rw [World.size_setCell, World.size_setCell]; exact (HSS.out.same (fun j h1 h2 => HKf.out.1.block j (by omega) h2)).wide (Nat.le_succ _) (Nat.le_refl _), ⟨by omega, by simp only [World.size_setCell]; omega⟩⟩, HB.out.trans (HKf.out.2.mono (by omega))⟩
        have HFin := Lib.hid hfin
        clear hfin
        go_wp2_with ((with_reducible refine bodyPost_ret (v := .agg #[.slice (some ⟨w5.heap.size, 0, none⟩) sm sm, .slice X1 i d1]) ?k1 ?k2 ?k3); (case k1 => (simp [results, Try.results118, go_sem, r0, r1, rf0, rf1])); (case k2 => rfl); (case k3 => (exact ⟨some ⟨w5.heap.size, 0, none⟩, sm, sm, X1, i, d1, w6.heap.size, gs, List.replicate sm 0, xss, rfl, ⟨hsm, hsn, HX64.out⟩, (HFin.out _ rfl).1, (HFin.out _ rfl).2⟩)))

/-- Totals alone. -/
structure TotF (P : Nat → Prop) (w : World) (T : Option Addr) (q : Nat) (ts : List Int) : Prop where
  rd : Rdf P w T q (ts.map (Value.int .i64))
  hq : q ≤ 16

set_option maxRecDepth 20000 in
set_option maxHeartbeats 8000000 in
theorem sThin_any (w : World) (T X : Option Addr) (q qc p pc : Nat) (ts : List Int) {P : Nat → Prop} (s : TotF P w T q ts) :
    Calls Try.prog 119 #[.agg #[.slice T q qc, .slice X p pc]] w (NewR w) := by
  have HS := Lib.hid s.rd
  obtain ⟨i1, hi0, hz0, hz1, hz2⟩ := info_parts info_int
  have HQ := Lib.hid hi0; have HQ0 := Lib.hid hz0; have HQ1 := Lib.hid hz1; have HQ2 := Lib.hid hz2
  clear hi0 hz0 hz1 hz2
  have B0 := Below.refl w.heap.size w
  have s0 : w.heap.size ≤ w.heap.size := Nat.le_refl _
  go_enter Try.func119, Try.ntmps119
  have t_2 : Bx (w.alloc (.cells #[.slice T q qc, .slice X p pc] 35)) (w.heap.size) 35 #[.slice T q qc, .slice X p pc] := Bx.new _ _ _
  have B_2 := B0.alloc s0 (.cells #[.slice T q qc, .slice X p pc] 35)
  clear B0
  have ct_3 := t_2.cells
  have ft_3 := t_2.free
  clear ct_3 ft_3
  have t_4 := t_2.same (same_alloc (.cells #[.slice none 0 0, .slice none 0 0] 35) (by simp only [World.size_alloc]; omega))
  clear t_2
  have r_5 : Bx ((w.alloc (.cells #[.slice T q qc, .slice X p pc] 35)).alloc (.cells #[.slice none 0 0, .slice none 0 0] 35)) (w.heap.size + 1) 35 #[.slice none 0 0, .slice none 0 0] := by
    have h := Bx.new (w.alloc (.cells #[.slice T q qc, .slice X p pc] 35)) 35 #[.slice none 0 0, .slice none 0 0]
    simpa only [World.size_alloc] using h
  have B_5 := B_2.alloc (by simp only [World.size_alloc]; omega) (.cells #[.slice none 0 0, .slice none 0 0] 35)
  clear B_2
  have ct_6 := t_4.cells
  have ft_6 := t_4.free
  have cr_7 := r_5.cells
  have fr_7 := r_5.free
  go_upto_region 1 with fail
  clear ct_6 ft_6
  clear cr_7 fr_7
  obtain ⟨v8, hv8⟩ : ∃ v8, v8 = ((w.alloc (.cells #[.slice T q qc, .slice X p pc] 35)).alloc (.cells #[.slice none 0 0, .slice none 0 0] 35)) := ⟨_, rfl⟩
  have zv8 : w.heap.size + 1 + 1 ≤ v8.heap.size := by rw [hv8]; simp
  rw [← hv8] at t_4 r_5 B_5 ⊢
  clear hv8
  have HTb := Lib.hid t_4; have HRr0 := Lib.hid r_5; have HB0 := Lib.hid B_5
  clear t_4 r_5 B_5
  have HE : Hid ((v8.alloc (.cells #[] 3)).ownsRow v8.heap.size 3 1 (.slice (some ⟨v8.heap.size, 0, none⟩) 0 0) 0 []) := World.ownsRow_lit (base := v8.heap.size) (e := 3) (size := 1) v8 #[] 0 (Nat.le_refl _) (by simp [maxLen]) rfl
  have HBE : Hid (Below v8.heap.size v8 (v8.alloc (.cells #[] 3))) := (Below.refl _ _).alloc (Nat.le_refl _) _
  have HRE := Lib.hid ((HS.out.keep (Keeps.below HB0.out (Nat.le_refl _))).keep (Keeps.alloc (.cells #[] 3)))
  have hq16 := s.hq
  have lt := HTb.out.lt
  have p0 : v8.cell? ⟨w.heap.size, 0, none⟩ = some (.slice T q qc) := HTb.out.cells 0; have pf0 := HTb.out.free 0
  have p1 : v8.cell? ⟨w.heap.size, 1, none⟩ = some (.slice X p pc) := HTb.out.cells 1; have pf1 := HTb.out.free 1
  have q0 : (v8.alloc (.cells #[] 3)).cell? ⟨w.heap.size, 0, none⟩ = some (.slice T q qc) := (World.cell?_alloc_lt _ _ _ (by show w.heap.size < _; omega)).trans p0
  go_wp2_with (at_builtin; refine wpList_append_rd rfl _ _ 26 rfl v8.heap.size 3 i1 _ 8 Try.underlying26 HQ.out HQ0.out HQ1.out HQ2.out rfl v8.heap.size rfl HE.out T q qc (ts.map (Value.int .i64)) rfl HRE.out.rd (i64_one ts) (by unfold maxLen; omega) (by omega) (by simp only [World.size_alloc]; omega) ?_)
  intro A1 c1 u1 hown1 hgrow1
  have hzg := hgrow1.size
  simp only [World.size_alloc] at hzg
  have hb1 : Below (w.heap.size + 1 + 1) v8 u1 := Below.grown (HBE.out.mono (by omega)) hgrow1 (by simp only [World.size_alloc]; omega) (fun kk hk => by injection hk with hk; omega)
  have HRr := Lib.hid (HRr0.out.same (same_below hb1 (by omega)))
  have HB1 : Hid (Below w.heap.size w u1) := HB0.out.trans (hb1.mono (by omega))
  have HO1 := Lib.hid (Ow.of hown1)
  clear hown1 hgrow1 hb1 q0
  have HKf := Lib.hid (keeps_step (set1_keeps u1 (w.heap.size + 1) 0 (.slice A1 q c1)) 1 (.slice none 0 0))
  have r0 : u1.cell? ⟨w.heap.size + 1, 0, none⟩ = some (.slice none 0 0) := HRr.out.cells 0
  have r1 : u1.cell? ⟨w.heap.size + 1, 1, none⟩ = some (.slice none 0 0) := HRr.out.cells 1
  have rf0 := HRr.out.free 0; have rf1 := HRr.out.free 1
  have hfin : ∀ w9, w9 = (u1.setCell ⟨(w.heap.size + 1), 0, none⟩ (.slice A1 q c1)).setCell ⟨(w.heap.size + 1), 1, none⟩ (.slice none 0 0) → OwSta w.heap.size w9.heap.size w9 A1 none q c1 0 0 w9.heap.size [] ts [] ∧ Below w.heap.size w w9 := by
    intro w9 h9
    subst h9
    exact ⟨⟨by simp only [World.size_setCell]; exact (HO1.out.same (fun j h1 h2 => HKf.out.1.block j (by omega) h2)).wide (by omega) (Nat.le_refl _), OwSS.nil _ _ _, ⟨by simp only [World.size_setCell]; omega, Nat.le_refl _⟩⟩, HB1.out.trans (HKf.out.2.mono (by omega))⟩
  have HFin := Lib.hid hfin
  clear hfin
  go_wp2_with ((with_reducible refine bodyPost_ret (v := .agg #[.slice A1 q c1, .slice none 0 0]) ?k1 ?k2 ?k3); (case k1 => (simp [results, Try.results119, go_sem, r0, r1, rf0, rf1])); (case k2 => rfl); (case k3 => (exact ⟨A1, q, c1, none, 0, 0, _, [], ts, [], rfl, ⟨hq16, by omega, by simp⟩, (HFin.out _ rfl).1, (HFin.out _ rfl).2⟩)))

end Go.Proofs.Ytchkmcikpamdeaa
