/-
  The draws of a fork.
-/
import Derived.Test.YtchkmcikpamdeaaDraw5D
import Derived.Test.YtchkmcikpamdeaaFork
import Derived.Deep.CutBlock
namespace Go.Proofs.Ytchkmcikpamdeaa
open Go.RowKit
set_option linter.unusedSimpArgs false
set_option linter.unusedVariables false

theorem info_Fork9 : (Try.prog.info? 55).map (fun i => (i.zero, i.size, i.bytes)) = some (some (.agg #[.int .i64 0, .int .i64 0]), 2, 16) := by kernel_rfl
def fks (bs : List (Int × Int)) : List Value := bs.flatMap fun b => [.int .i64 b.1, .int .i64 b.2]
theorem fks_snoc (fs : List (Int × Int)) (a b : Int) : fks (fs ++ [(a, b)]) = fks fs ++ [.int .i64 a, .int .i64 b] := by simp [fks]
theorem fks_get : ∀ {fs : List (Int × Int)} {k : Nat} {a b : Int}, fs[k]? = some (a, b) → (fks fs)[k * 2]? = some (.int .i64 a) ∧ (fks fs)[k * 2 + 1]? = some (.int .i64 b)
  | [], _, _, _, h => by simp at h
  | p :: fs, 0, a, b, h => by
    simp only [List.getElem?_cons_zero, Option.some.injEq] at h
    subst h; exact ⟨rfl, rfl⟩
  | p :: fs, k + 1, a, b, h => by
    have h1 := fks_get (fs := fs) (k := k) (by simpa using h)
    have e : (k + 1) * 2 = k * 2 + 2 := by omega
    rw [e]
    exact h1
/-- What a draw of a fork may answer. -/
def ForkR (g : Nat) (A : Option Addr) (n c : Nat) (bs : List Int) (w : World) (e : Ending) (w' : World) : Prop :=
  ∃ fa ft : Int, e = .returned (.agg #[.int .i64 fa, .int .i64 ft]) ∧ Cur w' g A n c bs ∧ Only g (g + 1) w w'
set_option maxRecDepth 20000 in
set_option maxHeartbeats 8000000 in
theorem l9Right_any (g : Nat) (A : Option Addr) (n c : Nat) (bs : List Int) (w : World) (hu : ∀ z ∈ bs, 0 ≤ z ∧ z ≤ 255) (hn : n ≤ 1073741824) (h : Cur w g A n c bs) (S1 S2 : Option Addr) (sn sc sm sd : Nat) (hs : List AH) (ats : List AD) (cs : List ByteArray) (s : SchF (· ≠ g) w S1 S2 sn sm sd hs ats cs) :
    Calls Try.prog 102 #[.pointer (some ⟨g, 0, none⟩), .agg #[.slice S1 sn sc, .slice S2 sm sd]] w (ForkR g A n c bs w) := by
  have HC := Lib.hid h
  have HU := Lib.hid hu
  have HS := Lib.hid s
  have hgw := h.lt
  obtain ⟨i4, hi0, hz0, hz1, hz2⟩ := info_parts info_Fork9
  have HF := Lib.hid hi0; have HF0 := Lib.hid hz0; have HF1 := Lib.hid hz1; have HF2 := Lib.hid hz2
  clear hi0 hz0 hz1 hz2
  clear h hu
  have B0 := Below.refl w.heap.size w
  have s0 : w.heap.size ≤ w.heap.size := Nat.le_refl _
  go_enter Try.func102, Try.ntmps102
  have s_2 : Bx (w.alloc (.cells #[.slice S1 sn sc, .slice S2 sm sd] 40)) (w.heap.size) 40 #[.slice S1 sn sc, .slice S2 sm sd] := Bx.new _ _ _
  have B_2 := B0.alloc s0 (.cells #[.slice S1 sn sc, .slice S2 sm sd] 40)
  clear B0
  have cs_3 := s_2.cells
  have fs_3 := s_2.free
  clear cs_3 fs_3
  have s_4 := s_2.same (same_alloc (.cells #[.int .i64 0, .int .i64 0] 55) (by simp only [World.size_alloc]; omega))
  clear s_2
  have r_5 : Bx ((w.alloc (.cells #[.slice S1 sn sc, .slice S2 sm sd] 40)).alloc (.cells #[.int .i64 0, .int .i64 0] 55)) (w.heap.size + 1) 55 #[.int .i64 0, .int .i64 0] := by
    have h := Bx.new (w.alloc (.cells #[.slice S1 sn sc, .slice S2 sm sd] 40)) 55 #[.int .i64 0, .int .i64 0]
    simpa only [World.size_alloc] using h
  have B_5 := B_2.alloc (by simp only [World.size_alloc]; omega) (.cells #[.int .i64 0, .int .i64 0] 55)
  clear B_2
  have cs_6 := s_4.cells
  have fs_6 := s_4.free
  have cr_7 := r_5.cells
  have fr_7 := r_5.free
  clear cs_6 fs_6
  clear cr_7 fr_7
  have s_8 := s_4.same (same_alloc (.cells #[] 55) (by simp only [World.size_alloc]; omega))
  clear s_4
  have r_8 := r_5.same (same_alloc (.cells #[] 55) (by simp only [World.size_alloc]; omega))
  clear r_5
  have lit_9 : Bx (((w.alloc (.cells #[.slice S1 sn sc, .slice S2 sm sd] 40)).alloc (.cells #[.int .i64 0, .int .i64 0] 55)).alloc (.cells #[] 55)) (w.heap.size + 1 + 1) 55 #[] := by
    have h := Bx.new ((w.alloc (.cells #[.slice S1 sn sc, .slice S2 sm sd] 40)).alloc (.cells #[.int .i64 0, .int .i64 0] 55)) 55 #[]
    simpa only [World.size_alloc] using h
  have B_9 := B_5.alloc (by simp only [World.size_alloc]; omega) (.cells #[] 55)
  clear B_5
  have cs_10 := s_8.cells
  have fs_10 := s_8.free
  have cr_11 := r_8.cells
  have fr_11 := r_8.free
  have clit_12 := lit_9.cells
  have flit_12 := lit_9.free
  go_wp2_with fail
  clear cs_10 fs_10
  clear cr_11 fr_11
  clear clit_12 flit_12
  obtain ⟨v13, hv13⟩ : ∃ v13, v13 = (((w.alloc (.cells #[.slice S1 sn sc, .slice S2 sm sd] 40)).alloc (.cells #[.int .i64 0, .int .i64 0] 55)).alloc (.cells #[] 55)) := ⟨_, rfl⟩
  have zv13 : w.heap.size + 1 + 1 + 1 ≤ v13.heap.size := by rw [hv13]; simp
  rw [← hv13] at s_8 r_8 lit_9 B_9 ⊢
  clear hv13
  have HSb0 := Lib.hid s_8; have HRr0 := Lib.hid r_8
  have HL0 : Hid (v13.ownsRow (w.heap.size + 1 + 1) 55 2 (.slice (some ⟨(w.heap.size + 1 + 1), 0, none⟩) 0 0) 0 (fks [])) := ⟨rfl, .inr ⟨(w.heap.size + 1 + 1), 0, _, rfl, Nat.le_refl _, lit_9, Nat.le_refl _, by simp [maxLen], rfl, rfl⟩⟩
  have HCv := Lib.hid (HC.out.below B_9 (Nat.le_refl _))
  have HOv : Hid (Only g (g + 1) w v13) := Only.of_below B_9 (Nat.le_refl _)
  clear s_8 r_8 lit_9 B_9
  go_loopw [5, 6] (fun s5 s6 wr => ∃ (i : Nat) (A1 : Option Addr) (c1 : Nat) (fs : List (Int × Int)), i ≤ sn ∧ s6 = .int .i64 i ∧ s5 = .slice A1 fs.length c1 ∧ fs.length ≤ 5 * i ∧ Bx wr w.heap.size 40 #[.slice S1 sn sc, .slice S2 sm sd] ∧ Bx wr (w.heap.size + 1) 55 #[.int .i64 0, .int .i64 0] ∧ wr.ownsRow (w.heap.size + 1 + 1) 55 2 (.slice A1 (fs.length) c1) (fs.length) (fks fs) ∧ Cur wr g A n c bs ∧ Only g (g + 1) w wr) (fun _ s6 _ => sn - (intOf s6).toNat)
  case atStart => exact ⟨0, _, _, [], Nat.zero_le _, rfl, rfl, Nat.le_refl _, HSb0.out, HRr0.out, HL0.out, HCv.out, HOv.out⟩
  case round =>
    obtain ⟨i, A1, c1, fs, hi, rfl, rfl, hfl, hsb, hrr, hown, hc, ho⟩ := hrel
    obtain ⟨wo, rfl⟩ : ∃ wo : World, wo = wr := ⟨_, rfl⟩
    have hsz := ho.size
    have hlb := hrr.lt
    have HSb := Lib.hid hsb; have HRr := Lib.hid hrr; have HOwn := Lib.hid hown; have HCo := Lib.hid hc; have HOo := Lib.hid ho
    clear hsb hrr hown hc ho HSb0 HRr0 HL0 HCv HOv
    have p0 : wo.cell? ⟨w.heap.size, 0, none⟩ = some (.slice S1 sn sc) := HSb.out.cells 0; have pf0 := HSb.out.free 0
    have p1 : wo.cell? ⟨w.heap.size, 1, none⟩ = some (.slice S2 sm sd) := HSb.out.cells 1; have pf1 := HSb.out.free 1
    have hs16 : sn ≤ 16 := s.hn
    by_cases hlt : i < sn
    · have hlti : (i : Int) < (sn : Int) := by omega
      go_wp2_with fail
      clear p0 p1 pf0 pf1
      go_loopw [5, 7] (fun s5 s7 wr => ∃ (at_ : Int) (A1 : Option Addr) (c1 : Nat) (fs : List (Int × Int)), (-1 ≤ at_ ∧ at_ ≤ 4) ∧ s7 = .int .i64 at_ ∧ s5 = .slice A1 fs.length c1 ∧ (fs.length : Int) ≤ 5 * i + at_ + 1 ∧ Bx wr w.heap.size 40 #[.slice S1 sn sc, .slice S2 sm sd] ∧ Bx wr (w.heap.size + 1) 55 #[.int .i64 0, .int .i64 0] ∧ wr.ownsRow (w.heap.size + 1 + 1) 55 2 (.slice A1 (fs.length) c1) (fs.length) (fks fs) ∧ Cur wr g A n c bs ∧ Only g (g + 1) w wr) (fun _ s7 _ => (4 - intOf s7).toNat)
      case atStart => exact ⟨-1, A1, c1, fs, by omega, rfl, rfl, by omega, HSb.out, HRr.out, HOwn.out, HCo.out, HOo.out⟩
      case round =>
        clear hfl
        obtain ⟨at_, A1, c1, fs, hat, rfl, rfl, hfl, hsb, hrr, hown, hc, ho⟩ := hrel
        obtain ⟨w4, rfl⟩ : ∃ w4 : World, w4 = wr := ⟨_, rfl⟩
        have hsz4 := ho.size
        have hlb4 := hrr.lt
        have HSb4 := Lib.hid hsb; have HRr4 := Lib.hid hrr; have HOwn4 := Lib.hid hown; have HC4 := Lib.hid hc; have HO4 := Lib.hid ho
        clear hsb hrr hown hc ho HSb HRr HOwn HCo HOo
        by_cases hl4 : at_ < 4
        · have K5 := Keeps.alloc (P := fun j => True) (w := w4) (.cells #[.int .i64 (i : Nat), .int .i64 at_] 55)
          have HSb5 := HSb4.out.keep K5 trivial
          have p0 : (w4.alloc (.cells #[.int .i64 (i : Nat), .int .i64 at_] 55)).cell? ⟨w.heap.size, 0, none⟩ = some (.slice S1 sn sc) := HSb5.cells 0; have pf0 := HSb5.free 0
          have p1 : (w4.alloc (.cells #[.int .i64 (i : Nat), .int .i64 at_] 55)).cell? ⟨w.heap.size, 1, none⟩ = some (.slice S2 sm sd) := HSb5.cells 1; have pf1 := HSb5.free 1
          have HSF5 := Lib.hid (((HS.out.keep (Keeps.only HO4.out (fun j hj => by omega))).keep (K5.mono (fun _ _ => trivial))).sch)
          clear K5
          obtain ⟨y, hy⟩ : ∃ y, forkB ats cs (i : Nat) at_ = y := ⟨_, rfl⟩
          have HY := Lib.hid hy
          clear hy
          go_wp2_with fail
          clear p0 p1 pf0 pf1
          refine (sForkOk_any S1 S2 sn sc sm sd hs ats cs (i : Nat) at_ _ HSF5.out).mono ?_
          rw [HY.out]
          rintro e v6 ⟨rfl, hb⟩
          have s6 := hb.size
          rw [World.size_alloc] at s6 hb
          have hB6 : Below w4.heap.size w4 v6 := (below_alloc1 _).trans (hb.mono (Nat.le_succ _))
          have K6 : Keeps (fun j => True) w4 v6 := Keeps.below hB6 (Nat.le_refl _)
          have HFb : Hid (Bx v6 w4.heap.size 55 #[.int .i64 (i : Nat), .int .i64 at_]) := (Bx.new w4 _ _).same (same_below hb (Nat.le_refl _))
          have HSb6 := Lib.hid (HSb4.out.keep K6 trivial); have HRr6 := Lib.hid (HRr4.out.keep K6 trivial); have HOwn6 := Lib.hid (own_keep HOwn4.out K6 (fun _ _ _ => trivial))
          have HC6 := Lib.hid (HC4.out.below hB6 (Nat.le_refl _)); have HO6 := Lib.hid (HO4.out.below_ hB6 (by omega))
          clear hb hB6 K6 HSb4 HRr4 HOwn4 HC4 HO4 HSF5 HSb5
          cases y
          · go_wp2_with fail
            go_roundw
            case rel => exact ⟨at_ + 1, A1, c1, fs, by omega, by go_num, rfl, by omega, HSb6.out, HRr6.out, HOwn6.out, HC6.out, HO6.out⟩
            case measure => simp [intOf]; omega
          · have q0 : v6.cell? ⟨w4.heap.size, 0, none⟩ = some (.int .i64 (i : Nat)) := HFb.out.cells 0
            have q1 : v6.cell? ⟨w4.heap.size, 1, none⟩ = some (.int .i64 at_) := HFb.out.cells 1
            have hf16 : fs.length ≤ 100 := by have := s.hn; omega
            go_wp2_with (at_builtin; refine wpList_append_lies _ rfl _ _ 128 rfl (w.heap.size + 1 + 1) 55 i4 _ 2 16 Try.underlying128 HF.out HF0.out HF1.out HF2.out rfl (by decide) (.slice A1 fs.length c1) fs.length (fks fs) rfl (HOwn6.out.alloc _) ⟨v6.heap.size, 0, none⟩ 1 1 [.int .i64 (i : Nat), .int .i64 at_] rfl rfl (World.news_of_block (cs := #[.int .i64 (i : Nat), .int .i64 at_]) (t := 55) (fr := (0, 0)) (heap_alloc_new v6 _)) ?c2 (by omega) ?c3 ?c4 ?c5 _ rfl ?_)
            case c2 => intro u hu; simp at hu; rcases hu with rfl | rfl <;> rfl
            case c3 => unfold maxLen; omega
            case c4 => omega
            case c5 => simp only [World.size_alloc]; omega
            intro g7 cap7 u6 hown7 hgrow7 hat7 hlt7
            have hg7 : v6.grownBy u6 (Value.slice A1 fs.length c1).ownBlock := (grown_alloc _ _).trans hgrow7
            have hrow : ∀ j, (Value.slice A1 fs.length c1).ownBlock = some j → (w.heap.size + 1 + 1) ≤ j := fun j hj => (HOwn6.out.lt j hj).1
            have K7 := Keeps.grown hg7 (P := fun j => j < (w.heap.size + 1 + 1)) (fun j hj e => by have := hrow j e; omega)
            have hB7 : Below (w.heap.size + 1 + 1) v6 u6 := below_of_grown hg7 (by omega) hrow
            have HSb7 := Lib.hid (HSb6.out.keep K7 (by omega)); have HRr7 := Lib.hid (HRr6.out.keep K7 (by omega))
            have HC7 := Lib.hid (HC6.out.below2 hB7 (by omega)); have HO7 := Lib.hid (HO6.out.below_ hB7 (by omega))
            have HOwn7 : Hid (u6.ownsRow (w.heap.size + 1 + 1) 55 2 (.slice (some ⟨g7, 0, none⟩) (fs ++ [(((i : Nat) : Int), at_)]).length cap7) (fs ++ [(((i : Nat) : Int), at_)]).length (fks (fs ++ [(((i : Nat) : Int), at_)]))) := by
              unfold Hid
              rw [List.length_append, List.length_singleton, fks_snoc]
              exact hown7
            clear hown7 hgrow7 hat7 hg7 hrow K7 hB7 q0 q1
            go_wp2_with fail
            go_roundw
            case rel => exact ⟨at_ + 1, some ⟨g7, 0, none⟩, cap7, fs ++ [(((i : Nat) : Int), at_)], by omega, by go_num, by rw [List.length_append]; rfl, by rw [List.length_append, List.length_singleton]; push_cast; omega, HSb7.out, HRr7.out, HOwn7.out, HC7.out, HO7.out⟩
            case measure => simp [intOf]; omega
        · have e4 : at_ = 4 := by omega
          have hfl2 : fs.length ≤ 5 * (i + 1) := by omega
          go_wp2_with fail
          go_roundw
          case rel => exact ⟨i + 1, A1, c1, fs, by omega, by go_num, rfl, hfl2, HSb4.out, HRr4.out, HOwn4.out, HC4.out, HO4.out⟩
          case measure => simp [intOf]; omega
    · have hlti : ¬ (i : Int) < (sn : Int) := by omega
      by_cases h0 : fs.length = 0
      · have h0i : ((fs.length : Nat) : Int) = 0 := by omega
        have HRf := Lib.hid (keeps_step (set1_keeps wo (w.heap.size + 1) 0 (.int .i64 0)) 1 (.int .i64 0))
        have r0 : wo.cell? ⟨w.heap.size + 1, 0, none⟩ = some (.int .i64 0) := HRr.out.cells 0
        have r1 : wo.cell? ⟨w.heap.size + 1, 1, none⟩ = some (.int .i64 0) := HRr.out.cells 1
        have rf0 := HRr.out.free 0; have rf1 := HRr.out.free 1
        have hfin : ∀ w9, w9 = (wo.setCell ⟨(w.heap.size + 1), 0, none⟩ (.int .i64 0)).setCell ⟨(w.heap.size + 1), 1, none⟩ (.int .i64 0) → Cur w9 g A n c bs ∧ Only g (g + 1) w w9 := by
          intro w9 h9
          subst h9
          exact ⟨HCo.out.below2 HRf.out.2 (by omega), HOo.out.below_ HRf.out.2 (by omega)⟩
        have HFin := Lib.hid hfin
        clear hfin
        go_wp2_with ((with_reducible refine bodyPost_ret (v := .agg #[.int .i64 0, .int .i64 0]) ?k1 ?k2 ?k3); (case k1 => (simp [results, Try.results102, go_sem, r0, r1, rf0, rf1])); (case k2 => rfl); (case k3 => (exact ⟨0, 0, rfl, (HFin.out _ rfl).1, (HFin.out _ rfl).2⟩)))
      · have h0i : ¬ ((fs.length : Nat) : Int) = 0 := by omega
        have h0p : 0 < fs.length := by omega
        obtain ⟨fg, fc, hAA, hfg1, hfg2, hfc1, hfc2⟩ := own_form HOwn.out h0p
        simp only [Value.slice.injEq] at hAA
        obtain ⟨rfl, _, rfl⟩ := hAA
        go_wp2_with fail
        refine (l1Below_any g A n c bs (fs.length : Nat) _ HU.out hn HCo.out).mono ?_
        rintro e v5 ⟨x, rfl, ⟨x0, x1, _⟩, hc1, ho1⟩
        have x2 := x1 (by omega)
        obtain ⟨X, rfl⟩ := Int.eq_ofNat_of_zero_le x0
        have hX : X < fs.length := by omega
        have K2 := keeps_cur ho1
        have hown5 := own_keep HOwn.out K2 (fun j hj _ => by omega)
        obtain ⟨fa, ft, hf⟩ : ∃ fa ft : Int, fs[X]? = some (fa, ft) := ⟨_, _, List.getElem?_eq_getElem hX⟩
        have k0 : v5.cell? ⟨fg, X * 2, none⟩ = some (.int .i64 fa) := by rw [hown5.cellAt (X * 2) (by omega)]; exact (fks_get hf).1
        have k1 : v5.cell? ⟨fg, X * 2 + 1, none⟩ = some (.int .i64 ft) := by rw [hown5.cellAt (X * 2 + 1) (by omega)]; exact (fks_get hf).2
        have HRr5 := Lib.hid (HRr.out.keep K2 (by omega))
        have r0 : v5.cell? ⟨w.heap.size + 1, 0, none⟩ = some (.int .i64 0) := HRr5.out.cells 0
        have r1 : v5.cell? ⟨w.heap.size + 1, 1, none⟩ = some (.int .i64 0) := HRr5.out.cells 1
        have rf0 := HRr5.out.free 0; have rf1 := HRr5.out.free 1
        have HRf := Lib.hid (keeps_step (set1_keeps v5 (w.heap.size + 1) 0 (.int .i64 fa)) 1 (.int .i64 ft))
        have HC5 := Lib.hid hc1; have HO5 := Lib.hid (HOo.out.trans ho1)
        have s5 := ho1.size
        have hfin : ∀ w9, w9 = (v5.setCell ⟨(w.heap.size + 1), 0, none⟩ (.int .i64 fa)).setCell ⟨(w.heap.size + 1), 1, none⟩ (.int .i64 ft) → Cur w9 g A n c bs ∧ Only g (g + 1) w w9 := by
          intro w9 h9
          subst h9
          exact ⟨HC5.out.below2 HRf.out.2 (by omega), HO5.out.below_ HRf.out.2 (by omega)⟩
        have HFin := Lib.hid hfin
        have hXi : (X : Int) < (fs.length : Int) := by omega
        clear hfin hc1 ho1 x1 K2 hown5 hf x2
        go_wp2_with ((with_reducible refine bodyPost_ret (v := .agg #[.int .i64 fa, .int .i64 ft]) ?k1 ?k2 ?k3); (case k1 => (simp [results, Try.results102, go_sem, r0, r1, rf0, rf1])); (case k2 => rfl); (case k3 => (exact ⟨fa, ft, rfl, (HFin.out _ rfl).1, (HFin.out _ rfl).2⟩)))

set_option maxRecDepth 20000 in
set_option maxHeartbeats 8000000 in
theorem l9Draw_any (g : Nat) (A : Option Addr) (n c : Nat) (bs : List Int) (w : World) (hu : ∀ z ∈ bs, 0 ≤ z ∧ z ≤ 255) (hn : n ≤ 1073741824) (h : Cur w g A n c bs) (S1 S2 : Option Addr) (sn sc sm sd : Nat) (hs : List AH) (ats : List AD) (cs : List ByteArray) (s : SchF (· ≠ g) w S1 S2 sn sm sd hs ats cs) :
    Calls Try.prog 71 #[.pointer (some ⟨g, 0, none⟩), .agg #[.slice S1 sn sc, .slice S2 sm sd]] w (ForkR g A n c bs w) := by
  have HC := Lib.hid h
  have HU := Lib.hid hu
  have HS := Lib.hid s
  have hgw := h.lt
  clear h hu
  have B0 := Below.refl w.heap.size w
  have s0 : w.heap.size ≤ w.heap.size := Nat.le_refl _
  go_enter Try.func71, Try.ntmps71
  have s_2 : Bx (w.alloc (.cells #[.slice S1 sn sc, .slice S2 sm sd] 40)) (w.heap.size) 40 #[.slice S1 sn sc, .slice S2 sm sd] := Bx.new _ _ _
  have B_2 := B0.alloc s0 (.cells #[.slice S1 sn sc, .slice S2 sm sd] 40)
  clear B0
  have cs_3 := s_2.cells
  have fs_3 := s_2.free
  clear cs_3 fs_3
  have s_4 := s_2.same (same_alloc (.cells #[.int .i64 0, .int .i64 0] 55) (by simp only [World.size_alloc]; omega))
  clear s_2
  have r_5 : Bx ((w.alloc (.cells #[.slice S1 sn sc, .slice S2 sm sd] 40)).alloc (.cells #[.int .i64 0, .int .i64 0] 55)) (w.heap.size + 1) 55 #[.int .i64 0, .int .i64 0] := by
    have h := Bx.new (w.alloc (.cells #[.slice S1 sn sc, .slice S2 sm sd] 40)) 55 #[.int .i64 0, .int .i64 0]
    simpa only [World.size_alloc] using h
  have B_5 := B_2.alloc (by simp only [World.size_alloc]; omega) (.cells #[.int .i64 0, .int .i64 0] 55)
  clear B_2
  have cs_6 := s_4.cells
  have fs_6 := s_4.free
  have cr_7 := r_5.cells
  have fr_7 := r_5.free
  go_wp2_with fail
  clear cs_6 fs_6
  clear cr_7 fr_7
  obtain ⟨v8, hv8⟩ : ∃ v8, v8 = ((w.alloc (.cells #[.slice S1 sn sc, .slice S2 sm sd] 40)).alloc (.cells #[.int .i64 0, .int .i64 0] 55)) := ⟨_, rfl⟩
  have zv8 : w.heap.size + 1 + 1 ≤ v8.heap.size := by rw [hv8]; simp
  rw [← hv8] at s_4 r_5 B_5 ⊢
  clear hv8
  have HRr0 := Lib.hid r_5
  have K0 := Lib.hid (Keeps.below (P := fun j => True) B_5 (Nat.le_refl _))
  have HCv := Lib.hid (HC.out.below B_5 (Nat.le_refl _))
  have HOv : Hid (Only g (g + 1) w v8) := Only.of_below B_5 (Nat.le_refl _)
  have HSv := Lib.hid (HS.out.keep (K0.out.mono (fun _ _ => trivial)))
  clear s_4 r_5 B_5
  refine (l9Right_any g A n c bs _ HU.out hn HCv.out S1 S2 sn sc sm sd hs ats cs HSv.out).mono ?_
  rintro e v2 ⟨fa, ft, rfl, hc1, ho1⟩
  have s2 := ho1.size
  obtain ⟨BO, hBO⟩ : ∃ BO, BO = v2.heap.size := ⟨_, rfl⟩
  obtain ⟨v, hv⟩ : ∃ v, v = v2.alloc (.cells #[.int .i64 fa, .int .i64 ft] 55) := ⟨_, rfl⟩
  have HBv : Hid (Bx v BO 55 #[.int .i64 fa, .int .i64 ft]) := by rw [hv, hBO]; exact Bx.new _ _ _
  have hKv : Keeps (fun j => True) v2 v := by rw [hv]; exact Keeps.alloc _
  have hzv : v.heap.size = BO + 1 := by rw [hv, World.size_alloc, hBO]
  have HCw : Hid (Cur v g A n c bs) := by rw [hv]; exact hc1.below (below_alloc1 _) (Nat.le_refl _)
  have HOw : Hid (Only g (g + 1) w v) := by rw [hv]; exact (HOv.out.trans ho1).below_ (below_alloc1 _) (by omega)
  have HRv := Lib.hid ((HRr0.out.keep (keeps_cur ho1) (by omega)).keep hKv trivial)
  have hBOl : w.heap.size + 1 < BO := by omega
  have hgB : g < BO := by omega
  have HBV := Lib.hid hv
  clear hc1 ho1 hKv hv HOv HCv HRr0 HSv K0
  go_wp2_with fail
  rw [← HBV.out, ← hBO]
  clear HBV
  refine (l1Below_any g A n c bs 10 _ HU.out hn HCw.out).mono ?_
  rintro e u ⟨x, rfl, ⟨x0, _, _⟩, hc1, ho1⟩
  have su := ho1.size
  have hBu : BO < u.heap.size := by omega
  have K2 := keeps_cur ho1
  have HBu := Lib.hid (HBv.out.keep K2 (by omega)); have HRr := Lib.hid (HRv.out.keep K2 (by omega)); have HCu := Lib.hid hc1; have HOu := Lib.hid (HOw.out.trans ho1)
  clear hc1 ho1 K2 HCw HOw HBv HRv hzv hBO
  go_upto_block 0 with fail
  go_cut [] (fun wx => ∃ fa ft : Int, Bx wx BO 55 #[.int .i64 fa, .int .i64 ft] ∧ Bx wx (w.heap.size + 1) 55 #[.int .i64 0, .int .i64 0] ∧ Cur wx g A n c bs ∧ Only g (g + 1) w wx)
  case first =>
    by_cases hsw0 : x = 0
    · subst hsw0
      have p0 : u.cell? ⟨BO, 0, none⟩ = some (.int .i64 fa) := HBu.out.cells 0; have pf0 := HBu.out.free 0
      have p1 : u.cell? ⟨BO, 1, none⟩ = some (.int .i64 ft) := HBu.out.cells 1; have pf1 := HBu.out.free 1
      go_wp2_with fail
      refine (pickLit g A n c 6 bs [-2, 1, 2, 3, 4, 9223372036854775807] _ _ _ rfl rfl (by omega) (by omega) HU.out hn HCu.out).mono ?_
      rintro e q3 ⟨y, rfl, _, hcq, hoq⟩
      have K3 := keeps_cur hoq
      have hz3 := hoq.size
      have HBq := Lib.hid (HBu.out.keep K3 (by omega))
      have HK9 := Lib.hid (set1_keeps q3 BO 1 (.int .i64 y))
      have HB2 := Lib.hid (HBq.out.set_ 1 (.int .i64 y))
      have HRr9 := Lib.hid ((HRr.out.keep K3 (by omega)).keep HK9.out.1 (by omega))
      have HC9 := Lib.hid (hcq.below2 HK9.out.2 (by omega)); have HO9 := Lib.hid ((HOu.out.trans hoq).below_ (HK9.out.2.mono (show w.heap.size ≤ BO by omega)) (Nat.le_refl _))
      have q0 : q3.cell? ⟨BO, 1, none⟩ = some (.int .i64 ft) := HBq.out.cells 1
      have qf0 := HBq.out.free 1
      clear hcq hoq K3 p0 p1 pf0 pf1
      go_wp2_with fail
      go_meet
      exact ⟨fa, y, HB2.out, HRr9.out, HC9.out, HO9.out⟩
    · have esw0 : (x == 0) = false := beq_false_of_ne hsw0
      have dsw0 : decide (x = 0) = false := decide_eq_false hsw0
      by_cases hsw1 : x = 1
      · subst hsw1
        have p0 : u.cell? ⟨BO, 0, none⟩ = some (.int .i64 fa) := HBu.out.cells 0; have pf0 := HBu.out.free 0
        have p1 : u.cell? ⟨BO, 1, none⟩ = some (.int .i64 ft) := HBu.out.cells 1; have pf1 := HBu.out.free 1
        go_wp2_with fail
        refine (pickLit g A n c 4 bs [-1, 5, 4, 9223372036854775807] _ _ _ rfl rfl (by omega) (by omega) HU.out hn HCu.out).mono ?_
        rintro e q3 ⟨y, rfl, _, hcq, hoq⟩
        have K3 := keeps_cur hoq
        have hz3 := hoq.size
        have HBq := Lib.hid (HBu.out.keep K3 (by omega))
        have HK9 := Lib.hid (set1_keeps q3 BO 0 (.int .i64 y))
        have HB2 := Lib.hid (HBq.out.set_ 0 (.int .i64 y))
        have HRr9 := Lib.hid ((HRr.out.keep K3 (by omega)).keep HK9.out.1 (by omega))
        have HC9 := Lib.hid (hcq.below2 HK9.out.2 (by omega)); have HO9 := Lib.hid ((HOu.out.trans hoq).below_ (HK9.out.2.mono (show w.heap.size ≤ BO by omega)) (Nat.le_refl _))
        have q0 : q3.cell? ⟨BO, 0, none⟩ = some (.int .i64 fa) := HBq.out.cells 0
        have qf0 := HBq.out.free 0
        clear hcq hoq K3 p0 p1 pf0 pf1
        go_wp2_with fail
        go_meet
        exact ⟨y, ft, HB2.out, HRr9.out, HC9.out, HO9.out⟩
      · have esw1 : (x == 1) = false := beq_false_of_ne hsw1
        have dsw1 : decide (x = 1) = false := decide_eq_false hsw1
        have p0 : u.cell? ⟨BO, 0, none⟩ = some (.int .i64 fa) := HBu.out.cells 0; have pf0 := HBu.out.free 0
        have p1 : u.cell? ⟨BO, 1, none⟩ = some (.int .i64 ft) := HBu.out.cells 1; have pf1 := HBu.out.free 1
        go_wp2_with fail
        go_meet
        exact ⟨fa, ft, HBu.out, HRr.out, HCu.out, HOu.out⟩
  obtain ⟨fa9, ft9, hbx, hrr, hc, ho⟩ := hcut
  obtain ⟨u9, rfl⟩ : ∃ u9 : World, u9 = wc := ⟨_, rfl⟩
  have hlu := hbx.lt
  have p0 : u9.cell? ⟨BO, 0, none⟩ = some (.int .i64 fa9) := hbx.cells 0; have pf0 := hbx.free 0
  have p1 : u9.cell? ⟨BO, 1, none⟩ = some (.int .i64 ft9) := hbx.cells 1; have pf1 := hbx.free 1
  have r0 : u9.cell? ⟨w.heap.size + 1, 0, none⟩ = some (.int .i64 0) := hrr.cells 0
  have r1 : u9.cell? ⟨w.heap.size + 1, 1, none⟩ = some (.int .i64 0) := hrr.cells 1
  have rf0 := hrr.free 0; have rf1 := hrr.free 1
  have HRf := Lib.hid (keeps_step (set1_keeps u9 (w.heap.size + 1) 0 (.int .i64 fa9)) 1 (.int .i64 ft9))
  have HCf := Lib.hid hc; have HOf := Lib.hid ho
  have hfin : ∀ w9, w9 = (u9.setCell ⟨(w.heap.size + 1), 0, none⟩ (.int .i64 fa9)).setCell ⟨(w.heap.size + 1), 1, none⟩ (.int .i64 ft9) → Cur w9 g A n c bs ∧ Only g (g + 1) w w9 := by
    intro w9 h9
    subst h9
    exact ⟨HCf.out.below2 HRf.out.2 (by omega), HOf.out.below_ HRf.out.2 (by omega)⟩
  have HFin := Lib.hid hfin
  clear hfin hbx hrr hc ho
  go_wp2_with ((with_reducible refine bodyPost_ret (v := .agg #[.int .i64 fa9, .int .i64 ft9]) ?k1 ?k2 ?k3); (case k1 => (simp [results, Try.results71, go_sem, r0, r1, rf0, rf1])); (case k2 => rfl); (case k3 => (exact ⟨fa9, ft9, rfl, (HFin.out _ rfl).1, (HFin.out _ rfl).2⟩)))

end Go.Proofs.Ytchkmcikpamdeaa
