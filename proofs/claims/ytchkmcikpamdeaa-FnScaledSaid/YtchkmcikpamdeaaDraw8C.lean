/-
  The draw of whatever statistics.
-/
import Derived.Test.YtchkmcikpamdeaaDraw8B
import Derived.Deep.CutBlock
namespace Go.Proofs.Ytchkmcikpamdeaa
open Go.RowKit
set_option linter.unusedSimpArgs false
set_option linter.unusedVariables false

theorem StaF.of_ss {P : Nat → Prop} {mid hi d : Nat} {w : World} {T X : Option Addr} {q p : Nat} {gs : List Hd} {ts : List Int} {xss : List (List Int)} (ht : Rdf P w T q (ts.map (Value.int .i64))) (hc : OwSS mid hi w X p d gs (iss xss)) (hP : ∀ j, mid ≤ j → P j) (hq : q ≤ 32) (hp : p ≤ 16) (hx : ∀ xs ∈ xss, xs.length ≤ 128) : StaF P w T X q p gs ts xss :=
  ⟨ht, Rdf.of_own hc.hd.own (fun j hj _ _ => hP j hj), by have := hc.len; rwa [iss_len] at this, fun j h xs h1 h2 => Rdf.of_own (hc.rows.row j h _ h1 (iss_get h2)).own (fun k h4 _ _ => hP k h4), hq, hp, hx⟩
theorem StB.get0 {lo mid b n c m d : Nat} {w : World} {A C : Option Addr} {hs : List Hd} {ts : List Int} {xss : List (List Int)} (h : StB lo mid b w A C n c m d hs ts xss) (hk : 0 < m) :
    ∃ ga xa xn xc xs, C = some ⟨ga, 0, none⟩ ∧ hs[0]? = some (xa, xn, xc) ∧ xss[0]? = some xs ∧ xs.length = xn ∧ w.cell? ⟨ga, 0, none⟩ = some (.slice xa xn xc) ∧ w.frozen? ⟨ga, 0, none⟩ = false ∧
      w.ownsRow mid 3 1 (.slice xa xn xc) xn (xs.map (Value.int .i64)) ∧ mid ≤ ga ∧ ga < b ∧ (∀ j, (Value.slice xa xn xc).ownBlock = some j → mid ≤ j ∧ j < b ∧ j ≠ ga) := by
  obtain ⟨ga, ca, hv, hg1, hg2, hc1, hc2⟩ := own_form h.ow.cel.hd.own (by omega)
  simp only [Value.slice.injEq] at hv
  obtain ⟨rfl, _, rfl⟩ := hv
  obtain ⟨⟨xa, xn, xc⟩, vs, hx, hvs, hrd, hvl⟩ := h.ow.cel.rd.get hk
  obtain ⟨ys, hys, rfl⟩ := iss_get' hvs
  have hrow := h.ow.cel.rows.row 0 _ _ hx hvs
  have hyl : ys.length = xn := by simpa using hvl
  refine ⟨ga, xa, xn, xc, ys, rfl, hx, hys, hyl, ?_, h.ow.cel.hd.own.frozenAt 0, ?_, hg1, h.ow.cel.hd.top ga rfl, fun j hj => ⟨(hrow.own.lt j hj).1, hrow.top j hj, fun e => h.ow.cel.off 0 _ j hx (by rw [e]; rfl) hj⟩⟩
  · rw [h.ow.cel.hd.own.cellAt 0 (by omega)]; simp [hx, hdV]
  · exact hrow.own
theorem len_set8 {xss : List (List Int)} {j K : Nat} {ys : List Int} (h : ∀ xs ∈ xss, xs.length ≤ K) (hy : ys.length ≤ K) : ∀ xs ∈ xss.set j ys, xs.length ≤ K := fun xs hx => by
  rcases List.mem_or_eq_of_mem_set hx with hx | rfl
  · exact h xs hx
  · exact hy
/-- One row is turned (in its own block, or moved to a new one); its header is stored. -/
theorem OwSS.turn {lo hi g n c q : Nat} {w w1 : World} {hs : List Hd} {vss : List (List Value)} {x y : Hd} {vs' : List Value} (h : OwSS lo hi w (some ⟨g, 0, none⟩) n c hs vss) (hh : hi ≤ w.heap.size) (hx : hs[q]? = some x)
    (hg : w.grownBy w1 (hdV x).ownBlock) (ho : w1.ownsRow lo 3 1 (.slice y.1 y.2.1 y.2.2) y.2.1 vs') (hat : ∀ k, (hdV y).ownBlock = some k → (hdV x).ownBlock = some k ∨ w.heap.size ≤ k) :
    OwSS lo w1.heap.size (w1.setCell ⟨g, q, none⟩ (hdV y)) (some ⟨g, 0, none⟩) n c (hs.set q y) (vss.set q vs') := by
  have hsz := hg.size
  have hgt := h.hd.top g rfl
  have hql : q < hs.length := get_lt hx
  have hgl : hs.length = vss.length := by rw [h.hlen, h.len]
  have hd1 : Ow 26 lo hi w1 (some ⟨g, 0, none⟩) n c (hs.map hdV) := h.hd.grown hg (fun k e1 e2 => h.off q x k hx e1 e2)
  obtain ⟨s1, s2⟩ := hd1.own.stored q (hdV y)
  have gt : ∀ (j : Nat) (z : Hd), (hs.set q y)[j]? = some z → (j ≠ q ∧ hs[j]? = some z) ∨ (j = q ∧ z = y) := by
    intro j z hj
    by_cases e : q = j
    · subst e
      rw [List.getElem?_set_self hql] at hj
      exact .inr ⟨rfl, (Option.some.inj hj).symm⟩
    · rw [List.getElem?_set_ne e] at hj
      exact .inl ⟨fun h => e h.symm, hj⟩
  have htop : ∀ (j : Nat) (z : Hd) (k : Nat), (hs.set q y)[j]? = some z → (hdV z).ownBlock = some k → lo ≤ k ∧ k < w1.heap.size := by
    intro j z k hj hk
    rcases gt j z hj with ⟨_, e⟩ | ⟨_, rfl⟩
    · have := h.rows.top j z k e hk; omega
    · exact ho.lt k hk
  have hfar : ∀ (j : Nat) (z : Hd) (k : Nat), (hs.set q y)[j]? = some z → (hdV z).ownBlock = some k → g ≠ k := by
    intro j z k hj hk e
    subst e
    rcases gt j z hj with ⟨_, e⟩ | ⟨_, rfl⟩
    · exact h.off j z g e rfl hk
    · rcases hat g hk with e | e
      · exact h.off q x g hx rfl e
      · omega
  have hsep : ∀ (j : Nat) (z : Hd) (k : Nat), j ≠ q → hs[j]? = some z → (hdV z).ownBlock = some k → (hdV y).ownBlock ≠ some k := by
    intro j z k hj hz hk e
    rcases hat k e with e2 | e2
    · exact hj (h.rows.apart j q z x k hz hx hk e2)
    · have := h.rows.top j z k hz hk; omega
  refine ⟨⟨by rw [List.map_set]; exact s1, fun k hk => ?_⟩, by simp [h.len], ⟨fun j z us e1 e2 => ?_, fun i j a b k e1 e2 e3 e4 => ?_, htop⟩, fun j z k e1 e2 e3 => ?_⟩
  · simp only [Value.ownBlock, Option.some.injEq] at hk
    omega
  · rcases gt j z e1 with ⟨hne, e⟩ | ⟨rfl, rfl⟩
    · rw [List.getElem?_set_ne (fun h => hne h.symm)] at e2
      have h1 := h.rows.row j z us e e2
      have h2 := h1.grown hg (fun k f1 f2 => hne (h.rows.apart j q z x k e hx f1 f2))
      exact (h2.grown s2 (fun k f1 f2 => hfar j z k e1 f1 (Option.some.inj f2))).wide (Nat.le_refl _) (by omega)
    · rw [List.getElem?_set_self (by omega)] at e2
      obtain rfl := Option.some.inj e2
      have h1 := Ow.of ho
      exact h1.grown s2 (fun k f1 f2 => hfar j z k e1 f1 (Option.some.inj f2))
  · rcases gt i a e1 with ⟨hne, e⟩ | ⟨rfl, rfl⟩ <;> rcases gt j b e2 with ⟨hne', e'⟩ | ⟨rfl, rfl⟩
    · exact h.rows.apart i j a b k e e' e3 e4
    · exact absurd e4 (hsep i a k hne e e3)
    · exact absurd e3 (hsep j b k hne' e' e4)
    · rfl
  · simp only [Value.ownBlock, Option.some.injEq] at e2
    exact hfar j z k e1 e3 e2
/-- What a draw of whatever statistics may answer. -/
def StD (g : Nat) (A : Option Addr) (n c : Nat) (bs : List Int) (w : World) (e : Ending) (w' : World) : Prop :=
  ∃ (T : Option Addr) (q qc : Nat) (X : Option Addr) (p pc : Nat) (gs : List Hd) (ts : List Int) (xss : List (List Int)), e = .returned (.agg #[.slice T q qc, .slice X p pc]) ∧ StaF (fun j => w.heap.size ≤ j) w' T X q p gs ts xss ∧ Cur w' g A n c bs ∧ Only g (g + 1) w w'

set_option maxRecDepth 20000 in
set_option maxHeartbeats 8000000 in
theorem l8Draw_any (g : Nat) (A : Option Addr) (n c : Nat) (bs : List Int) (w : World) (hu : ∀ z ∈ bs, 0 ≤ z ∧ z ≤ 255) (hn : n ≤ 1073741824) (h : Cur w g A n c bs) (S1 S2 : Option Addr) (sn sc sm sd : Nat) (hs : List AH) (ats : List AD) (cs : List ByteArray) (s : SchF (· ≠ g) w S1 S2 sn sm sd hs ats cs) :
    Calls Try.prog 70 #[.pointer (some ⟨g, 0, none⟩), .agg #[.slice S1 sn sc, .slice S2 sm sd]] w (StD g A n c bs w) := by
  have HC := Lib.hid h
  have HU := Lib.hid hu
  have HS := Lib.hid s
  have hgw := h.lt
  obtain ⟨i1, hi0, hz0, hz1, hz2⟩ := info_parts info_int
  have HQ := Lib.hid hi0; have HQ0 := Lib.hid hz0; have HQ1 := Lib.hid hz1; have HQ2 := Lib.hid hz2
  clear hi0 hz0 hz1 hz2
  clear h hu
  have B0 := Below.refl w.heap.size w
  have s0 : w.heap.size ≤ w.heap.size := Nat.le_refl _
  go_enter Try.func70, Try.ntmps70
  have s_2 : Bx (w.alloc (.cells #[.slice S1 sn sc, .slice S2 sm sd] 40)) (w.heap.size) 40 #[.slice S1 sn sc, .slice S2 sm sd] := Bx.new _ _ _
  have B_2 := B0.alloc s0 (.cells #[.slice S1 sn sc, .slice S2 sm sd] 40)
  clear B0
  have cs_3 := s_2.cells
  have fs_3 := s_2.free
  clear cs_3 fs_3
  have s_4 := s_2.same (same_alloc (.cells #[.slice none 0 0, .slice none 0 0] 35) (by simp only [World.size_alloc]; omega))
  clear s_2
  have r_5 : Bx ((w.alloc (.cells #[.slice S1 sn sc, .slice S2 sm sd] 40)).alloc (.cells #[.slice none 0 0, .slice none 0 0] 35)) (w.heap.size + 1) 35 #[.slice none 0 0, .slice none 0 0] := by
    have h := Bx.new (w.alloc (.cells #[.slice S1 sn sc, .slice S2 sm sd] 40)) 35 #[.slice none 0 0, .slice none 0 0]
    simpa only [World.size_alloc] using h
  have B_5 := B_2.alloc (by simp only [World.size_alloc]; omega) (.cells #[.slice none 0 0, .slice none 0 0] 35)
  clear B_2
  have cs_6 := s_4.cells
  have fs_6 := s_4.free
  have cr_7 := r_5.cells
  have fr_7 := r_5.free
  go_wp2_with fail
  clear cs_6 fs_6
  clear cr_7 fr_7
  obtain ⟨v8, hv8⟩ : ∃ v8, v8 = ((w.alloc (.cells #[.slice S1 sn sc, .slice S2 sm sd] 40)).alloc (.cells #[.slice none 0 0, .slice none 0 0] 35)) := ⟨_, rfl⟩
  have zv8 : w.heap.size + 1 + 1 ≤ v8.heap.size := by rw [hv8]; simp
  rw [← hv8] at s_4 r_5 B_5 ⊢
  clear hv8
  have HRr0 := Lib.hid r_5
  have K0 := Lib.hid (Keeps.below (P := fun j => True) B_5 (Nat.le_refl _))
  have HCv := Lib.hid (HC.out.below B_5 (Nat.le_refl _))
  have HOv : Hid (Only g (g + 1) w v8) := Only.of_below B_5 (Nat.le_refl _)
  have HSv := Lib.hid (HS.out.keep (K0.out.mono (fun _ _ => trivial)))
  clear s_4 r_5 B_5
  refine (l8Right_any g A n c bs _ HU.out hn HCv.out S1 S2 sn sc sm sd hs ats cs HSv.out).mono ?_
  rintro e v2 ⟨T, q, qc, X, p, pc, mid, gs, ts, xss, rfl, ⟨hq16, hp16, hx64⟩, host, hc1, ho1⟩
  have s2 := ho1.size
  obtain ⟨BO, hBO⟩ : ∃ BO, BO = v2.heap.size := ⟨_, rfl⟩
  obtain ⟨v, hv⟩ : ∃ v, v = v2.alloc (.cells #[.slice T q qc, .slice X p pc] 35) := ⟨_, rfl⟩
  have HBv : Hid (Bx v BO 35 #[.slice T q qc, .slice X p pc]) := by rw [hv, hBO]; exact Bx.new _ _ _
  have hKv : Keeps (fun j => True) v2 v := by rw [hv]; exact Keeps.alloc _
  have hzv : v.heap.size = BO + 1 := by rw [hv, World.size_alloc, hBO]
  have HTv : Hid (OwSta (w.heap.size + 1 + 1) BO v T X q qc p pc mid gs ts xss) := by rw [hBO]; exact (host.keep hKv (Nat.le_refl _) (fun _ _ _ => trivial)).wide_ (by omega) (Nat.le_refl _)
  have HCw : Hid (Cur v g A n c bs) := by rw [hv]; exact hc1.below (below_alloc1 _) (Nat.le_refl _)
  have HOw_ : Hid (Only g (g + 1) w v) := by rw [hv]; exact (HOv.out.trans ho1).below_ (below_alloc1 _) (by omega)
  have HRv := Lib.hid ((HRr0.out.keep (keeps_cur ho1) (by omega)).keep hKv trivial)
  have hBOl : w.heap.size + 1 < BO := by omega
  have hgB : g < BO := by omega
  have HX64 := Lib.hid hx64
  have HX : Hid (∀ xs ∈ xss, xs.length ≤ 128) := fun xs hx => Nat.le_trans (hx64 xs hx) (by omega)
  have HBV := Lib.hid hv
  clear hc1 ho1 hKv hv HOv HCv HRr0 HSv K0 host hx64
  go_wp2_with fail
  rw [← HBV.out, ← hBO]
  clear HBV
  refine (l1Below_any g A n c bs 14 _ HU.out hn HCw.out).mono ?_
  rintro e u ⟨x, rfl, -, hc1, ho1⟩
  have su := ho1.size
  have hBu : BO < u.heap.size := by omega
  have K2 := keeps_cur ho1
  have hst := HTv.out.keep K2 (by omega) (fun j hj _ => by omega)
  have hle := hst.le
  have HSB : Hid (StB (w.heap.size + 1 + 1) mid BO u T X q qc p pc gs ts xss) := ⟨hst, HBv.out.keep K2 (by omega)⟩
  have HStF : Hid (StaF (fun j => (w.heap.size + 1 + 1) ≤ j) u T X q p gs ts xss) := StaF.of_own hst (fun j hj _ => hj) (by omega) (by omega) HX.out
  have HRr := Lib.hid (HRv.out.keep K2 (by omega)); have HCu := Lib.hid hc1; have HOu := Lib.hid (HOw_.out.trans ho1)
  clear hc1 ho1 K2 hst HCw HOw_ HBv HRv HTv hzv hBO
  go_upto_block 0 with fail
  go_cut [] (fun wx => ∃ (T2 : Option Addr) (q2 c2 : Nat) (X2 : Option Addr) (p2 d2 : Nat) (gs2 : List Hd) (ts2 : List Int) (xss2 : List (List Int)), Bx wx BO 35 #[.slice T2 q2 c2, .slice X2 p2 d2] ∧ StaF (fun j => (w.heap.size + 1 + 1) ≤ j) wx T2 X2 q2 p2 gs2 ts2 xss2 ∧ Bx wx (w.heap.size + 1) 35 #[.slice none 0 0, .slice none 0 0] ∧ Cur wx g A n c bs ∧ Only g (g + 1) w wx)
  case first =>
    by_cases hsw0 : x = 0
    · subst hsw0
      by_cases h0 : q = 0
      · have h0i : ¬ (0 : Int) < (q : Int) := by omega
        have h0n : ¬ 0 < q := by omega
        have h0d : decide (0 < q) = false := decide_eq_false h0n
        clear h0
        have p0 : u.cell? ⟨BO, 0, none⟩ = some (.slice T q qc) := HSB.out.bx.cells 0; have pf0 := HSB.out.bx.free 0
        have p1 : u.cell? ⟨BO, 1, none⟩ = some (.slice X p pc) := HSB.out.bx.cells 1; have pf1 := HSB.out.bx.free 1
        go_wp2_with fail
        go_meet
        exact ⟨T, q, qc, X, p, pc, gs, ts, xss, HSB.out.bx, HStF.out, HRr.out, HCu.out, HOu.out⟩
      · have hp : 0 < q := by omega
        have hpi : (0 : Int) < (q : Int) := by omega
        have hpd : decide (0 < q) = true := decide_eq_true hp
        obtain ⟨gt, ca, hAA, hga1, hga2, hca1, hca2⟩ := own_form HSB.out.ow.tot.own hp
        simp only [Value.slice.injEq] at hAA
        obtain ⟨rfl, _, rfl⟩ := hAA
        obtain ⟨t0, ht0⟩ : ∃ t0, ts[0]? = some t0 := ⟨_, List.getElem?_eq_getElem (by have := HSB.out.ow.tot.own.1; simp at this; omega)⟩
        have hgl : (w.heap.size + 1 + 1) ≤ gt := hga1
        have HKe : Hid (∀ w' : World, Keeps (· ≠ g) u w' → w'.cell? ⟨BO, 0, none⟩ = some (.slice (some ⟨gt, 0, none⟩) q qc) ∧ w'.frozen? ⟨gt, 0, none⟩ = false ∧ w'.cell? ⟨gt, 0, none⟩ = some (.int .i64 t0)) := fun w' hk => by
          have e1 := HSB.out.bx.keep hk (by omega)
          have e2 := own_keep HSB.out.ow.tot.own hk (fun j hj _ => by omega)
          exact ⟨e1.cells 0, e2.frozenAt 0, by rw [e2.cellAt 0 (by omega)]; simp [ht0]⟩
        have HCd := Lib.hid (HCu.out.below2 (below_drew u.heap.size u) (by omega))
        have p0 : u.cell? ⟨BO, 0, none⟩ = some (.slice (some ⟨gt, 0, none⟩) q qc) := HSB.out.bx.cells 0; have pf0 := HSB.out.bx.free 0
        have p1 : u.cell? ⟨BO, 1, none⟩ = some (.slice X p pc) := HSB.out.bx.cells 1; have pf1 := HSB.out.bx.free 1
        clear ht0
        go_upto_region 5 with fail
        skip
        refine wp_region_last (n := 6) (S := fun w' => w'.cell? ⟨BO, 0, none⟩ = some (.slice (some ⟨gt, 0, none⟩) q qc) ∧ w'.frozen? ⟨gt, 0, none⟩ = false ∧ w'.cell? ⟨gt, 0, none⟩ = some (.int .i64 t0)) (by kernel_rfl) rfl (by kernel_rfl) (HKe.out _ Keeps.drew) ?_
        intro hS; (try dsimp only at hS)
        simp only [List.take_succ_cons, List.take_zero, List.getElem_toArray, List.getElem_cons_succ, List.getElem_cons_zero]
        refine wpAnyH_take (i := 0) (v := ?v16x) rfl (by kernel_rfl) (by kernel_rfl) (by kernel_rfl) (fun _ _ _ h => h) (Or.inl ⟨by rfl, ?hy16x⟩) hS ?rest16x
        case hy16x => (intro w' hSw; (try dsimp only at hSw); go_simp; (try (with_reducible rfl)))
        (try simp only [Act.put, List.setIfInBounds_toArray, List.set_cons_zero, List.set_cons_succ, List.getElem_toArray, List.getElem_cons_succ, List.getElem_cons_zero])
        refine wpAnyH_take (i := 1) (v := ?v17x) rfl (by kernel_rfl) (by kernel_rfl) (by kernel_rfl) (fun _ _ _ h => h) (Or.inl ⟨by rfl, ?hy17x⟩) hS ?rest17x
        case hy17x => (intro w' hSw; (try dsimp only at hSw); go_simp; (try (with_reducible rfl)))
        (try simp only [Act.put, List.setIfInBounds_toArray, List.set_cons_zero, List.set_cons_succ, List.getElem_toArray, List.getElem_cons_succ, List.getElem_cons_zero])
        refine wpAnyH_take (i := 2) (v := ?v18x) rfl (by kernel_rfl) (by kernel_rfl) (by kernel_rfl) (fun _ _ _ h => h) (Or.inl ⟨by rfl, ?hy18x⟩) hS ?rest18x
        case hy18x => (intro w' hSw; (try dsimp only at hSw); go_simp; (try (with_reducible rfl)))
        (try simp only [Act.put, List.setIfInBounds_toArray, List.set_cons_zero, List.set_cons_succ, List.getElem_toArray, List.getElem_cons_succ, List.getElem_cons_zero])
        refine wpAnyH_ready (rs := [3]) (by kernel_rfl) (by simp) ?_
        refine AllReadyH.cons rfl (fun K hK => ?_) AllReadyH.nil
        (try dsimp only [List.getElem_toArray, List.getElem_cons_succ, List.getElem_cons_zero])
        go_simp
        refine hK.out _ _ (HKe.out _ (Keeps.trans Keeps.drew (Keeps.alloc _))) (fun hS9 => ?_)
        clear hK K hS; have hS := hS9; clear hS9; (try dsimp only at hS)
        (try simp only [Act.put, List.setIfInBounds_toArray, List.set_cons_zero, List.set_cons_succ, List.getElem_toArray, List.getElem_cons_succ, List.getElem_cons_zero])
        refine wpAnyH_ready (rs := [4]) (by kernel_rfl) (by simp) ?_
        refine AllReadyH.cons rfl (fun K hK => ?_) AllReadyH.nil
        (try dsimp only [List.getElem_toArray, List.getElem_cons_succ, List.getElem_cons_zero])
        (go_simp; (refine (pickLit g A n c 5 bs [-1, 999, 998, 1000, 9223372036854775807] u.drew #[.int .i64 (-1), .int .i64 999, .int .i64 998, .int .i64 1000, .int .i64 9223372036854775807] 3 rfl rfl (by omega) (by omega) HU.out hn HCd.out).mono ?_); rintro e q3 ⟨y, rfl, -, hcq, hoq⟩; dsimp only)
        have hO3 : Only g (g + 1) u q3 := (Only.of_below (below_drew u.heap.size u) (Nat.le_refl _)).trans hoq
        have hz3 := hO3.size
        have HCq3 := Lib.hid hcq
        have K3 := Lib.hid (keeps_cur hO3)
        refine hK.out _ _ (HKe.out _ K3.out) (fun hS9 => ?_)
        clear hK K hS; have hS := hS9; clear hS9; (try dsimp only at hS)
        (try simp only [Act.put, List.setIfInBounds_toArray, List.set_cons_zero, List.set_cons_succ, List.getElem_toArray, List.getElem_cons_succ, List.getElem_cons_zero])
        refine wpAnyH_take (i := 5) (v := ?v19x) rfl (by kernel_rfl) (by kernel_rfl) (by kernel_rfl) (fun _ _ _ h => h) (Or.inl ⟨by rfl, ?hy19x⟩) hS ?rest19x
        case hy19x => (intro w' hSw; (try dsimp only at hSw); go_simp; (try (with_reducible rfl)))
        (try simp only [Act.put, List.setIfInBounds_toArray, List.set_cons_zero, List.set_cons_succ, List.getElem_toArray, List.getElem_cons_succ, List.getElem_cons_zero])
        refine wpAnyH_done (by kernel_rfl) ?_ _
        refine fun K hK => ?_
        go_simp
        refine hK.out _ _ ?_
        clear hK K
        have HSq := Lib.hid (HSB.out.same (same_only hO3 (by omega) (by omega)))
        have hset := HSq.out.setT (j := 0) (v := y)
        have HSB9 := Lib.hid hset.1; have HB9 := Lib.hid hset.2
        have HSt9 : Hid (StaF (fun j => (w.heap.size + 1 + 1) ≤ j) _ (some ⟨gt, 0, none⟩) X q p gs (ts.set 0 y) (xss)) := StaF.of_own HSB9.out.ow (fun j hj _ => hj) (by omega) (by omega) HX.out
        have HRr9 := Lib.hid ((HRr.out.keep K3.out (by omega)).same (same_below HB9.out (by omega)))
        have HC9 := Lib.hid (HCq3.out.below2 HB9.out (by omega)); have HO9 := Lib.hid ((HOu.out.trans hO3).below_ HB9.out (by omega))
        clear hcq hoq hset
        go_wp2_with fail
        go_meet
        exact ⟨(some ⟨gt, 0, none⟩), q, qc, X, p, pc, gs, ts.set 0 y, xss, HSB9.out.bx, HSt9.out, HRr9.out, HC9.out, HO9.out⟩
    · have esw0 : (x == 0) = false := beq_false_of_ne hsw0
      have dsw0 : decide (x = 0) = false := decide_eq_false hsw0
      by_cases hsw1 : x = 1
      · subst hsw1
        have p0 : u.cell? ⟨BO, 0, none⟩ = some (.slice T q qc) := HSB.out.bx.cells 0; have pf0 := HSB.out.bx.free 0
        have p1 : u.cell? ⟨BO, 1, none⟩ = some (.slice X p pc) := HSB.out.bx.cells 1; have pf1 := HSB.out.bx.free 1
        have hrow : ∀ j, (Value.slice T q qc).ownBlock = some j → (w.heap.size + 1 + 1) ≤ j ∧ j < mid := fun j hj => ⟨(HSB.out.ow.tot.own.lt j hj).1, HSB.out.ow.tot.top j hj⟩
        have HRow := Lib.hid hrow
        clear hrow
        go_wp2_with (at_builtin; refine wpList_append_lies _ rfl _ _ 26 rfl (w.heap.size + 1 + 1) 3 i1 (.int .i64 0) 1 8 Try.underlying26 HQ.out HQ0.out HQ1.out HQ2.out rfl (by decide) (.slice T q qc) q (ts.map (Value.int .i64)) rfl (HSB.out.ow.tot.own.alloc _) ⟨u.heap.size, 0, none⟩ 1 1 [.int .i64 0] rfl rfl (cell_one_new _ _ _) ?c2 (by omega) ?c3 ?c4 ?c5 _ rfl ?_)
        case c2 => first | rfl | (intro u hu; simp at hu; subst hu; rfl)
        case c3 => first | (unfold maxLen; omega) | omega
        case c4 => omega
        case c5 => first | (simp only [World.size_alloc]; omega) | omega
        intro g7 cap7 u6 hown7 hgrow7 hat7 hlt7
        have hg7 : u.grownBy u6 (Value.slice T q qc).ownBlock := (grown_alloc _ _).trans hgrow7
        have hu6 := HSB.out.bx.keep (Keeps.grown hg7 (P := fun j => j = BO) (fun j hj e => by have := HRow.out j e; omega)) rfl
        have hc6 : u6.cell? ⟨BO, 0, none⟩ = some (.slice T q qc) := hu6.cells 0
        have hf6 : u6.frozen? ⟨BO, 0, none⟩ = false := hu6.free 0
        have HK9 := Lib.hid (app_keeps (b := BO) (i := 0) (x := .slice (some ⟨g7, 0, none⟩) (q + 1) cap7) hg7)
        have HB9 := Lib.hid (app_below (b := BO) (i := 0) (B := (w.heap.size + 1 + 1)) (x := .slice (some ⟨g7, 0, none⟩) (q + 1) cap7) hg7 (by omega) (fun j hj => (HRow.out j hj).1) (by omega))
        have HB2 := Lib.hid (hu6.set_ 0 (.slice (some ⟨g7, 0, none⟩) (q + 1) cap7))
        have HRr9 := Lib.hid (HRr.out.keep HK9.out ⟨by omega, fun e => by have := HRow.out _ e; omega⟩)
        have h9 : ∀ j, (Value.slice (some ⟨g7, 0, none⟩) (q + 1) cap7).ownBlock = some j → j ≠ BO := fun j h3 e => by
          simp only [Value.ownBlock, Option.some.injEq] at h3
          rcases hat7 with e2 | e2
          · have := HRow.out _ e2; omega
          · first | omega | (simp only [World.size_alloc] at e2; omega)
        have HOwn9 := Lib.hid (own_keep hown7 (Keeps.set (P := fun j => j ≠ BO) (b := BO) (i := 0) (u := .slice (some ⟨g7, 0, none⟩) (q + 1) cap7) (by simp)) (fun j hj e => h9 j e))
        have HCel9 : Hid (OwSS mid BO (u6.setCell ⟨BO, 0, none⟩ (.slice (some ⟨g7, 0, none⟩) (q + 1) cap7)) X p pc gs (iss xss)) := HSB.out.ow.cel.same (fun j h1 h2 => HK9.out.block j ⟨by omega, fun e => by have := HRow.out j e; omega⟩ (by omega))
        have HSt9 : Hid (StaF (fun j => (w.heap.size + 1 + 1) ≤ j) (u6.setCell ⟨BO, 0, none⟩ (.slice (some ⟨g7, 0, none⟩) (q + 1) cap7)) (some ⟨g7, 0, none⟩) X (q + 1) p gs (ts ++ [0]) xss) := StaF.of_ss (Rdf.of_own (by rw [List.map_append]; exact HOwn9.out) (fun j hj _ _ => hj)) HCel9.out (fun j hj => by have hj' : mid ≤ j := hj; omega) (by omega) (by omega) HX.out
        have HC9 := Lib.hid (HCu.out.below2 HB9.out (by omega)); have HO9 := Lib.hid (HOu.out.below_ (HB9.out.mono (by omega)) (Nat.le_refl _))
        clear hown7 hgrow7 hat7 hg7 hu6 h9
        go_wp2_with fail
        go_meet
        exact ⟨some ⟨g7, 0, none⟩, q + 1, cap7, X, p, pc, gs, ts ++ [0], xss, HB2.out, HSt9.out, HRr9.out, HC9.out, HO9.out⟩
      · have esw1 : (x == 1) = false := beq_false_of_ne hsw1
        have dsw1 : decide (x = 1) = false := decide_eq_false hsw1
        by_cases hsw2 : x = 2
        · subst hsw2
          by_cases h0 : p = 0
          · have h0i : ¬ (0 : Int) < (p : Int) := by omega
            have h0n : ¬ 0 < p := by omega
            have h0d : decide (0 < p) = false := decide_eq_false h0n
            clear h0
            have p0 : u.cell? ⟨BO, 0, none⟩ = some (.slice T q qc) := HSB.out.bx.cells 0; have pf0 := HSB.out.bx.free 0
            have p1 : u.cell? ⟨BO, 1, none⟩ = some (.slice X p pc) := HSB.out.bx.cells 1; have pf1 := HSB.out.bx.free 1
            go_wp2_with fail
            go_meet
            exact ⟨T, q, qc, X, p, pc, gs, ts, xss, HSB.out.bx, HStF.out, HRr.out, HCu.out, HOu.out⟩
          · have hp : 0 < p := by omega
            have hpi : (0 : Int) < (p : Int) := by omega
            have hpd : decide (0 < p) = true := decide_eq_true hp
            obtain ⟨ga, xa, xn, xc, ys, hXX, hx0, hys, hyl, hcell, hfrz, hrow, hg1, hg2, hoff⟩ := HSB.out.get0 hp
            subst hXX
            have p0 : u.cell? ⟨BO, 0, none⟩ = some (.slice T q qc) := HSB.out.bx.cells 0; have pf0 := HSB.out.bx.free 0
            have p1 : u.cell? ⟨BO, 1, none⟩ = some (.slice (some ⟨ga, 0, none⟩) p pc) := HSB.out.bx.cells 1; have pf1 := HSB.out.bx.free 1
            by_cases hx : xn = 0
            · have h0i : ¬ (0 : Int) < (xn : Int) := by omega
              have h0n : ¬ 0 < xn := by omega
              have h0d : decide (0 < xn) = false := decide_eq_false h0n
              clear hx hyl hys hx0
              go_wp2_with fail
              go_meet
              exact ⟨T, q, qc, some ⟨ga, 0, none⟩, p, pc, gs, ts, xss, HSB.out.bx, HStF.out, HRr.out, HCu.out, HOu.out⟩
            · have hxp : 0 < xn := by omega
              have hxpi : (0 : Int) < (xn : Int) := by omega
              have hxpd : decide (0 < xn) = true := decide_eq_true hxp
              obtain ⟨gr, cr, hAA, hgr1, hgr2, hcr1, hcr2⟩ := own_form hrow hxp
              simp only [Value.slice.injEq] at hAA
              obtain ⟨rfl, _, rfl⟩ := hAA
              obtain ⟨x0, hx00⟩ : ∃ x0, ys[0]? = some x0 := ⟨_, List.getElem?_eq_getElem (by omega)⟩
              have hgrb := hoff gr rfl
              have HRow := Lib.hid hrow; have HX0 := Lib.hid hx0; have HYs := Lib.hid hys
              have HKe : Hid (∀ w' : World, Keeps (· ≠ g) u w' → w'.cell? ⟨BO, 1, none⟩ = some (.slice (some ⟨ga, 0, none⟩) p pc) ∧ w'.cell? ⟨ga, 0, none⟩ = some (.slice (some ⟨gr, 0, none⟩) xn xc) ∧ w'.frozen? ⟨gr, 0, none⟩ = false ∧ w'.cell? ⟨gr, 0, none⟩ = some (.int .i64 x0)) := fun w' hk => by
                have e1 := HSB.out.bx.keep hk (by omega)
                have e2 := own_keep HRow.out hk (fun j hj _ => by omega)
                exact ⟨e1.cells 1, (World.cell?_of_block (hk.block ga (by omega) (by omega))).trans hcell, e2.frozenAt 0, by rw [e2.cellAt 0 (by omega)]; simp [hx00]⟩
              have HCd := Lib.hid (HCu.out.below2 (below_drew u.heap.size u) (by omega))
              have hyl2 : ys.length ≤ xn ∧ xn ≤ ys.length := by omega
              clear hx00 hyl hys hx0 hrow hoff
              go_upto_region 10 with fail
              skip
              refine wp_region_last (n := 8) (S := fun w' => w'.cell? ⟨BO, 1, none⟩ = some (.slice (some ⟨ga, 0, none⟩) p pc) ∧ w'.cell? ⟨ga, 0, none⟩ = some (.slice (some ⟨gr, 0, none⟩) xn xc) ∧ w'.frozen? ⟨gr, 0, none⟩ = false ∧ w'.cell? ⟨gr, 0, none⟩ = some (.int .i64 x0)) (by kernel_rfl) rfl (by kernel_rfl) (HKe.out _ Keeps.drew) ?_
              intro hS; (try dsimp only at hS)
              simp only [List.take_succ_cons, List.take_zero, List.getElem_toArray, List.getElem_cons_succ, List.getElem_cons_zero]
              refine wpAnyH_take (i := 0) (v := ?v20x) rfl (by kernel_rfl) (by kernel_rfl) (by kernel_rfl) (fun _ _ _ h => h) (Or.inl ⟨by rfl, ?hy20x⟩) hS ?rest20x
              case hy20x => (intro w' hSw; (try dsimp only at hSw); go_simp; (try (with_reducible rfl)))
              (try simp only [Act.put, List.setIfInBounds_toArray, List.set_cons_zero, List.set_cons_succ, List.getElem_toArray, List.getElem_cons_succ, List.getElem_cons_zero])
              refine wpAnyH_take (i := 1) (v := ?v21x) rfl (by kernel_rfl) (by kernel_rfl) (by kernel_rfl) (fun _ _ _ h => h) (Or.inl ⟨by rfl, ?hy21x⟩) hS ?rest21x
              case hy21x => (intro w' hSw; (try dsimp only at hSw); go_simp; (try (with_reducible rfl)))
              (try simp only [Act.put, List.setIfInBounds_toArray, List.set_cons_zero, List.set_cons_succ, List.getElem_toArray, List.getElem_cons_succ, List.getElem_cons_zero])
              refine wpAnyH_take (i := 2) (v := ?v22x) rfl (by kernel_rfl) (by kernel_rfl) (by kernel_rfl) (fun _ _ _ h => h) (Or.inl ⟨by rfl, ?hy22x⟩) hS ?rest22x
              case hy22x => (intro w' hSw; (try dsimp only at hSw); go_simp; (try (with_reducible rfl)))
              (try simp only [Act.put, List.setIfInBounds_toArray, List.set_cons_zero, List.set_cons_succ, List.getElem_toArray, List.getElem_cons_succ, List.getElem_cons_zero])
              refine wpAnyH_take (i := 3) (v := ?v23x) rfl (by kernel_rfl) (by kernel_rfl) (by kernel_rfl) (fun _ _ _ h => h) (Or.inl ⟨by rfl, ?hy23x⟩) hS ?rest23x
              case hy23x => (intro w' hSw; (try dsimp only at hSw); go_simp; (try (with_reducible rfl)))
              (try simp only [Act.put, List.setIfInBounds_toArray, List.set_cons_zero, List.set_cons_succ, List.getElem_toArray, List.getElem_cons_succ, List.getElem_cons_zero])
              refine wpAnyH_take (i := 4) (v := ?v24x) rfl (by kernel_rfl) (by kernel_rfl) (by kernel_rfl) (fun _ _ _ h => h) (Or.inl ⟨by rfl, ?hy24x⟩) hS ?rest24x
              case hy24x => (intro w' hSw; (try dsimp only at hSw); go_simp; (try (with_reducible rfl)))
              (try simp only [Act.put, List.setIfInBounds_toArray, List.set_cons_zero, List.set_cons_succ, List.getElem_toArray, List.getElem_cons_succ, List.getElem_cons_zero])
              refine wpAnyH_ready (rs := [5]) (by kernel_rfl) (by simp) ?_
              refine AllReadyH.cons rfl (fun K hK => ?_) AllReadyH.nil
              (try dsimp only [List.getElem_toArray, List.getElem_cons_succ, List.getElem_cons_zero])
              go_simp
              refine hK.out _ _ (HKe.out _ (Keeps.trans Keeps.drew (Keeps.alloc _))) (fun hS9 => ?_)
              clear hK K hS; have hS := hS9; clear hS9; (try dsimp only at hS)
              (try simp only [Act.put, List.setIfInBounds_toArray, List.set_cons_zero, List.set_cons_succ, List.getElem_toArray, List.getElem_cons_succ, List.getElem_cons_zero])
              refine wpAnyH_ready (rs := [6]) (by kernel_rfl) (by simp) ?_
              refine AllReadyH.cons rfl (fun K hK => ?_) AllReadyH.nil
              (try dsimp only [List.getElem_toArray, List.getElem_cons_succ, List.getElem_cons_zero])
              (go_simp; (refine (pickLit g A n c 3 bs [-1, 500, 1000] u.drew #[.int .i64 (-1), .int .i64 500, .int .i64 1000] 3 rfl rfl (by omega) (by omega) HU.out hn HCd.out).mono ?_); rintro e q3 ⟨y, rfl, -, hcq, hoq⟩; dsimp only)
              have hO3 : Only g (g + 1) u q3 := (Only.of_below (below_drew u.heap.size u) (Nat.le_refl _)).trans hoq
              have hz3 := hO3.size
              have HCq3 := Lib.hid hcq
              have K3 := Lib.hid (keeps_cur hO3)
              refine hK.out _ _ (HKe.out _ K3.out) (fun hS9 => ?_)
              clear hK K hS; have hS := hS9; clear hS9; (try dsimp only at hS)
              (try simp only [Act.put, List.setIfInBounds_toArray, List.set_cons_zero, List.set_cons_succ, List.getElem_toArray, List.getElem_cons_succ, List.getElem_cons_zero])
              refine wpAnyH_take (i := 7) (v := ?v25x) rfl (by kernel_rfl) (by kernel_rfl) (by kernel_rfl) (fun _ _ _ h => h) (Or.inl ⟨by rfl, ?hy25x⟩) hS ?rest25x
              case hy25x => (intro w' hSw; (try dsimp only at hSw); go_simp; (try (with_reducible rfl)))
              (try simp only [Act.put, List.setIfInBounds_toArray, List.set_cons_zero, List.set_cons_succ, List.getElem_toArray, List.getElem_cons_succ, List.getElem_cons_zero])
              refine wpAnyH_done (by kernel_rfl) ?_ _
              refine fun K hK => ?_
              go_simp
              refine hK.out _ _ ?_
              clear hK K
              have hx9 : ∀ xs ∈ xss.set 0 (ys.set 0 y), xs.length ≤ 128 := len_set8 HX.out (by rw [List.length_set]; exact HX.out ys (List.mem_of_getElem? HYs.out))
              have HSq := Lib.hid (HSB.out.same (same_only hO3 (by omega) (by omega)))
              have hset := HSq.out.setX (i := 0) (v := y) HX0.out HYs.out
              have HSB9 := Lib.hid hset.1; have HB9 := Lib.hid hset.2
              have HSt9 : Hid (StaF (fun j => (w.heap.size + 1 + 1) ≤ j) _ T (some ⟨ga, 0, none⟩) q p gs (ts) (xss.set 0 (ys.set 0 y))) := StaF.of_own HSB9.out.ow (fun j hj _ => hj) (by omega) (by omega) hx9
              have HRr9 := Lib.hid ((HRr.out.keep K3.out (by omega)).same (same_below HB9.out (by omega)))
              have HC9 := Lib.hid (HCq3.out.below2 HB9.out (by omega)); have HO9 := Lib.hid ((HOu.out.trans hO3).below_ HB9.out (by omega))
              clear hcq hoq hset
              go_wp2_with fail
              go_meet
              exact ⟨T, q, qc, (some ⟨ga, 0, none⟩), p, pc, gs, ts, xss.set 0 (ys.set 0 y), HSB9.out.bx, HSt9.out, HRr9.out, HC9.out, HO9.out⟩
        · have esw2 : (x == 2) = false := beq_false_of_ne hsw2
          have dsw2 : decide (x = 2) = false := decide_eq_false hsw2
          by_cases hsw3 : x = 3
          · subst hsw3
            by_cases h0 : p = 0
            · have h0i : ¬ (0 : Int) < (p : Int) := by omega
              have h0n : ¬ 0 < p := by omega
              have h0d : decide (0 < p) = false := decide_eq_false h0n
              clear h0
              have p0 : u.cell? ⟨BO, 0, none⟩ = some (.slice T q qc) := HSB.out.bx.cells 0; have pf0 := HSB.out.bx.free 0
              have p1 : u.cell? ⟨BO, 1, none⟩ = some (.slice X p pc) := HSB.out.bx.cells 1; have pf1 := HSB.out.bx.free 1
              go_wp2_with fail
              go_meet
              exact ⟨T, q, qc, X, p, pc, gs, ts, xss, HSB.out.bx, HStF.out, HRr.out, HCu.out, HOu.out⟩
            · have hp : 0 < p := by omega
              have hpi : (0 : Int) < (p : Int) := by omega
              have hpd : decide (0 < p) = true := decide_eq_true hp
              obtain ⟨ga, xa, xn, xc, ys, hXX, hx0, hys, hyl, hcell, hfrz, hrow, hg1, hg2, hoff⟩ := HSB.out.get0 hp
              subst hXX
              have p0 : u.cell? ⟨BO, 0, none⟩ = some (.slice T q qc) := HSB.out.bx.cells 0; have pf0 := HSB.out.bx.free 0
              have p1 : u.cell? ⟨BO, 1, none⟩ = some (.slice (some ⟨ga, 0, none⟩) p pc) := HSB.out.bx.cells 1; have pf1 := HSB.out.bx.free 1
              have HRow := Lib.hid hrow; have HX0 := Lib.hid hx0; have HYs := Lib.hid hys; have HYl := Lib.hid hyl; have HOf := Lib.hid hoff
              have HKe : Hid (∀ w' : World, u.grownBy w' (Value.slice xa xn xc).ownBlock → w'.cell? ⟨BO, 1, none⟩ = some (.slice (some ⟨ga, 0, none⟩) p pc) ∧ w'.cell? ⟨ga, 0, none⟩ = some (.slice xa xn xc) ∧ w'.frozen? ⟨ga, 0, none⟩ = false) := fun w' hk => by
                have e1 := HSB.out.bx.keep (Keeps.grown hk (P := fun j => j = BO) (fun j hj e => by have := HOf.out j e; omega)) rfl
                exact ⟨e1.cells 1, (cell_grown hk (by omega) (fun e => (HOf.out ga e.symm).2.2 rfl)).trans hcell, (frozen_grown hk (by omega) (fun e => (HOf.out ga e.symm).2.2 rfl)).trans hfrz⟩
              have hxn : xn ≤ 128 := by rw [← hyl]; exact HX.out ys (List.mem_of_getElem? hys)
              clear hyl hys hx0 hrow hoff
              go_upto_region 13 with fail
              skip
              refine wp_region_last (n := 9) (S := fun w' => w'.cell? ⟨BO, 1, none⟩ = some (.slice (some ⟨ga, 0, none⟩) p pc) ∧ w'.cell? ⟨ga, 0, none⟩ = some (.slice xa xn xc) ∧ w'.frozen? ⟨ga, 0, none⟩ = false) (by kernel_rfl) rfl (by kernel_rfl) (HKe.out _ (grown_drew _)) ?_
              intro hS; (try dsimp only at hS)
              simp only [List.take_succ_cons, List.take_zero, List.getElem_toArray, List.getElem_cons_succ, List.getElem_cons_zero]
              refine wpAnyH_take (i := 0) (v := ?v26x) rfl (by kernel_rfl) (by kernel_rfl) (by kernel_rfl) (fun _ _ _ h => h) (Or.inl ⟨by rfl, ?hy26x⟩) hS ?rest26x
              case hy26x => (intro w' hSw; (try dsimp only at hSw); go_simp; (try (with_reducible rfl)))
              (try simp only [Act.put, List.setIfInBounds_toArray, List.set_cons_zero, List.set_cons_succ, List.getElem_toArray, List.getElem_cons_succ, List.getElem_cons_zero])
              refine wpAnyH_take (i := 1) (v := ?v27x) rfl (by kernel_rfl) (by kernel_rfl) (by kernel_rfl) (fun _ _ _ h => h) (Or.inl ⟨by rfl, ?hy27x⟩) hS ?rest27x
              case hy27x => (intro w' hSw; (try dsimp only at hSw); go_simp; (try (with_reducible rfl)))
              (try simp only [Act.put, List.setIfInBounds_toArray, List.set_cons_zero, List.set_cons_succ, List.getElem_toArray, List.getElem_cons_succ, List.getElem_cons_zero])
              refine wpAnyH_take (i := 2) (v := ?v28x) rfl (by kernel_rfl) (by kernel_rfl) (by kernel_rfl) (fun _ _ _ h => h) (Or.inl ⟨by rfl, ?hy28x⟩) hS ?rest28x
              case hy28x => (intro w' hSw; (try dsimp only at hSw); go_simp; (try (with_reducible rfl)))
              (try simp only [Act.put, List.setIfInBounds_toArray, List.set_cons_zero, List.set_cons_succ, List.getElem_toArray, List.getElem_cons_succ, List.getElem_cons_zero])
              refine wpAnyH_take (i := 3) (v := ?v29x) rfl (by kernel_rfl) (by kernel_rfl) (by kernel_rfl) (fun _ _ _ h => h) (Or.inl ⟨by rfl, ?hy29x⟩) hS ?rest29x
              case hy29x => (intro w' hSw; (try dsimp only at hSw); go_simp; (try (with_reducible rfl)))
              (try simp only [Act.put, List.setIfInBounds_toArray, List.set_cons_zero, List.set_cons_succ, List.getElem_toArray, List.getElem_cons_succ, List.getElem_cons_zero])
              refine wpAnyH_take (i := 4) (v := ?v30x) rfl (by kernel_rfl) (by kernel_rfl) (by kernel_rfl) (fun _ _ _ h => h) (Or.inl ⟨by rfl, ?hy30x⟩) hS ?rest30x
              case hy30x => (intro w' hSw; (try dsimp only at hSw); go_simp; (try (with_reducible rfl)))
              (try simp only [Act.put, List.setIfInBounds_toArray, List.set_cons_zero, List.set_cons_succ, List.getElem_toArray, List.getElem_cons_succ, List.getElem_cons_zero])
              refine wpAnyH_take (i := 5) (v := ?v31x) rfl (by kernel_rfl) (by kernel_rfl) (by kernel_rfl) (fun _ _ _ h => h) (Or.inl ⟨by rfl, ?hy31x⟩) hS ?rest31x
              case hy31x => (intro w' hSw; (try dsimp only at hSw); go_simp; (try (with_reducible rfl)))
              (try simp only [Act.put, List.setIfInBounds_toArray, List.set_cons_zero, List.set_cons_succ, List.getElem_toArray, List.getElem_cons_succ, List.getElem_cons_zero])
              refine wpAnyH_ready (rs := [6]) (by kernel_rfl) (by simp) ?_
              refine AllReadyH.cons rfl (fun K hK => ?_) AllReadyH.nil
              (try dsimp only [List.getElem_toArray, List.getElem_cons_succ, List.getElem_cons_zero])
              go_simp
              refine hK.out _ _ (HKe.out _ ((grown_drew _).trans (grown_alloc _ _))) (fun hS9 => ?_)
              clear hK K hS; have hS := hS9; clear hS9; (try dsimp only at hS)
              (try simp only [Act.put, List.setIfInBounds_toArray, List.set_cons_zero, List.set_cons_succ, List.getElem_toArray, List.getElem_cons_succ, List.getElem_cons_zero])
              refine wpAnyH_ready (rs := [7]) (by kernel_rfl) (by simp) ?_
              refine AllReadyH.cons rfl (fun K hK => ?_) AllReadyH.nil
              (try dsimp only [List.getElem_toArray, List.getElem_cons_succ, List.getElem_cons_zero])
              (rw [if_pos (by rfl)]; refine wp_append_lies _ _ _ _ (by rfl) mid 3 i1 _ 1 8 Try.underlying26 HQ.out HQ0.out HQ1.out HQ2.out rfl (by omega) _ (xn) (ys.map (Value.int .i64)) (by rfl) (HRow.out.alloc _) ⟨u.heap.size, 0, none⟩ 1 1 [.int .i64 0] (by rfl) (by rfl) (World.news_of_block (cs := #[.int .i64 0]) (t := 3) (fr := (0, 0)) (heap_alloc_new u _)) (by simp [Value.oneCell']) (by omega) (by simp only [maxLen]; omega) (by omega) (by simp only [World.size_alloc, World.size_drew]; omega) (u.heap.size + 1) (by first | rfl | simp) ?_; intro g7 cap7 u6 hown7 hgrow7 hat7 hlt7)
              have hg7 : u.grownBy u6 (Value.slice xa xn xc).ownBlock := ((grown_drew _).trans (grown_alloc _ _)).trans hgrow7
              refine hK.out _ _ (HKe.out _ hg7) (fun hS9 => ?_)
              clear hK K hS; have hS := hS9; clear hS9; (try dsimp only at hS)
              (try simp only [Act.put, List.setIfInBounds_toArray, List.set_cons_zero, List.set_cons_succ, List.getElem_toArray, List.getElem_cons_succ, List.getElem_cons_zero])
              refine wpAnyH_take (i := 8) (v := ?v32x) rfl (by kernel_rfl) (by kernel_rfl) (by kernel_rfl) (fun _ _ _ h => h) (Or.inl ⟨by rfl, ?hy32x⟩) hS ?rest32x
              case hy32x => (intro w' hSw; (try dsimp only at hSw); go_simp; (try (with_reducible rfl)))
              (try simp only [Act.put, List.setIfInBounds_toArray, List.set_cons_zero, List.set_cons_succ, List.getElem_toArray, List.getElem_cons_succ, List.getElem_cons_zero])
              refine wpAnyH_done (by kernel_rfl) ?_ _
              refine fun K hK => ?_
              go_simp
              refine hK.out _ _ ?_
              clear hK K
              have hturn := HSB.out.ow.cel.turn (w1 := u6) (y := (some ⟨g7, 0, none⟩, xn + 1, cap7)) (by omega) HX0.out hg7 (vs' := (ys ++ [0]).map (Value.int .i64)) (by rw [List.map_append]; exact hown7) (fun k hk => by
                simp only [hdV, Value.ownBlock, Option.some.injEq] at hk
                subst hk
                rcases hat7 with e | e
                · exact .inl e
                · exact .inr (by omega))
              have hB9 : Below mid u (u6.setCell ⟨ga, 0, none⟩ (.slice (some ⟨g7, 0, none⟩) (xn + 1) cap7)) := Below.setCell (p := ⟨ga, 0, none⟩) (below_of_grown hg7 (by omega) (fun j hj => (HOf.out j hj).1)) hg1 _
              have hbx9 : Bx (u6.setCell ⟨ga, 0, none⟩ (.slice (some ⟨g7, 0, none⟩) (xn + 1) cap7)) BO 35 #[.slice T q qc, .slice (some ⟨ga, 0, none⟩) p pc] := (HSB.out.bx.keep (Keeps.grown hg7 (P := fun j => j = BO) (fun j hj e => by have := HOf.out j e; omega)) rfl).keep (Keeps.set (P := fun j => j ≠ ga) (by simp)) (by omega)
              have HBx9 := Lib.hid hbx9; have HB9 := Lib.hid hB9
              have HSt9 : Hid (StaF (fun j => (w.heap.size + 1 + 1) ≤ j) (u6.setCell ⟨ga, 0, none⟩ (.slice (some ⟨g7, 0, none⟩) (xn + 1) cap7)) T (some ⟨ga, 0, none⟩) q p (gs.set 0 (some ⟨g7, 0, none⟩, xn + 1, cap7)) ts (xss.set 0 (ys ++ [0]))) := by
                have e1 : (iss xss).set 0 ((ys ++ [0]).map (Value.int .i64)) = iss (xss.set 0 (ys ++ [0])) := by unfold iss; rw [List.map_set]
                rw [e1] at hturn
                refine StaF.of_ss (Rdf.of_own (HSB.out.ow.tot.same (fun j h1 h2 => hB9.block j (by omega))).own (fun j hj _ _ => hj)) hturn (fun j hj => by have hj' : mid ≤ j := hj; omega) (by omega) (by omega) (len_set8 HX.out ?_)
                rw [List.length_append, HYl.out]
                have := HX64.out ys (List.mem_of_getElem? HYs.out)
                rw [HYl.out] at this
                simp only [List.length_singleton]; omega
              have HRr9 := Lib.hid (HRr.out.same (same_below hB9 (by omega)))
              have HC9 := Lib.hid (HCu.out.below2 hB9 (by omega)); have HO9 := Lib.hid (HOu.out.below_ hB9 (by omega))
              clear hown7 hgrow7 hat7 hg7 hturn hB9 hbx9
              go_wp2_with fail
              go_meet
              exact ⟨T, q, qc, some ⟨ga, 0, none⟩, p, pc, _, ts, _, HBx9.out, HSt9.out, HRr9.out, HC9.out, HO9.out⟩
          · have esw3 : (x == 3) = false := beq_false_of_ne hsw3
            have dsw3 : decide (x = 3) = false := decide_eq_false hsw3
            have p0 : u.cell? ⟨BO, 0, none⟩ = some (.slice T q qc) := HSB.out.bx.cells 0; have pf0 := HSB.out.bx.free 0
            have p1 : u.cell? ⟨BO, 1, none⟩ = some (.slice X p pc) := HSB.out.bx.cells 1; have pf1 := HSB.out.bx.free 1
            go_wp2_with fail
            go_meet
            exact ⟨T, q, qc, X, p, pc, gs, ts, xss, HSB.out.bx, HStF.out, HRr.out, HCu.out, HOu.out⟩
  obtain ⟨T9, q9, c9, X9, p9, d9, gs9, ts9, xss9, hbx, hrd, hrr, hc, ho⟩ := hcut
  obtain ⟨u9, rfl⟩ : ∃ u9 : World, u9 = wc := ⟨_, rfl⟩
  have hlu := hbx.lt
  have HBx := Lib.hid hbx; have HRd := Lib.hid hrd; have HRr := Lib.hid hrr; have HCf := Lib.hid hc; have HOf := Lib.hid ho
  clear hbx hrd hrr hc ho
  have p0 : u9.cell? ⟨BO, 0, none⟩ = some (.slice T9 q9 c9) := HBx.out.cells 0; have pf0 := HBx.out.free 0
  have p1 : u9.cell? ⟨BO, 1, none⟩ = some (.slice X9 p9 d9) := HBx.out.cells 1; have pf1 := HBx.out.free 1
  have HKf := Lib.hid (keeps_step (set1_keeps u9 (w.heap.size + 1) 0 (.slice T9 q9 c9)) 1 (.slice X9 p9 d9))
  have r0 : u9.cell? ⟨w.heap.size + 1, 0, none⟩ = some (.slice none 0 0) := HRr.out.cells 0
  have r1 : u9.cell? ⟨w.heap.size + 1, 1, none⟩ = some (.slice none 0 0) := HRr.out.cells 1
  have rf0 := HRr.out.free 0; have rf1 := HRr.out.free 1
  have hfin : ∀ w9, w9 = (u9.setCell ⟨(w.heap.size + 1), 0, none⟩ (.slice T9 q9 c9)).setCell ⟨(w.heap.size + 1), 1, none⟩ (.slice X9 p9 d9) → StaF (fun j => w.heap.size ≤ j) w9 T9 X9 q9 p9 gs9 ts9 xss9 ∧ Cur w9 g A n c bs ∧ Only g (g + 1) w w9 := by
    intro w9 h9
    subst h9
    exact ⟨((HRd.out.keep (HKf.out.1.mono (fun j hj => by have hj2 : w.heap.size + 1 + 1 ≤ j := hj; omega))).mono (fun j hj _ => by have hj2 : w.heap.size + 1 + 1 ≤ j := hj; omega)), HCf.out.below2 HKf.out.2 (by omega), HOf.out.below_ HKf.out.2 (by omega)⟩
  have HFin := Lib.hid hfin
  clear hfin
  go_wp2_with ((with_reducible refine bodyPost_ret (v := .agg #[.slice T9 q9 c9, .slice X9 p9 d9]) ?k1 ?k2 ?k3); (case k1 => (simp [results, Try.results70, go_sem, r0, r1, rf0, rf1])); (case k2 => rfl); (case k3 => (exact ⟨T9, q9, c9, X9, p9, d9, gs9, ts9, xss9, rfl, (HFin.out _ rfl).1, (HFin.out _ rfl).2.1, (HFin.out _ rfl).2.2⟩)))

end Go.Proofs.Ytchkmcikpamdeaa
