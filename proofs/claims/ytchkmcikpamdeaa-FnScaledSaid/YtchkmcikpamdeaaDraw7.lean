/-
  The draws of an example.
-/
import Derived.Test.YtchkmcikpamdeaaDraw9
import Derived.Deep.CutBlock
namespace Go.Proofs.Ytchkmcikpamdeaa
open Go.RowKit
set_option linter.unusedSimpArgs false
set_option linter.unusedVariables false

theorem sBinsT_any (a : AD) (h : AH) (w : World) (r : AttrC w a h) : Calls Try.prog 38 #[.agg #[.string a.nm, .slice h.1.1 h.1.2.1 h.1.2.2, .slice h.2.1 h.2.2.1 h.2.2.2]] w fun e w' => e = .returned (.int .i64 (if attrB a then binsI a else 0)) ∧ Below w.heap.size w w' := by
  cases ha : attrB a
  · have HB := Lib.hid (below_alloc1 (w := w) (.cells #[.string a.nm, .slice h.1.1 h.1.2.1 h.1.2.2, .slice h.2.1 h.2.2.1 h.2.2.2] 71))
    have RR := Lib.hid (r.below HB.out (Nat.le_refl _))
    have HA := Lib.hid ha
    clear ha
    go_enter Try.func38, Try.ntmps38
    go_wp2_with fail
    refine (sAttrOk_c RR.out).mono ?_
    rw [HA.out]
    rintro e w2 ⟨rfl, b2⟩
    have HB2 := Lib.hid (HB.out.trans (b2.mono (by simp)))
    clear b2
    go_wp2_with fail
    go_ret
    exact ⟨rfl, HB2.out⟩
  · exact (sBins_any a h w r ha).mono fun _ _ h => ⟨h.1, h.2⟩
/-- What a draw of an example may answer. -/
def ExR (K : Nat) (g : Nat) (A : Option Addr) (n c : Nat) (bs : List Int) (w : World) (e : Ending) (w' : World) : Prop :=
  ∃ (E : Option Addr) (k c' : Nat) (bl : List Int) (cl : Int), e = .returned (.agg #[.slice E k c', .int .i64 cl]) ∧ k ≤ K ∧ w'.ownsRow w.heap.size 3 1 (.slice E k c') k (bl.map (Value.int .i64)) ∧ Cur w' g A n c bs ∧ Only g (g + 1) w w'
set_option maxRecDepth 20000 in
set_option maxHeartbeats 8000000 in
theorem l7Right_any (g : Nat) (A : Option Addr) (n c : Nat) (bs : List Int) (w : World) (hu : ∀ z ∈ bs, 0 ≤ z ∧ z ≤ 255) (hn : n ≤ 1073741824) (h : Cur w g A n c bs) (S1 S2 : Option Addr) (sn sc sm sd : Nat) (hs : List AH) (ats : List AD) (cs : List ByteArray) (s : SchF (· ≠ g) w S1 S2 sn sm sd hs ats cs) :
    Calls Try.prog 109 #[.pointer (some ⟨g, 0, none⟩), .agg #[.slice S1 sn sc, .slice S2 sm sd]] w (ExR 16 g A n c bs w) := by
  have HC := Lib.hid h
  have HU := Lib.hid hu
  have HS := Lib.hid s
  have hgw := h.lt
  obtain ⟨i1, hi0, hz0, hz1, hz2⟩ := info_parts info_int
  have HQ := Lib.hid hi0; have HQ0 := Lib.hid hz0; have HQ1 := Lib.hid hz1; have HQ2 := Lib.hid hz2
  clear hi0 hz0 hz1 hz2
  clear h hu
  have B0 := Below.refl w.heap.size w
  have s0 : w.heap.size ≤ w.heap.size := Nat.le_refl _
  go_enter Try.func109, Try.ntmps109
  have s_2 : Bx (w.alloc (.cells #[.slice S1 sn sc, .slice S2 sm sd] 40)) (w.heap.size) 40 #[.slice S1 sn sc, .slice S2 sm sd] := Bx.new _ _ _
  have B_2 := B0.alloc s0 (.cells #[.slice S1 sn sc, .slice S2 sm sd] 40)
  clear B0
  have cs_3 := s_2.cells
  have fs_3 := s_2.free
  clear cs_3 fs_3
  have s_4 := s_2.same (same_alloc (.cells #[.slice none 0 0, .int .i64 0] 43) (by simp only [World.size_alloc]; omega))
  clear s_2
  have r_5 : Bx ((w.alloc (.cells #[.slice S1 sn sc, .slice S2 sm sd] 40)).alloc (.cells #[.slice none 0 0, .int .i64 0] 43)) (w.heap.size + 1) 43 #[.slice none 0 0, .int .i64 0] := by
    have h := Bx.new (w.alloc (.cells #[.slice S1 sn sc, .slice S2 sm sd] 40)) 43 #[.slice none 0 0, .int .i64 0]
    simpa only [World.size_alloc] using h
  have B_5 := B_2.alloc (by simp only [World.size_alloc]; omega) (.cells #[.slice none 0 0, .int .i64 0] 43)
  clear B_2
  have cs_6 := s_4.cells
  have fs_6 := s_4.free
  have cr_7 := r_5.cells
  have fr_7 := r_5.free
  clear cs_6 fs_6
  clear cr_7 fr_7
  have s_8 := s_4.same (same_alloc (.cells #[.slice none 0 0, .int .i64 0] 43) (by simp only [World.size_alloc]; omega))
  clear s_4
  have r_8 := r_5.same (same_alloc (.cells #[.slice none 0 0, .int .i64 0] 43) (by simp only [World.size_alloc]; omega))
  clear r_5
  have e_9 : Bx (((w.alloc (.cells #[.slice S1 sn sc, .slice S2 sm sd] 40)).alloc (.cells #[.slice none 0 0, .int .i64 0] 43)).alloc (.cells #[.slice none 0 0, .int .i64 0] 43)) (w.heap.size + 1 + 1) 43 #[.slice none 0 0, .int .i64 0] := by
    have h := Bx.new ((w.alloc (.cells #[.slice S1 sn sc, .slice S2 sm sd] 40)).alloc (.cells #[.slice none 0 0, .int .i64 0] 43)) 43 #[.slice none 0 0, .int .i64 0]
    simpa only [World.size_alloc] using h
  have B_9 := B_5.alloc (by simp only [World.size_alloc]; omega) (.cells #[.slice none 0 0, .int .i64 0] 43)
  clear B_5
  have cs_10 := s_8.cells
  have fs_10 := s_8.free
  have cr_11 := r_8.cells
  have fr_11 := r_8.free
  have ce_12 := e_9.cells
  have fe_12 := e_9.free
  go_wp2_with fail
  clear cs_10 fs_10
  clear cr_11 fr_11
  clear ce_12 fe_12
  obtain ⟨v13, hv13⟩ : ∃ v13, v13 = (((w.alloc (.cells #[.slice S1 sn sc, .slice S2 sm sd] 40)).alloc (.cells #[.slice none 0 0, .int .i64 0] 43)).alloc (.cells #[.slice none 0 0, .int .i64 0] 43)) := ⟨_, rfl⟩
  have zv13 : w.heap.size + 1 + 1 + 1 ≤ v13.heap.size := by rw [hv13]; simp
  rw [← hv13] at s_8 r_8 e_9 B_9 ⊢
  clear hv13
  have HSb0 := Lib.hid s_8; have HRr0 := Lib.hid r_8; have HEb0 := Lib.hid e_9
  have HCv := Lib.hid (HC.out.below B_9 (Nat.le_refl _))
  have HOv : Hid (Only g (g + 1) w v13) := Only.of_below B_9 (Nat.le_refl _)
  have hs16 : sn ≤ 16 := s.hn
  have hm16 : sm ≤ 16 := s.hm
  clear s_8 r_8 e_9 B_9
  go_loopw [6] (fun s6 wr => ∃ (k : Nat) (A1 : Option Addr) (c1 : Nat) (bl : List Int), k ≤ sn ∧ s6 = .int .i64 k ∧ Bx wr w.heap.size 40 #[.slice S1 sn sc, .slice S2 sm sd] ∧ Bx wr (w.heap.size + 1) 43 #[.slice none 0 0, .int .i64 0] ∧ Bx wr (w.heap.size + 1 + 1) 43 #[.slice A1 k c1, .int .i64 0] ∧ wr.ownsRow (w.heap.size + 1 + 1 + 1) 3 1 (.slice A1 k c1) k (bl.map (Value.int .i64)) ∧ Cur wr g A n c bs ∧ Only g (g + 1) w wr) (fun s6 _ => sn - (intOf s6).toNat)
  case atStart => exact ⟨0, none, 0, [], Nat.zero_le _, rfl, HSb0.out, HRr0.out, HEb0.out, World.ownsRow_nil _ _ _ _, HCv.out, HOv.out⟩
  case round =>
    obtain ⟨k, A1, c1, bl, hk, rfl, hsb, hrr, heb, hown, hc, ho⟩ := hrel
    obtain ⟨wo, rfl⟩ : ∃ wo : World, wo = wr := ⟨_, rfl⟩
    have hsz := ho.size
    have hlb := heb.lt
    have HSb4 := Lib.hid hsb; have HRr4 := Lib.hid hrr; have HEb4 := Lib.hid heb; have HOwn4 := Lib.hid hown; have HC4 := Lib.hid hc; have HO4 := Lib.hid ho
    clear hsb hrr heb hown hc ho HSb0 HRr0 HEb0 HCv HOv
    have p0 : wo.cell? ⟨w.heap.size, 0, none⟩ = some (.slice S1 sn sc) := HSb4.out.cells 0; have pf0 := HSb4.out.free 0
    have p1 : wo.cell? ⟨w.heap.size, 1, none⟩ = some (.slice S2 sm sd) := HSb4.out.cells 1; have pf1 := HSb4.out.free 1
    by_cases hlt : k < sn
    · have hlti : (k : Int) < (sn : Int) := by omega
      have hSo := HS.out.keep (Keeps.only HO4.out (fun j hj => by omega))
      obtain ⟨h, a, ba, off, ha, hac, hA, hbl, d0, d1_, d2_⟩ := hSo.sch.get hlt
      subst hA
      have HAc := Lib.hid hac
      clear hSo hac ha
      go_wp2_with fail
      refine (sBinsT_any a h _ HAc.out).mono ?_
      rintro e v5 ⟨rfl, hb⟩
      have s_5 := hb.size
      have K2 := Keeps.below (P := fun j => True) hb (Nat.le_refl _)
      have HSb5 := Lib.hid (HSb4.out.keep K2 trivial); have HRr5 := Lib.hid (HRr4.out.keep K2 trivial); have HEb5 := Lib.hid (HEb4.out.keep K2 trivial); have HOwn5 := Lib.hid (own_keep HOwn4.out K2 (fun _ _ _ => trivial)); have HC5 := Lib.hid (HC4.out.below hb (Nat.le_refl _)); have HO5 := Lib.hid (HO4.out.below_ hb (by omega))
      obtain ⟨nb, hnb⟩ : ∃ nb, (if attrB a then binsI a else 0) = nb := ⟨_, rfl⟩
      rw [hnb]
      clear hb K2 HSb4 HRr4 HEb4 HOwn4 HC4 HO4 d0 d1_ d2_ p0 p1 pf0 pf1 HAc hnb
      go_wp2_with fail
      refine (l1Below_any g A n c bs nb _ HU.out hn HC5.out).mono ?_
      rintro e v6 ⟨x, rfl, -, hc1, ho1⟩
      have s_6 := ho1.size
      have K2 := keeps_cur ho1
      have HSb6 := Lib.hid (HSb5.out.keep K2 (by omega)); have HRr6 := Lib.hid (HRr5.out.keep K2 (by omega)); have HEb6 := Lib.hid (HEb5.out.keep K2 (by omega)); have HOwn6 := Lib.hid (own_keep HOwn5.out K2 (fun j hj _ => by omega)); have HC6 := Lib.hid hc1; have HO6 := Lib.hid (HO5.out.trans ho1)
      clear hc1 ho1 K2 HSb5 HRr5 HEb5 HOwn5 HC5 HO5
      go_wp2_with fail
      refine (l1Once_any g A n c bs 9 _ HU.out hn HC6.out).mono ?_
      rintro e v7 ⟨t, rfl, hc1, ho1⟩
      have s_7 := ho1.size
      have K2 := keeps_cur ho1
      have HSb7 := Lib.hid (HSb6.out.keep K2 (by omega)); have HRr7 := Lib.hid (HRr6.out.keep K2 (by omega)); have HEb7 := Lib.hid (HEb6.out.keep K2 (by omega)); have HOwn7 := Lib.hid (own_keep HOwn6.out K2 (fun j hj _ => by omega)); have HC7 := Lib.hid hc1; have HO7 := Lib.hid (HO6.out.trans ho1)
      clear hc1 ho1 K2 HSb6 HRr6 HEb6 HOwn6 HC6 HO6
      have e0 : v7.cell? ⟨w.heap.size + 1 + 1, 0, none⟩ = some (.slice A1 k c1) := HEb7.out.cells 0
      have ef0 := HEb7.out.free 0
      cases t
      · skip
        go_wp2_with (at_builtin; refine wpList_append_lies _ rfl _ _ 26 rfl (w.heap.size + 1 + 1 + 1) 3 i1 (.int .i64 0) 1 8 Try.underlying26 HQ.out HQ0.out HQ1.out HQ2.out rfl (by decide) (.slice A1 k c1) k (bl.map (Value.int .i64)) rfl (HOwn7.out.alloc _) ⟨v7.heap.size, 0, none⟩ 1 1 [.int .i64 x] rfl rfl (cell_one_new _ _ _) ?c2 (by omega) ?c3 ?c4 ?c5 _ rfl ?_)
        case c2 => first | rfl | (intro u hu; simp at hu; subst hu; rfl)
        case c3 => first | (unfold maxLen; omega) | omega
        case c4 => omega
        case c5 => first | (simp only [World.size_alloc]; omega) | omega
        intro g7 cap7 u6 hown7 hgrow7 hat7 hlt7
        have hg7 : v7.grownBy u6 (Value.slice A1 k c1).ownBlock := (grown_alloc _ _).trans hgrow7
        have hrow : ∀ j, (Value.slice A1 k c1).ownBlock = some j → (w.heap.size + 1 + 1 + 1) ≤ j := fun j hj => (HOwn7.out.lt j hj).1
        have K8 := Keeps.grown hg7 (P := fun j => j ≤ (w.heap.size + 1 + 1)) (fun j hj e => by have := hrow j e; omega)
        have hu6 := HEb7.out.keep K8 (Nat.le_refl _)
        have hc6 : u6.cell? ⟨(w.heap.size + 1 + 1), 0, none⟩ = some (.slice A1 k c1) := hu6.cells 0
        have hf6 : u6.frozen? ⟨(w.heap.size + 1 + 1), 0, none⟩ = false := hu6.free 0
        have HK9 := Lib.hid (app_keeps (b := (w.heap.size + 1 + 1)) (i := 0) (x := .slice (some ⟨g7, 0, none⟩) (k + 1) cap7) hg7)
        have HB9 := Lib.hid (app_below (b := (w.heap.size + 1 + 1)) (i := 0) (B := (w.heap.size + 1 + 1)) (x := .slice (some ⟨g7, 0, none⟩) (k + 1) cap7) hg7 (by omega) (fun j hj => by have := hrow j hj; omega) (Nat.le_refl _))
        have HEb9 := Lib.hid (hu6.set_ 0 (.slice (some ⟨g7, 0, none⟩) (k + 1) cap7))
        have HSb9 := Lib.hid (HSb7.out.keep HK9.out ⟨by omega, fun e => by have := hrow _ e; omega⟩); have HRr9 := Lib.hid (HRr7.out.keep HK9.out ⟨by omega, fun e => by have := hrow _ e; omega⟩)
        have HOwn9 := Lib.hid (own_keep hown7 (Keeps.set (P := fun j => j ≠ (w.heap.size + 1 + 1)) (b := (w.heap.size + 1 + 1)) (i := 0) (u := .slice (some ⟨g7, 0, none⟩) (k + 1) cap7) (by simp)) (fun j hj _ => by omega))
        have HC9 := Lib.hid (HC7.out.below2 HB9.out (by omega)); have HO9 := Lib.hid (HO7.out.below_ HB9.out (by omega))
        clear hown7 hgrow7 hat7 hg7 hrow K8 hu6
        go_wp2_with fail
        go_roundw
        case rel => exact ⟨k + 1, some ⟨g7, 0, none⟩, cap7, bl ++ [x], by omega, by go_num, HSb9.out, HRr9.out, HEb9.out, by rw [List.map_append]; exact HOwn9.out, HC9.out, HO9.out⟩
        case measure => simp [intOf]; omega
      · skip
        go_wp2_with (at_builtin; refine wpList_append_lies _ rfl _ _ 26 rfl (w.heap.size + 1 + 1 + 1) 3 i1 (.int .i64 0) 1 8 Try.underlying26 HQ.out HQ0.out HQ1.out HQ2.out rfl (by decide) (.slice A1 k c1) k (bl.map (Value.int .i64)) rfl (HOwn7.out.alloc _) ⟨v7.heap.size, 0, none⟩ 1 1 [.int .i64 (-1)] rfl rfl (cell_one_new _ _ _) ?c2 (by omega) ?c3 ?c4 ?c5 _ rfl ?_)
        case c2 => first | rfl | (intro u hu; simp at hu; subst hu; rfl)
        case c3 => first | (unfold maxLen; omega) | omega
        case c4 => omega
        case c5 => first | (simp only [World.size_alloc]; omega) | omega
        intro g7 cap7 u6 hown7 hgrow7 hat7 hlt7
        have hg7 : v7.grownBy u6 (Value.slice A1 k c1).ownBlock := (grown_alloc _ _).trans hgrow7
        have hrow : ∀ j, (Value.slice A1 k c1).ownBlock = some j → (w.heap.size + 1 + 1 + 1) ≤ j := fun j hj => (HOwn7.out.lt j hj).1
        have K8 := Keeps.grown hg7 (P := fun j => j ≤ (w.heap.size + 1 + 1)) (fun j hj e => by have := hrow j e; omega)
        have hu6 := HEb7.out.keep K8 (Nat.le_refl _)
        have hc6 : u6.cell? ⟨(w.heap.size + 1 + 1), 0, none⟩ = some (.slice A1 k c1) := hu6.cells 0
        have hf6 : u6.frozen? ⟨(w.heap.size + 1 + 1), 0, none⟩ = false := hu6.free 0
        have HK9 := Lib.hid (app_keeps (b := (w.heap.size + 1 + 1)) (i := 0) (x := .slice (some ⟨g7, 0, none⟩) (k + 1) cap7) hg7)
        have HB9 := Lib.hid (app_below (b := (w.heap.size + 1 + 1)) (i := 0) (B := (w.heap.size + 1 + 1)) (x := .slice (some ⟨g7, 0, none⟩) (k + 1) cap7) hg7 (by omega) (fun j hj => by have := hrow j hj; omega) (Nat.le_refl _))
        have HEb9 := Lib.hid (hu6.set_ 0 (.slice (some ⟨g7, 0, none⟩) (k + 1) cap7))
        have HSb9 := Lib.hid (HSb7.out.keep HK9.out ⟨by omega, fun e => by have := hrow _ e; omega⟩); have HRr9 := Lib.hid (HRr7.out.keep HK9.out ⟨by omega, fun e => by have := hrow _ e; omega⟩)
        have HOwn9 := Lib.hid (own_keep hown7 (Keeps.set (P := fun j => j ≠ (w.heap.size + 1 + 1)) (b := (w.heap.size + 1 + 1)) (i := 0) (u := .slice (some ⟨g7, 0, none⟩) (k + 1) cap7) (by simp)) (fun j hj _ => by omega))
        have HC9 := Lib.hid (HC7.out.below2 HB9.out (by omega)); have HO9 := Lib.hid (HO7.out.below_ HB9.out (by omega))
        clear hown7 hgrow7 hat7 hg7 hrow K8 hu6
        go_wp2_with fail
        go_roundw
        case rel => exact ⟨k + 1, some ⟨g7, 0, none⟩, cap7, bl ++ [(-1)], by omega, by go_num, HSb9.out, HRr9.out, HEb9.out, by rw [List.map_append]; exact HOwn9.out, HC9.out, HO9.out⟩
        case measure => simp [intOf]; omega
    · have hlti : ¬ (k : Int) < (sn : Int) := by omega
      have hk16 : k ≤ 16 := by omega
      go_wp2_with fail
      refine (l1Below_any g A n c bs (sm : Nat) _ HU.out hn HC4.out).mono ?_
      rintro e v7 ⟨cl, rfl, -, hc1, ho1⟩
      have s_7 := ho1.size
      have K2 := keeps_cur ho1
      have HSb7 := Lib.hid (HSb4.out.keep K2 (by omega)); have HRr7 := Lib.hid (HRr4.out.keep K2 (by omega)); have HEb7 := Lib.hid (HEb4.out.keep K2 (by omega)); have HOwn7 := Lib.hid (own_keep HOwn4.out K2 (fun j hj _ => by omega)); have HC7 := Lib.hid hc1; have HO7 := Lib.hid (HO4.out.trans ho1)
      clear hc1 ho1 K2 HSb4 HRr4 HEb4 HOwn4 HC4 HO4
      have q0 : v7.cell? ⟨(w.heap.size + 1 + 1), 0, none⟩ = some (.slice A1 k c1) := HEb7.out.cells 0; have qf0 := HEb7.out.free 0
      have q1 : v7.cell? ⟨(w.heap.size + 1 + 1), 1, none⟩ = some (.int .i64 0) := HEb7.out.cells 1; have qf1 := HEb7.out.free 1
      obtain ⟨u8, hu8⟩ : ∃ u8, u8 = v7.setCell ⟨(w.heap.size + 1 + 1), 1, none⟩ (.int .i64 cl) := ⟨_, rfl⟩
      have HU8 := Lib.hid hu8
      have z8 : u8.heap.size = v7.heap.size := by rw [hu8, World.size_setCell]
      have hk8 := set1_keeps v7 (w.heap.size + 1 + 1) 1 (.int .i64 cl)
      rw [← hu8] at hk8
      have HSb8 := Lib.hid (HSb7.out.keep hk8.1 (by omega)); have HRr8 := Lib.hid (HRr7.out.keep hk8.1 (by omega))
      have HEb8 : Hid (Bx u8 (w.heap.size + 1 + 1) 43 #[.slice A1 k c1, .int .i64 cl]) := by rw [hu8]; exact HEb7.out.set_ 1 (.int .i64 cl)
      have HOwn8 := Lib.hid (own_keep HOwn7.out hk8.1 (fun j hj _ => by omega)); have HC8 := Lib.hid (HC7.out.below2 hk8.2 (by omega)); have HO8 := Lib.hid (HO7.out.below_ hk8.2 (by omega))
      clear hk8 hu8 HSb7 HRr7 HEb7 HOwn7 HC7 HO7
      have y0 : u8.cell? ⟨w.heap.size, 0, none⟩ = some (.slice S1 sn sc) := HSb8.out.cells 0; have yf0 := HSb8.out.free 0
      have y1 : u8.cell? ⟨w.heap.size, 1, none⟩ = some (.slice S2 sm sd) := HSb8.out.cells 1; have yf1 := HSb8.out.free 1
      have z0 : u8.cell? ⟨(w.heap.size + 1 + 1), 0, none⟩ = some (.slice A1 k c1) := HEb8.out.cells 0; have zf0 := HEb8.out.free 0
      have z1 : u8.cell? ⟨(w.heap.size + 1 + 1), 1, none⟩ = some (.int .i64 cl) := HEb8.out.cells 1; have zf1 := HEb8.out.free 1
      clear p0 p1 pf0 pf1
      by_cases h0 : k = 0
      · subst h0
        have HRr := HRr8; have HOwnF := HOwn8; have HCf := HC8; have HOf := HO8
        go_upto_region 10 with fail
        rw [← HU8.out]
        clear HU8 q0 q1 qf0 qf1
        have HKf := Lib.hid (keeps_step (set1_keeps u8 (w.heap.size + 1) 0 (.slice A1 0 c1)) 1 (.int .i64 (cl)))
        have r0 : u8.cell? ⟨w.heap.size + 1, 0, none⟩ = some (.slice none 0 0) := HRr.out.cells 0
        have r1 : u8.cell? ⟨w.heap.size + 1, 1, none⟩ = some (.int .i64 0) := HRr.out.cells 1
        have rf0 := HRr.out.free 0; have rf1 := HRr.out.free 1
        have hfin : ∀ w9, w9 = (u8.setCell ⟨(w.heap.size + 1), 0, none⟩ (.slice A1 0 c1)).setCell ⟨(w.heap.size + 1), 1, none⟩ (.int .i64 (cl)) → w9.ownsRow w.heap.size 3 1 (.slice A1 0 c1) 0 (bl.map (Value.int .i64)) ∧ Cur w9 g A n c bs ∧ Only g (g + 1) w w9 := by
          intro w9 h9
          subst h9
          exact ⟨own_base (own_keep HOwnF.out HKf.out.1 (fun j hj _ => by omega)) (by omega), HCf.out.below2 HKf.out.2 (by omega), HOf.out.below_ HKf.out.2 (by omega)⟩
        have HFin := Lib.hid hfin
        clear hfin
        go_wp2_with ((with_reducible refine bodyPost_ret (v := .agg #[.slice A1 0 c1, .int .i64 (cl)]) ?k1 ?k2 ?k3); (case k1 => (simp [results, Try.results109, go_sem, r0, r1, rf0, rf1])); (case k2 => rfl); (case k3 => (exact ⟨A1, 0, c1, bl, cl, rfl, hk16, (HFin.out _ rfl).1, (HFin.out _ rfl).2.1, (HFin.out _ rfl).2.2⟩)))
      · have hk0 : 0 < k := by omega
        have hk0i : (0 : Int) < (k : Int) := by omega
        have hk0d : decide (0 < k) = true := decide_eq_true hk0
        obtain ⟨ga, ca, hAA, hga1, hga2, hca1, hca2⟩ := own_form HOwn8.out hk0
        simp only [Value.slice.injEq] at hAA
        obtain ⟨rfl, _, rfl⟩ := hAA
        go_upto_region 10 with fail
        rw [← HU8.out]
        clear HU8 q0 q1 qf0 qf1
        go_wp2_with fail
        refine (l1Once_any g A n c bs 5 _ HU.out hn HC8.out).mono ?_
        rintro e u9 ⟨t, rfl, hc1, ho1⟩
        have s_9 := ho1.size
        have K2 := keeps_cur ho1
        have HSb9 := Lib.hid (HSb8.out.keep K2 (by omega)); have HRr9 := Lib.hid (HRr8.out.keep K2 (by omega)); have HEb9 := Lib.hid (HEb8.out.keep K2 (by omega)); have HOwn9 := Lib.hid (own_keep HOwn8.out K2 (fun j hj _ => by omega)); have HC9 := Lib.hid hc1; have HO9 := Lib.hid (HO8.out.trans ho1)
        clear hc1 ho1 K2 HSb8 HRr8 HEb8 HOwn8 HC8 HO8
        have p0 : u9.cell? ⟨w.heap.size, 0, none⟩ = some (.slice S1 sn sc) := HSb9.out.cells 0; have pf0 := HSb9.out.free 0
        have p1 : u9.cell? ⟨w.heap.size, 1, none⟩ = some (.slice S2 sm sd) := HSb9.out.cells 1; have pf1 := HSb9.out.free 1
        have q0 : u9.cell? ⟨(w.heap.size + 1 + 1), 0, none⟩ = some (.slice (some ⟨ga, 0, none⟩) k c1) := HEb9.out.cells 0; have qf0 := HEb9.out.free 0
        have q1 : u9.cell? ⟨(w.heap.size + 1 + 1), 1, none⟩ = some (.int .i64 cl) := HEb9.out.cells 1; have qf1 := HEb9.out.free 1
        clear y0 y1 yf0 yf1 z0 z1 zf0 zf1
        have HRr := HRr9; have HOwnF := HOwn9; have HCf := HC9; have HOf := HO9
        by_cases hm0 : sm = 0
        · subst hm0
          have hm0i : ¬ (0 : Int) < ((0 : Nat) : Int) := by omega
          cases t
          all_goals
            skip
            have HKf := Lib.hid (keeps_step (set1_keeps u9 (w.heap.size + 1) 0 (.slice (some ⟨ga, 0, none⟩) k c1)) 1 (.int .i64 (cl)))
            have r0 : u9.cell? ⟨w.heap.size + 1, 0, none⟩ = some (.slice none 0 0) := HRr.out.cells 0
            have r1 : u9.cell? ⟨w.heap.size + 1, 1, none⟩ = some (.int .i64 0) := HRr.out.cells 1
            have rf0 := HRr.out.free 0; have rf1 := HRr.out.free 1
            have hfin : ∀ w9, w9 = (u9.setCell ⟨(w.heap.size + 1), 0, none⟩ (.slice (some ⟨ga, 0, none⟩) k c1)).setCell ⟨(w.heap.size + 1), 1, none⟩ (.int .i64 (cl)) → w9.ownsRow w.heap.size 3 1 (.slice (some ⟨ga, 0, none⟩) k c1) k (bl.map (Value.int .i64)) ∧ Cur w9 g A n c bs ∧ Only g (g + 1) w w9 := by
              intro w9 h9
              subst h9
              exact ⟨own_base (own_keep HOwnF.out HKf.out.1 (fun j hj _ => by omega)) (by omega), HCf.out.below2 HKf.out.2 (by omega), HOf.out.below_ HKf.out.2 (by omega)⟩
            have HFin := Lib.hid hfin
            clear hfin
            go_wp2_with ((with_reducible refine bodyPost_ret (v := .agg #[.slice (some ⟨ga, 0, none⟩) k c1, .int .i64 (cl)]) ?k1 ?k2 ?k3); (case k1 => (simp [results, Try.results109, go_sem, r0, r1, rf0, rf1])); (case k2 => rfl); (case k3 => (exact ⟨(some ⟨ga, 0, none⟩), k, c1, bl, cl, rfl, hk16, (HFin.out _ rfl).1, (HFin.out _ rfl).2.1, (HFin.out _ rfl).2.2⟩)))
        · have hm0p : 0 < sm := by omega
          have hm0i : (0 : Int) < (sm : Int) := by omega
          have hm0d : decide (0 < sm) = true := decide_eq_true hm0p
          cases t
          · obtain ⟨b0, hb0⟩ : ∃ b0, bl[0]? = some b0 := ⟨_, List.getElem?_eq_getElem (by have := HOwn9.out.1; simp at this; omega)⟩
            have z0 : u9.cell? ⟨ga, 0, none⟩ = some (.int .i64 b0) := by rw [HOwn9.out.cellAt 0 (by omega)]; simp [hb0]
            have HS11 := Lib.hid (show u9.cell? ⟨(w.heap.size + 1 + 1), 0, none⟩ = some (.slice (some ⟨ga, 0, none⟩) k c1) ∧ u9.cell? ⟨(w.heap.size + 1 + 1), 1, none⟩ = some (.int .i64 cl) ∧ u9.frozen? ⟨(w.heap.size + 1 + 1), 1, none⟩ = false ∧ u9.cell? ⟨ga, 0, none⟩ = some (.int .i64 b0) ∧ u9.cell? ⟨w.heap.size, 1, none⟩ = some (.slice S2 sm sd) from ⟨q0, q1, qf1, z0, p1⟩)
            have hm0n : ¬ (sm : Int) = 0 := by omega
            have hm0m : ¬ sm = 0 := hm0
            clear hb0
            go_upto_region 11 with fail
            refine wp_region_last (n := 10) (S := fun w' => w'.cell? ⟨(w.heap.size + 1 + 1), 0, none⟩ = some (.slice (some ⟨ga, 0, none⟩) k c1) ∧ w'.cell? ⟨(w.heap.size + 1 + 1), 1, none⟩ = some (.int .i64 cl) ∧ w'.frozen? ⟨(w.heap.size + 1 + 1), 1, none⟩ = false ∧ w'.cell? ⟨ga, 0, none⟩ = some (.int .i64 b0) ∧ w'.cell? ⟨w.heap.size, 1, none⟩ = some (.slice S2 sm sd)) (by kernel_rfl) rfl (by kernel_rfl) (HS11.out) ?_
            intro hS; (try dsimp only at hS)
            simp only [List.take_succ_cons, List.take_zero, List.getElem_toArray, List.getElem_cons_succ, List.getElem_cons_zero]
            refine wpAnyH_take (i := 0) (v := ?v1x) rfl (by kernel_rfl) (by kernel_rfl) (by kernel_rfl) (fun _ _ _ h => h) (Or.inl ⟨by rfl, ?hy1x⟩) hS ?rest1x
            case hy1x => (intro w' hSw; (try dsimp only at hSw); go_simp; (try (with_reducible rfl)))
            (try simp only [Act.put, List.setIfInBounds_toArray, List.set_cons_zero, List.set_cons_succ, List.getElem_toArray, List.getElem_cons_succ, List.getElem_cons_zero])
            refine wpAnyH_take (i := 1) (v := ?v2x) rfl (by kernel_rfl) (by kernel_rfl) (by kernel_rfl) (fun _ _ _ h => h) (Or.inl ⟨by rfl, ?hy2x⟩) hS ?rest2x
            case hy2x => (intro w' hSw; (try dsimp only at hSw); go_simp; (try (with_reducible rfl)))
            (try simp only [Act.put, List.setIfInBounds_toArray, List.set_cons_zero, List.set_cons_succ, List.getElem_toArray, List.getElem_cons_succ, List.getElem_cons_zero])
            refine wpAnyH_take (i := 2) (v := ?v3x) rfl (by kernel_rfl) (by kernel_rfl) (by kernel_rfl) (fun _ _ _ h => h) (Or.inl ⟨by rfl, ?hy3x⟩) hS ?rest3x
            case hy3x => (intro w' hSw; (try dsimp only at hSw); go_simp; (try (with_reducible rfl)))
            (try simp only [Act.put, List.setIfInBounds_toArray, List.set_cons_zero, List.set_cons_succ, List.getElem_toArray, List.getElem_cons_succ, List.getElem_cons_zero])
            refine wpAnyH_take (i := 3) (v := ?v4x) rfl (by kernel_rfl) (by kernel_rfl) (by kernel_rfl) (fun _ _ _ h => h) (Or.inl ⟨by rfl, ?hy4x⟩) hS ?rest4x
            case hy4x => (intro w' hSw; (try dsimp only at hSw); go_simp; (try (with_reducible rfl)))
            (try simp only [Act.put, List.setIfInBounds_toArray, List.set_cons_zero, List.set_cons_succ, List.getElem_toArray, List.getElem_cons_succ, List.getElem_cons_zero])
            refine wpAnyH_take (i := 4) (v := ?v5x) rfl (by kernel_rfl) (by kernel_rfl) (by kernel_rfl) (fun _ _ _ h => h) (Or.inl ⟨by rfl, ?hy5x⟩) hS ?rest5x
            case hy5x => (intro w' hSw; (try dsimp only at hSw); go_simp; (try (with_reducible rfl)))
            (try simp only [Act.put, List.setIfInBounds_toArray, List.set_cons_zero, List.set_cons_succ, List.getElem_toArray, List.getElem_cons_succ, List.getElem_cons_zero])
            refine wpAnyH_take (i := 5) (v := ?v6x) rfl (by kernel_rfl) (by kernel_rfl) (by kernel_rfl) (fun _ _ _ h => h) (Or.inl ⟨by rfl, ?hy6x⟩) hS ?rest6x
            case hy6x => (intro w' hSw; (try dsimp only at hSw); go_simp; (try (with_reducible rfl)))
            (try simp only [Act.put, List.setIfInBounds_toArray, List.set_cons_zero, List.set_cons_succ, List.getElem_toArray, List.getElem_cons_succ, List.getElem_cons_zero])
            refine wpAnyH_take (i := 6) (v := ?v7x) rfl (by kernel_rfl) (by kernel_rfl) (by kernel_rfl) (fun _ _ _ h => h) (Or.inl ⟨by rfl, ?hy7x⟩) hS ?rest7x
            case hy7x => (intro w' hSw; (try dsimp only at hSw); go_simp; (try (with_reducible rfl)))
            (try simp only [Act.put, List.setIfInBounds_toArray, List.set_cons_zero, List.set_cons_succ, List.getElem_toArray, List.getElem_cons_succ, List.getElem_cons_zero])
            refine wpAnyH_take (i := 7) (v := ?v8x) rfl (by kernel_rfl) (by kernel_rfl) (by kernel_rfl) (fun _ _ _ h => h) (Or.inl ⟨by rfl, ?hy8x⟩) hS ?rest8x
            case hy8x => (intro w' hSw; (try dsimp only at hSw); go_simp; (try (with_reducible rfl)))
            (try simp only [Act.put, List.setIfInBounds_toArray, List.set_cons_zero, List.set_cons_succ, List.getElem_toArray, List.getElem_cons_succ, List.getElem_cons_zero])
            refine wpAnyH_take (i := 8) (v := ?v9x) rfl (by kernel_rfl) (by kernel_rfl) (by kernel_rfl) (fun _ _ _ h => h) (Or.inl ⟨by rfl, ?hy9x⟩) hS ?rest9x
            case hy9x => (intro w' hSw; (try dsimp only at hSw); go_simp; (try (with_reducible rfl)))
            (try simp only [Act.put, List.setIfInBounds_toArray, List.set_cons_zero, List.set_cons_succ, List.getElem_toArray, List.getElem_cons_succ, List.getElem_cons_zero])
            refine wpAnyH_take (i := 9) (v := ?v10x) rfl (by kernel_rfl) (by kernel_rfl) (by kernel_rfl) (fun _ _ _ h => h) (Or.inl ⟨by rfl, ?hy10x⟩) hS ?rest10x
            case hy10x => (intro w' hSw; (try dsimp only at hSw); go_simp; (try (with_reducible rfl)))
            (try simp only [Act.put, List.setIfInBounds_toArray, List.set_cons_zero, List.set_cons_succ, List.getElem_toArray, List.getElem_cons_succ, List.getElem_cons_zero])
            refine wpAnyH_done (by kernel_rfl) ?_ _
            refine fun K hK => ?_
            go_simp
            refine hK.out _ _ ?_
            clear hK K
            skip
            obtain ⟨cl2, hcl2⟩ : ∃ cl2 : Int, (IntKind.i64.wrap (b0 + 1)).tmod (sm : Int) = cl2 := ⟨_, rfl⟩
            rw [hcl2]
            clear hcl2
            obtain ⟨u10, hu10⟩ : ∃ u10, u10 = (u9.setCell ⟨(w.heap.size + 1 + 1), 1, none⟩ (.int .i64 cl2)).drew := ⟨_, rfl⟩
            have hk10 : Keeps (· ≠ (w.heap.size + 1 + 1)) u9 u10 ∧ Below (w.heap.size + 1 + 1) u9 u10 := by
              rw [hu10]
              have hz := set1_keeps u9 (w.heap.size + 1 + 1) 1 (.int .i64 cl2)
              exact ⟨hz.1.trans Keeps.drew, hz.2.trans (below_drew _ _)⟩
            have z10 : u10.heap.size = u9.heap.size := by rw [hu10, World.size_drew, World.size_setCell]
            have HEb10 : Hid (Bx u10 (w.heap.size + 1 + 1) 43 #[.slice (some ⟨ga, 0, none⟩) k c1, .int .i64 cl2]) := by rw [hu10]; exact HEb9.out.set_ 1 (.int .i64 cl2)
            have HRr := Lib.hid (HRr9.out.keep hk10.1 (by omega)); have HOwnF := Lib.hid (own_keep HOwn9.out hk10.1 (fun j hj _ => by omega)); have HCf := Lib.hid (HC9.out.below2 hk10.2 (by omega)); have HOf := Lib.hid (HO9.out.below_ hk10.2 (by omega))
            have HU10 := Lib.hid hu10
            clear hk10 hu10 p0 p1 pf0 pf1 q0 q1 qf0 qf1 z0
            rw [← HU10.out]
            clear HU10
            have q0 : u10.cell? ⟨(w.heap.size + 1 + 1), 0, none⟩ = some (.slice (some ⟨ga, 0, none⟩) k c1) := HEb10.out.cells 0; have qf0 := HEb10.out.free 0
            have q1 : u10.cell? ⟨(w.heap.size + 1 + 1), 1, none⟩ = some (.int .i64 cl2) := HEb10.out.cells 1; have qf1 := HEb10.out.free 1
            have HKf := Lib.hid (keeps_step (set1_keeps u10 (w.heap.size + 1) 0 (.slice (some ⟨ga, 0, none⟩) k c1)) 1 (.int .i64 (cl2)))
            have r0 : u10.cell? ⟨w.heap.size + 1, 0, none⟩ = some (.slice none 0 0) := HRr.out.cells 0
            have r1 : u10.cell? ⟨w.heap.size + 1, 1, none⟩ = some (.int .i64 0) := HRr.out.cells 1
            have rf0 := HRr.out.free 0; have rf1 := HRr.out.free 1
            have hfin : ∀ w9, w9 = (u10.setCell ⟨(w.heap.size + 1), 0, none⟩ (.slice (some ⟨ga, 0, none⟩) k c1)).setCell ⟨(w.heap.size + 1), 1, none⟩ (.int .i64 (cl2)) → w9.ownsRow w.heap.size 3 1 (.slice (some ⟨ga, 0, none⟩) k c1) k (bl.map (Value.int .i64)) ∧ Cur w9 g A n c bs ∧ Only g (g + 1) w w9 := by
              intro w9 h9
              subst h9
              exact ⟨own_base (own_keep HOwnF.out HKf.out.1 (fun j hj _ => by omega)) (by omega), HCf.out.below2 HKf.out.2 (by omega), HOf.out.below_ HKf.out.2 (by omega)⟩
            have HFin := Lib.hid hfin
            clear hfin
            go_wp2_with ((with_reducible refine bodyPost_ret (v := .agg #[.slice (some ⟨ga, 0, none⟩) k c1, .int .i64 (cl2)]) ?k1 ?k2 ?k3); (case k1 => (simp [results, Try.results109, go_sem, r0, r1, rf0, rf1])); (case k2 => rfl); (case k3 => (exact ⟨(some ⟨ga, 0, none⟩), k, c1, bl, cl2, rfl, hk16, (HFin.out _ rfl).1, (HFin.out _ rfl).2.1, (HFin.out _ rfl).2.2⟩)))
          · skip
            have HKf := Lib.hid (keeps_step (set1_keeps u9 (w.heap.size + 1) 0 (.slice (some ⟨ga, 0, none⟩) k c1)) 1 (.int .i64 (cl)))
            have r0 : u9.cell? ⟨w.heap.size + 1, 0, none⟩ = some (.slice none 0 0) := HRr.out.cells 0
            have r1 : u9.cell? ⟨w.heap.size + 1, 1, none⟩ = some (.int .i64 0) := HRr.out.cells 1
            have rf0 := HRr.out.free 0; have rf1 := HRr.out.free 1
            have hfin : ∀ w9, w9 = (u9.setCell ⟨(w.heap.size + 1), 0, none⟩ (.slice (some ⟨ga, 0, none⟩) k c1)).setCell ⟨(w.heap.size + 1), 1, none⟩ (.int .i64 (cl)) → w9.ownsRow w.heap.size 3 1 (.slice (some ⟨ga, 0, none⟩) k c1) k (bl.map (Value.int .i64)) ∧ Cur w9 g A n c bs ∧ Only g (g + 1) w w9 := by
              intro w9 h9
              subst h9
              exact ⟨own_base (own_keep HOwnF.out HKf.out.1 (fun j hj _ => by omega)) (by omega), HCf.out.below2 HKf.out.2 (by omega), HOf.out.below_ HKf.out.2 (by omega)⟩
            have HFin := Lib.hid hfin
            clear hfin
            go_wp2_with ((with_reducible refine bodyPost_ret (v := .agg #[.slice (some ⟨ga, 0, none⟩) k c1, .int .i64 (cl)]) ?k1 ?k2 ?k3); (case k1 => (simp [results, Try.results109, go_sem, r0, r1, rf0, rf1])); (case k2 => rfl); (case k3 => (exact ⟨(some ⟨ga, 0, none⟩), k, c1, bl, cl, rfl, hk16, (HFin.out _ rfl).1, (HFin.out _ rfl).2.1, (HFin.out _ rfl).2.2⟩)))

/-- What a draw of whatever example may answer. -/
def ExD (g : Nat) (A : Option Addr) (n c : Nat) (bs : List Int) (w : World) (e : Ending) (w' : World) : Prop :=
  ∃ (E : Option Addr) (k c' : Nat) (bl : List Int) (cl : Int), e = .returned (.agg #[.slice E k c', .int .i64 cl]) ∧ k ≤ 17 ∧ Rdf (fun j => w.heap.size ≤ j) w' E k (bl.map (Value.int .i64)) ∧ Cur w' g A n c bs ∧ Only g (g + 1) w w'
set_option maxRecDepth 20000 in
set_option maxHeartbeats 8000000 in
theorem l7Draw_any (g : Nat) (A : Option Addr) (n c : Nat) (bs : List Int) (w : World) (hu : ∀ z ∈ bs, 0 ≤ z ∧ z ≤ 255) (hn : n ≤ 1073741824) (h : Cur w g A n c bs) (S1 S2 : Option Addr) (sn sc sm sd : Nat) (hs : List AH) (ats : List AD) (cs : List ByteArray) (s : SchF (· ≠ g) w S1 S2 sn sm sd hs ats cs) :
    Calls Try.prog 82 #[.pointer (some ⟨g, 0, none⟩), .agg #[.slice S1 sn sc, .slice S2 sm sd]] w (ExD g A n c bs w) := by
  have HC := Lib.hid h
  have HU := Lib.hid hu
  have HS := Lib.hid s
  have hgw := h.lt
  obtain ⟨i1, hi0, hz0, hz1, hz2⟩ := info_parts info_int
  have HQ := Lib.hid hi0; have HQ0 := Lib.hid hz0; have HQ1 := Lib.hid hz1; have HQ2 := Lib.hid hz2
  clear hi0 hz0 hz1 hz2
  clear h hu
  have B0 := Below.refl w.heap.size w
  have s0 : w.heap.size ≤ w.heap.size := Nat.le_refl _
  go_enter Try.func82, Try.ntmps82
  have s_2 : Bx (w.alloc (.cells #[.slice S1 sn sc, .slice S2 sm sd] 40)) (w.heap.size) 40 #[.slice S1 sn sc, .slice S2 sm sd] := Bx.new _ _ _
  have B_2 := B0.alloc s0 (.cells #[.slice S1 sn sc, .slice S2 sm sd] 40)
  clear B0
  have cs_3 := s_2.cells
  have fs_3 := s_2.free
  clear cs_3 fs_3
  have s_4 := s_2.same (same_alloc (.cells #[.slice none 0 0, .int .i64 0] 43) (by simp only [World.size_alloc]; omega))
  clear s_2
  have r_5 : Bx ((w.alloc (.cells #[.slice S1 sn sc, .slice S2 sm sd] 40)).alloc (.cells #[.slice none 0 0, .int .i64 0] 43)) (w.heap.size + 1) 43 #[.slice none 0 0, .int .i64 0] := by
    have h := Bx.new (w.alloc (.cells #[.slice S1 sn sc, .slice S2 sm sd] 40)) 43 #[.slice none 0 0, .int .i64 0]
    simpa only [World.size_alloc] using h
  have B_5 := B_2.alloc (by simp only [World.size_alloc]; omega) (.cells #[.slice none 0 0, .int .i64 0] 43)
  clear B_2
  have cs_6 := s_4.cells
  have fs_6 := s_4.free
  have cr_7 := r_5.cells
  have fr_7 := r_5.free
  go_wp2_with fail
  clear cs_6 fs_6
  clear cr_7 fr_7
  obtain ⟨v8, hv8⟩ : ∃ v8, v8 = ((w.alloc (.cells #[.slice S1 sn sc, .slice S2 sm sd] 40)).alloc (.cells #[.slice none 0 0, .int .i64 0] 43)) := ⟨_, rfl⟩
  have zv8 : w.heap.size + 1 + 1 ≤ v8.heap.size := by rw [hv8]; simp
  rw [← hv8] at s_4 r_5 B_5 ⊢
  clear hv8
  have HRr0 := Lib.hid r_5
  have K0 := Lib.hid (Keeps.below (P := fun j => True) B_5 (Nat.le_refl _))
  have HCv := Lib.hid (HC.out.below B_5 (Nat.le_refl _))
  have HOv : Hid (Only g (g + 1) w v8) := Only.of_below B_5 (Nat.le_refl _)
  have HSv := Lib.hid (HS.out.keep (K0.out.mono (fun _ _ => trivial)))
  clear s_4 r_5 B_5
  refine (l7Right_any g A n c bs _ HU.out hn HCv.out S1 S2 sn sc sm sd hs ats cs HSv.out).mono ?_
  rintro e v2 ⟨E1, k, c1, bl, cl, rfl, hk16, hown, hc1, ho1⟩
  have s2 := ho1.size
  obtain ⟨BO, hBO⟩ : ∃ BO, BO = v2.heap.size := ⟨_, rfl⟩
  obtain ⟨v, hv⟩ : ∃ v, v = v2.alloc (.cells #[.slice E1 k c1, .int .i64 cl] 43) := ⟨_, rfl⟩
  have HBv : Hid (Bx v BO 43 #[.slice E1 k c1, .int .i64 cl]) := by rw [hv, hBO]; exact Bx.new _ _ _
  have hKv : Keeps (fun j => True) v2 v := by rw [hv]; exact Keeps.alloc _
  have hzv : v.heap.size = BO + 1 := by rw [hv, World.size_alloc, hBO]
  have HRow : Hid (∀ j, (Value.slice E1 k c1).ownBlock = some j → (w.heap.size + 1 + 1) ≤ j ∧ j < BO) := fun j hj => by have := hown.lt j hj; omega
  have HOwv := Lib.hid (own_keep hown hKv (fun _ _ _ => trivial))
  have HCw : Hid (Cur v g A n c bs) := by rw [hv]; exact hc1.below (below_alloc1 _) (Nat.le_refl _)
  have HOw_ : Hid (Only g (g + 1) w v) := by rw [hv]; exact (HOv.out.trans ho1).below_ (below_alloc1 _) (by omega)
  have HRv := Lib.hid ((HRr0.out.keep (keeps_cur ho1) (by omega)).keep hKv trivial)
  have hBOl : w.heap.size + 1 < BO := by omega
  have hgB : g < BO := by omega
  have HBV := Lib.hid hv
  clear hc1 ho1 hKv hv HOv HCv HRr0 HSv K0 hown
  go_wp2_with fail
  rw [← HBV.out, ← hBO]
  clear HBV
  refine (l1Below_any g A n c bs 12 _ HU.out hn HCw.out).mono ?_
  rintro e u ⟨x, rfl, -, hc1, ho1⟩
  have su := ho1.size
  have hBu : BO < u.heap.size := by omega
  have K2 := keeps_cur ho1
  have hOw : u.ownsRow (w.heap.size + 1 + 1) 3 1 (.slice E1 k c1) k (bl.map (Value.int .i64)) := own_base (own_keep HOwv.out K2 (fun j hj _ => by omega)) (by omega)
  have HOw := Lib.hid hOw
  have HRdf : Hid (Rdf (fun j => w.heap.size + 1 + 1 ≤ j ∧ j ≠ BO) u E1 k (bl.map (Value.int .i64))) := Rdf.of_own hOw (fun j hj _ e => ⟨hj, by have := HRow.out j e; omega⟩)
  have HBu := Lib.hid (HBv.out.keep K2 (by omega)); have HRr := Lib.hid (HRv.out.keep K2 (by omega)); have HCu := Lib.hid hc1; have HOu := Lib.hid (HOw_.out.trans ho1)
  clear hc1 ho1 K2 hOw HCw HOw_ HBv HRv HOwv hzv hBO
  go_upto_block 0 with fail
  go_cut [] (fun wx => ∃ (E2 : Option Addr) (k2 c2 : Nat) (bl2 : List Int) (cl2 : Int), k2 ≤ 17 ∧ Bx wx BO 43 #[.slice E2 k2 c2, .int .i64 cl2] ∧ Rdf (fun j => w.heap.size + 1 + 1 ≤ j ∧ j ≠ BO) wx E2 k2 (bl2.map (Value.int .i64)) ∧ Bx wx (w.heap.size + 1) 43 #[.slice none 0 0, .int .i64 0] ∧ Cur wx g A n c bs ∧ Only g (g + 1) w wx)
  case first =>
    by_cases hsw0 : x = 0
    · subst hsw0
      have p0 : u.cell? ⟨BO, 0, none⟩ = some (.slice E1 k c1) := HBu.out.cells 0; have pf0 := HBu.out.free 0
      have p1 : u.cell? ⟨BO, 1, none⟩ = some (.int .i64 cl) := HBu.out.cells 1; have pf1 := HBu.out.free 1
      go_wp2_with fail
      refine (pickLit g A n c 5 bs [-1, -2, 3, 2, 9223372036854775807] _ _ _ rfl rfl (by omega) (by omega) HU.out hn HCu.out).mono ?_
      rintro e q3 ⟨y, rfl, -, hcq, hoq⟩
      have K3 := keeps_cur hoq
      have hz3 := hoq.size
      have HBq := Lib.hid (HBu.out.keep K3 (by omega))
      have HK9 := Lib.hid (set1_keeps q3 BO 1 (.int .i64 y))
      have HB2 := Lib.hid (HBq.out.set_ 1 (.int .i64 y))
      have HRd9 := Lib.hid (((HRdf.out.keep (K3.mono (fun j hj => by omega)))).keep (HK9.out.1.mono (fun j hj => hj.2)))
      have HRr9 := Lib.hid ((HRr.out.keep K3 (by omega)).keep HK9.out.1 (by omega))
      have HC9 := Lib.hid (hcq.below2 HK9.out.2 (by omega)); have HO9 := Lib.hid ((HOu.out.trans hoq).below_ (HK9.out.2.mono (show w.heap.size ≤ BO by omega)) (Nat.le_refl _))
      have q1 : q3.cell? ⟨BO, 1, none⟩ = some (.int .i64 cl) := HBq.out.cells 1
      have qf1 := HBq.out.free 1
      clear hcq hoq K3 p0 p1 pf0 pf1
      go_wp2_with fail
      go_meet
      exact ⟨E1, k, c1, bl, y, by omega, HB2.out, HRd9.out, HRr9.out, HC9.out, HO9.out⟩
    · have esw0 : (x == 0) = false := beq_false_of_ne hsw0
      have dsw0 : decide (x = 0) = false := decide_eq_false hsw0
      by_cases hsw1 : x = 1
      · subst hsw1
        have p0 : u.cell? ⟨BO, 0, none⟩ = some (.slice E1 k c1) := HBu.out.cells 0; have pf0 := HBu.out.free 0
        have p1 : u.cell? ⟨BO, 1, none⟩ = some (.int .i64 cl) := HBu.out.cells 1; have pf1 := HBu.out.free 1
        go_wp2_with (at_builtin; refine wpList_append_lies _ rfl _ _ 26 rfl (w.heap.size + 1 + 1) 3 i1 (.int .i64 0) 1 8 Try.underlying26 HQ.out HQ0.out HQ1.out HQ2.out rfl (by decide) (.slice E1 k c1) k (bl.map (Value.int .i64)) rfl (HOw.out.alloc _) ⟨u.heap.size, 0, none⟩ 1 1 [.int .i64 0] rfl rfl (cell_one_new _ _ _) ?c2 (by omega) ?c3 ?c4 ?c5 _ rfl ?_)
        case c2 => first | rfl | (intro u hu; simp at hu; subst hu; rfl)
        case c3 => first | (unfold maxLen; omega) | omega
        case c4 => omega
        case c5 => first | (simp only [World.size_alloc]; omega) | omega
        intro g7 cap7 u6 hown7 hgrow7 hat7 hlt7
        have hg7 : u.grownBy u6 (Value.slice E1 k c1).ownBlock := (grown_alloc _ _).trans hgrow7
        have hu6 := HBu.out.keep (Keeps.grown hg7 (P := fun j => j = BO) (fun j hj e => by have := HRow.out j e; omega)) rfl
        have hc6 : u6.cell? ⟨BO, 0, none⟩ = some (.slice E1 k c1) := hu6.cells 0
        have hf6 : u6.frozen? ⟨BO, 0, none⟩ = false := hu6.free 0
        have HK9 := Lib.hid (app_keeps (b := BO) (i := 0) (x := .slice (some ⟨g7, 0, none⟩) (k + 1) cap7) hg7)
        have HB9 := Lib.hid (app_below (b := BO) (i := 0) (B := (w.heap.size + 1 + 1)) (x := .slice (some ⟨g7, 0, none⟩) (k + 1) cap7) hg7 (by omega) (fun j hj => (HRow.out j hj).1) (by omega))
        have HB2 := Lib.hid (hu6.set_ 0 (.slice (some ⟨g7, 0, none⟩) (k + 1) cap7))
        have HRr9 := Lib.hid (HRr.out.keep HK9.out ⟨by omega, fun e => by have := HRow.out _ e; omega⟩)
        have h9 : ∀ j, (Value.slice (some ⟨g7, 0, none⟩) (k + 1) cap7).ownBlock = some j → j ≠ BO := fun j h3 e => by
          simp only [Value.ownBlock, Option.some.injEq] at h3
          rcases hat7 with e2 | e2
          · have := HRow.out _ e2; omega
          · first | omega | (simp only [World.size_alloc] at e2; omega)
        have HOwn9 := Lib.hid (own_keep hown7 (Keeps.set (P := fun j => j ≠ BO) (b := BO) (i := 0) (u := .slice (some ⟨g7, 0, none⟩) (k + 1) cap7) (by simp)) (fun j hj e => h9 j e))
        have HRd9 : Hid (Rdf (fun j => w.heap.size + 1 + 1 ≤ j ∧ j ≠ BO) (u6.setCell ⟨BO, 0, none⟩ (.slice (some ⟨g7, 0, none⟩) (k + 1) cap7)) (some ⟨g7, 0, none⟩) (k + 1) ((bl ++ [0]).map (Value.int .i64))) := Rdf.of_own (by rw [List.map_append]; exact HOwn9.out) (fun j hj _ e => ⟨hj, h9 j e⟩)
        have HC9 := Lib.hid (HCu.out.below2 HB9.out (by omega)); have HO9 := Lib.hid (HOu.out.below_ (HB9.out.mono (by omega)) (Nat.le_refl _))
        clear hown7 hgrow7 hat7 hg7 hu6 h9
        go_wp2_with fail
        go_meet
        exact ⟨some ⟨g7, 0, none⟩, k + 1, cap7, bl ++ [0], cl, by omega, HB2.out, HRd9.out, HRr9.out, HC9.out, HO9.out⟩
      · have esw1 : (x == 1) = false := beq_false_of_ne hsw1
        have dsw1 : decide (x = 1) = false := decide_eq_false hsw1
        by_cases hsw2 : x = 2
        · subst hsw2
          by_cases hk0 : k = 0
          · have hk0i : ¬ (0 : Int) < (k : Int) := by omega
            have hk0d : decide (0 < k) = false := decide_eq_false (by omega)
            have hk0n : ¬ 0 < k := by omega
            clear hk0
            have p0 : u.cell? ⟨BO, 0, none⟩ = some (.slice E1 k c1) := HBu.out.cells 0; have pf0 := HBu.out.free 0
            have p1 : u.cell? ⟨BO, 1, none⟩ = some (.int .i64 cl) := HBu.out.cells 1; have pf1 := HBu.out.free 1
            go_wp2_with fail
            go_meet
            exact ⟨E1, k, c1, bl, cl, by omega, HBu.out, HRdf.out, HRr.out, HCu.out, HOu.out⟩
          · have hkp : 0 < k := by omega
            have hkpi : (0 : Int) < (k : Int) := by omega
            have hkpd : decide (0 < k) = true := decide_eq_true hkp
            obtain ⟨ga, ca, hAA, hga1, hga2, hca1, hca2⟩ := own_form HOw.out hkp
            simp only [Value.slice.injEq] at hAA
            obtain ⟨rfl, _, rfl⟩ := hAA
            have hgB : ga < BO := (HRow.out ga rfl).2
            obtain ⟨b0, hb0⟩ : ∃ b0, bl[0]? = some b0 := ⟨_, List.getElem?_eq_getElem (by have := HOw.out.1; simp at this; omega)⟩
            have z0 : u.cell? ⟨ga, 0, none⟩ = some (.int .i64 b0) := by rw [HOw.out.cellAt 0 (by omega)]; simp [hb0]
            have zf0 : u.frozen? ⟨ga, 0, none⟩ = false := HOw.out.frozenAt 0
            have HKe : Hid (∀ w' : World, Keeps (· ≠ g) u w' → w'.cell? ⟨BO, 0, none⟩ = some (.slice (some ⟨ga, 0, none⟩) k c1) ∧ w'.frozen? ⟨ga, 0, none⟩ = false ∧ w'.cell? ⟨ga, 0, none⟩ = some (.int .i64 b0)) := fun w' hk => by
              have e1 := HBu.out.keep hk (by omega)
              have e2 := own_keep HOw.out hk (fun j hj _ => by omega)
              exact ⟨e1.cells 0, e2.frozenAt 0, by rw [e2.cellAt 0 (by omega)]; simp [hb0]⟩
            have HCd := Lib.hid (HCu.out.below2 (below_drew u.heap.size u) (by omega))
            clear hb0
            have p0 : u.cell? ⟨BO, 0, none⟩ = some (.slice (some ⟨ga, 0, none⟩) k c1) := HBu.out.cells 0; have pf0 := HBu.out.free 0
            have p1 : u.cell? ⟨BO, 1, none⟩ = some (.int .i64 cl) := HBu.out.cells 1; have pf1 := HBu.out.free 1
            go_upto_region 9 with fail
            skip
            refine wp_region_last (n := 6) (S := fun w' => w'.cell? ⟨BO, 0, none⟩ = some (.slice (some ⟨ga, 0, none⟩) k c1) ∧ w'.frozen? ⟨ga, 0, none⟩ = false ∧ w'.cell? ⟨ga, 0, none⟩ = some (.int .i64 b0)) (by kernel_rfl) rfl (by kernel_rfl) (HKe.out _ Keeps.drew) ?_
            intro hS; (try dsimp only at hS)
            simp only [List.take_succ_cons, List.take_zero, List.getElem_toArray, List.getElem_cons_succ, List.getElem_cons_zero]
            refine wpAnyH_take (i := 0) (v := ?v11x) rfl (by kernel_rfl) (by kernel_rfl) (by kernel_rfl) (fun _ _ _ h => h) (Or.inl ⟨by rfl, ?hy11x⟩) hS ?rest11x
            case hy11x => (intro w' hSw; (try dsimp only at hSw); go_simp; (try (with_reducible rfl)))
            (try simp only [Act.put, List.setIfInBounds_toArray, List.set_cons_zero, List.set_cons_succ, List.getElem_toArray, List.getElem_cons_succ, List.getElem_cons_zero])
            refine wpAnyH_take (i := 1) (v := ?v12x) rfl (by kernel_rfl) (by kernel_rfl) (by kernel_rfl) (fun _ _ _ h => h) (Or.inl ⟨by rfl, ?hy12x⟩) hS ?rest12x
            case hy12x => (intro w' hSw; (try dsimp only at hSw); go_simp; (try (with_reducible rfl)))
            (try simp only [Act.put, List.setIfInBounds_toArray, List.set_cons_zero, List.set_cons_succ, List.getElem_toArray, List.getElem_cons_succ, List.getElem_cons_zero])
            refine wpAnyH_take (i := 2) (v := ?v13x) rfl (by kernel_rfl) (by kernel_rfl) (by kernel_rfl) (fun _ _ _ h => h) (Or.inl ⟨by rfl, ?hy13x⟩) hS ?rest13x
            case hy13x => (intro w' hSw; (try dsimp only at hSw); go_simp; (try (with_reducible rfl)))
            (try simp only [Act.put, List.setIfInBounds_toArray, List.set_cons_zero, List.set_cons_succ, List.getElem_toArray, List.getElem_cons_succ, List.getElem_cons_zero])
            refine wpAnyH_ready (rs := [3]) (by kernel_rfl) (by simp) ?_
            refine AllReadyH.cons rfl (fun K hK => ?_) AllReadyH.nil
            (try dsimp only [List.getElem_toArray, List.getElem_cons_succ, List.getElem_cons_zero])
            go_simp
            refine hK.out _ _ (HKe.out _ (Keeps.trans Keeps.drew (Keeps.alloc _))) (fun hS9 => ?_)
            clear hK K hS; have hS := hS9; clear hS9; (try dsimp only at hS)
            (try simp only [Act.put, List.setIfInBounds_toArray, List.set_cons_zero, List.set_cons_succ, List.getElem_toArray, List.getElem_cons_succ, List.getElem_cons_zero])
            refine wpAnyH_ready (rs := [4]) (by kernel_rfl) (by simp) ?_
            refine AllReadyH.cons rfl (fun K hK => ?_) AllReadyH.nil
            (try dsimp only [List.getElem_toArray, List.getElem_cons_succ, List.getElem_cons_zero])
            (go_simp; (refine (pickLit g A n c 4 bs [-2, 4, 3, -1] u.drew #[.int .i64 (-2), .int .i64 4, .int .i64 3, .int .i64 (-1)] 3 rfl rfl (by omega) (by omega) HU.out hn HCd.out).mono ?_); rintro e q3 ⟨y, rfl, -, hcq, hoq⟩; dsimp only)
            have hO3 : Only g (g + 1) u q3 := (Only.of_below (below_drew u.heap.size u) (Nat.le_refl _)).trans hoq
            have hz3 := hO3.size
            have HCq3 := Lib.hid hcq
            have K3 := Lib.hid (keeps_cur hO3)
            refine hK.out _ _ (HKe.out _ K3.out) (fun hS9 => ?_)
            clear hK K hS; have hS := hS9; clear hS9; (try dsimp only at hS)
            (try simp only [Act.put, List.setIfInBounds_toArray, List.set_cons_zero, List.set_cons_succ, List.getElem_toArray, List.getElem_cons_succ, List.getElem_cons_zero])
            refine wpAnyH_take (i := 5) (v := ?v14x) rfl (by kernel_rfl) (by kernel_rfl) (by kernel_rfl) (fun _ _ _ h => h) (Or.inl ⟨by rfl, ?hy14x⟩) hS ?rest14x
            case hy14x => (intro w' hSw; (try dsimp only at hSw); go_simp; (try (with_reducible rfl)))
            (try simp only [Act.put, List.setIfInBounds_toArray, List.set_cons_zero, List.set_cons_succ, List.getElem_toArray, List.getElem_cons_succ, List.getElem_cons_zero])
            refine wpAnyH_done (by kernel_rfl) ?_ _
            refine fun K hK => ?_
            go_simp
            refine hK.out _ _ ?_
            clear hK K
            have HOw3 := Lib.hid ((own_keep HOw.out K3.out (fun j hj _ => by omega)).stored 0 (.int .i64 y)).1
            have HBq := Lib.hid (HBu.out.keep K3.out (by omega))
            have HK9 := Lib.hid (set1_keeps q3 ga 0 (.int .i64 y))
            have HB2 := Lib.hid (HBq.out.keep HK9.out.1 (by omega))
            have HRd9 : Hid (Rdf (fun j => w.heap.size + 1 + 1 ≤ j ∧ j ≠ BO) (q3.setCell ⟨ga, 0, none⟩ (.int .i64 y)) (some ⟨ga, 0, none⟩) k ((bl.set 0 y).map (Value.int .i64))) := Rdf.of_own (by rw [List.map_set]; exact HOw3.out) (fun j hj _ e => ⟨hj, by have := HRow.out j e; omega⟩)
            have HRr9 := Lib.hid ((HRr.out.keep K3.out (by omega)).keep HK9.out.1 (by omega))
            have HC9 := Lib.hid (HCq3.out.below2 HK9.out.2 (by omega)); have HO9 := Lib.hid ((HOu.out.trans hO3).below_ (HK9.out.2.mono (show w.heap.size ≤ ga by omega)) (Nat.le_refl _))
            clear hcq hoq
            go_wp2_with fail
            go_meet
            exact ⟨some ⟨ga, 0, none⟩, k, c1, bl.set 0 y, cl, by omega, HB2.out, HRd9.out, HRr9.out, HC9.out, HO9.out⟩
        · have esw2 : (x == 2) = false := beq_false_of_ne hsw2
          have dsw2 : decide (x = 2) = false := decide_eq_false hsw2
          have p0 : u.cell? ⟨BO, 0, none⟩ = some (.slice E1 k c1) := HBu.out.cells 0; have pf0 := HBu.out.free 0
          have p1 : u.cell? ⟨BO, 1, none⟩ = some (.int .i64 cl) := HBu.out.cells 1; have pf1 := HBu.out.free 1
          go_wp2_with fail
          go_meet
          exact ⟨E1, k, c1, bl, cl, by omega, HBu.out, HRdf.out, HRr.out, HCu.out, HOu.out⟩
  obtain ⟨E9, k9, c9, bl9, cl9, hk17, hbx, hrd, hrr, hc, ho⟩ := hcut
  obtain ⟨u9, rfl⟩ : ∃ u9 : World, u9 = wc := ⟨_, rfl⟩
  have hlu := hbx.lt
  have HBx := Lib.hid hbx; have HRd := Lib.hid hrd; have HRr := Lib.hid hrr; have HCf := Lib.hid hc; have HOf := Lib.hid ho
  clear hbx hrd hrr hc ho
  have p0 : u9.cell? ⟨BO, 0, none⟩ = some (.slice E9 k9 c9) := HBx.out.cells 0; have pf0 := HBx.out.free 0
  have p1 : u9.cell? ⟨BO, 1, none⟩ = some (.int .i64 cl9) := HBx.out.cells 1; have pf1 := HBx.out.free 1
  have HKf := Lib.hid (keeps_step (set1_keeps u9 (w.heap.size + 1) 0 (.slice E9 k9 c9)) 1 (.int .i64 cl9))
  have r0 : u9.cell? ⟨w.heap.size + 1, 0, none⟩ = some (.slice none 0 0) := HRr.out.cells 0
  have r1 : u9.cell? ⟨w.heap.size + 1, 1, none⟩ = some (.int .i64 0) := HRr.out.cells 1
  have rf0 := HRr.out.free 0; have rf1 := HRr.out.free 1
  have hfin : ∀ w9, w9 = (u9.setCell ⟨(w.heap.size + 1), 0, none⟩ (.slice E9 k9 c9)).setCell ⟨(w.heap.size + 1), 1, none⟩ (.int .i64 cl9) → Rdf (fun j => w.heap.size ≤ j) w9 E9 k9 (bl9.map (Value.int .i64)) ∧ Cur w9 g A n c bs ∧ Only g (g + 1) w w9 := by
    intro w9 h9
    subst h9
    exact ⟨((HRd.out.keep (HKf.out.1.mono (fun j hj => by omega))).mono (fun j hj _ => by omega)), HCf.out.below2 HKf.out.2 (by omega), HOf.out.below_ HKf.out.2 (by omega)⟩
  have HFin := Lib.hid hfin
  clear hfin
  go_wp2_with ((with_reducible refine bodyPost_ret (v := .agg #[.slice E9 k9 c9, .int .i64 cl9]) ?k1 ?k2 ?k3); (case k1 => (simp [results, Try.results82, go_sem, r0, r1, rf0, rf1])); (case k2 => rfl); (case k3 => (exact ⟨E9, k9, c9, bl9, cl9, rfl, hk17, (HFin.out _ rfl).1, (HFin.out _ rfl).2.1, (HFin.out _ rfl).2.2⟩)))

end Go.Proofs.Ytchkmcikpamdeaa
