/-
  The draw of a list of attributes.
-/
import Derived.Test.YtchkmcikpamdeaaDoorDraw5D
namespace Go.Proofs.YtchkmcikpamdeaaDoor
open Go.RowKit
set_option linter.unusedSimpArgs false
set_option linter.unusedVariables false

/-- What a draw of a list of attributes may answer. -/
def AtR (g : Nat) (A : Option Addr) (n c : Nat) (bs : List Int) (K : Nat) (w : World) (e : Ending) (w' : World) : Prop :=
  ∃ (Z : Option Addr) (z cz : Nat) (xs : List Int), e = .returned (.slice Z z cz) ∧ z ≤ K ∧ w'.ownsRow w.heap.size 3 1 (.slice Z z cz) z (xs.map (Value.int .i64)) ∧ Cur w' g A n c bs ∧ Only g (g + 1) w w'

set_option maxRecDepth 20000 in
set_option maxHeartbeats 8000000 in
theorem l9RightAttrs_any (g : Nat) (A : Option Addr) (n c : Nat) (bs : List Int) (w : World) (hu : ∀ z ∈ bs, 0 ≤ z ∧ z ≤ 255) (hn : n ≤ 1073741824) (h : Cur w g A n c bs) (S1 S2 : Option Addr) (sn sc sm sd : Nat) (hs : List AH) (ats : List AD) (cs : List ByteArray) (s : SchF (· ≠ g) w S1 S2 sn sm sd hs ats cs) :
    Calls Tryd.prog 57 #[.pointer (some ⟨g, 0, none⟩), .agg #[.slice S1 sn sc, .slice S2 sm sd]] w (AtR g A n c bs 17 w) := by
  have HC := Lib.hid h
  have HU := Lib.hid hu
  have HS := Lib.hid s
  have hgw := h.lt
  obtain ⟨i1, hi0, hz0, hz1, hz2⟩ := info_parts info_int
  have HQ := Lib.hid hi0; have HQ0 := Lib.hid hz0; have HQ1 := Lib.hid hz1; have HQ2 := Lib.hid hz2
  clear hi0 hz0 hz1 hz2
  clear h hu
  have B0 := Below.refl w.heap.size w
  have s0 : w.heap.size ≤ w.heap.size := Nat.le_refl _
  go_enter Tryd.func57, Tryd.ntmps57
  have s_2 : Bx (w.alloc (.cells #[.slice S1 sn sc, .slice S2 sm sd] 32)) (w.heap.size) 32 #[.slice S1 sn sc, .slice S2 sm sd] := Bx.new _ _ _
  have B_2 := B0.alloc s0 (.cells #[.slice S1 sn sc, .slice S2 sm sd] 32)
  clear B0
  have cs_3 := s_2.cells
  have fs_3 := s_2.free
  clear cs_3 fs_3
  have s_4 := s_2.same (same_alloc (.cells #[] 3) (by simp only [World.size_alloc]; omega))
  clear s_2
  have lit_5 : Bx ((w.alloc (.cells #[.slice S1 sn sc, .slice S2 sm sd] 32)).alloc (.cells #[] 3)) (w.heap.size + 1) 3 #[] := by
    have h := Bx.new (w.alloc (.cells #[.slice S1 sn sc, .slice S2 sm sd] 32)) 3 #[]
    simpa only [World.size_alloc] using h
  have B_5 := B_2.alloc (by simp only [World.size_alloc]; omega) (.cells #[] 3)
  clear B_2
  have cs_6 := s_4.cells
  have fs_6 := s_4.free
  have clit_7 := lit_5.cells
  have flit_7 := lit_5.free
  go_wp2_with fail
  clear cs_6 fs_6
  clear clit_7 flit_7
  obtain ⟨v8, hv8⟩ : ∃ v8, v8 = ((w.alloc (.cells #[.slice S1 sn sc, .slice S2 sm sd] 32)).alloc (.cells #[] 3)) := ⟨_, rfl⟩
  have zv8 : w.heap.size + 1 + 1 ≤ v8.heap.size := by rw [hv8]; simp
  rw [← hv8] at s_4 lit_5 B_5 ⊢
  clear hv8
  have HSb0 := Lib.hid s_4
  have HL0 : Hid (v8.ownsRow (w.heap.size + 1) 3 1 (.slice (some ⟨(w.heap.size + 1), 0, none⟩) (0) 0) (0) (([] : List Int).map (Value.int .i64))) := ⟨rfl, .inr ⟨(w.heap.size + 1), 0, _, rfl, Nat.le_refl _, lit_5, Nat.le_refl _, by simp [maxLen], rfl, rfl⟩⟩
  have HCv := Lib.hid (HC.out.below B_5 (Nat.le_refl _))
  have HOv : Hid (Only g (g + 1) w v8) := Only.of_below B_5 (Nat.le_refl _)
  clear s_4 lit_5 B_5
  go_loopw [5, 6] (fun s5 s6 wr => ∃ (i : Nat) (A1 : Option Addr) (c1 : Nat) (xs : List Int), i ≤ sn ∧ s6 = .int .i64 i ∧ s5 = .slice A1 xs.length c1 ∧ xs.length ≤ i ∧ Bx wr w.heap.size 32 #[.slice S1 sn sc, .slice S2 sm sd] ∧ wr.ownsRow (w.heap.size + 1) 3 1 (.slice A1 (xs.length) c1) (xs.length) (xs.map (Value.int .i64)) ∧ Cur wr g A n c bs ∧ Only g (g + 1) w wr) (fun _ s6 _ => sn - (intOf s6).toNat)
  case atStart => exact ⟨0, _, _, [], Nat.zero_le _, rfl, rfl, Nat.le_refl _, HSb0.out, HL0.out, HCv.out, HOv.out⟩
  case round =>
    obtain ⟨i, A1, c1, xs, hi, rfl, rfl, hfl, hsb, hown, hc, ho⟩ := hrel
    obtain ⟨wo, rfl⟩ : ∃ wo : World, wo = wr := ⟨_, rfl⟩
    have hsz := ho.size
    have hlb := hsb.lt
    have HSb := Lib.hid hsb; have HOwn := Lib.hid hown; have HCo := Lib.hid hc; have HOo := Lib.hid ho
    clear hsb hown hc ho HSb0 HL0 HCv HOv
    have p0 : wo.cell? ⟨w.heap.size, 0, none⟩ = some (.slice S1 sn sc) := HSb.out.cells 0; have pf0 := HSb.out.free 0
    have p1 : wo.cell? ⟨w.heap.size, 1, none⟩ = some (.slice S2 sm sd) := HSb.out.cells 1; have pf1 := HSb.out.free 1
    have hs16 : sn ≤ 16 := s.hn
    by_cases hlt : i < sn
    · have hlti : (i : Int) < (sn : Int) := by omega
      go_wp2_with fail
      refine (l1Once_any g A n c bs 4 _ HU.out hn HCo.out).mono ?_
      rintro e v6 ⟨y, rfl, hc1, ho1⟩
      have s6 := ho1.size
      have K6 := keeps_cur ho1
      have HSb6 := Lib.hid (HSb.out.keep K6 (by omega)); have HOwn6 := Lib.hid (own_keep HOwn.out K6 (fun j hj _ => by omega))
      have HC6 := Lib.hid hc1; have HO6 := Lib.hid (HOo.out.trans ho1)
      clear hc1 ho1 K6 HSb HOwn HCo HOo p0 p1 pf0 pf1
      cases y
      · have hi16 : xs.length ≤ 16 := by omega
        go_wp2_with (at_builtin; refine wpList_append_lies _ rfl _ _ 40 rfl (w.heap.size + 1) 3 i1 _ 1 8 Tryd.underlying40 HQ.out HQ0.out HQ1.out HQ2.out rfl (by decide) (.slice A1 xs.length c1) xs.length (xs.map (Value.int .i64)) rfl (HOwn6.out.alloc _) ⟨v6.heap.size, 0, none⟩ 1 1 [.int .i64 (i : Nat)] rfl rfl (cell_one_new _ _ _) ?c2 (by omega) ?c3 ?c4 ?c5 _ rfl ?_)
        case c2 => first | rfl | (intro u hu; simp at hu; subst hu; rfl)
        case c3 => unfold maxLen; omega
        case c4 => omega
        case c5 => first | omega | (simp only [World.size_alloc]; omega)
        intro g7 cap7 u6 hown7 hgrow7 hat7 hlt7
        have hg7 : v6.grownBy u6 (Value.slice A1 xs.length c1).ownBlock := (grown_alloc _ _).trans hgrow7
        have hrow : ∀ j, (Value.slice A1 xs.length c1).ownBlock = some j → (w.heap.size + 1) ≤ j := fun j hj => (HOwn6.out.lt j hj).1
        have K7 := Keeps.grown hg7 (P := fun j => j < (w.heap.size + 1)) (fun j hj e => by have := hrow j e; omega)
        have hB7 : Below (w.heap.size + 1) v6 u6 := below_of_grown hg7 (by omega) hrow
        have HSb7 := Lib.hid (HSb6.out.keep K7 (by omega))
        have HC7 := Lib.hid (HC6.out.below2 hB7 (by omega)); have HO7 := Lib.hid (HO6.out.below_ hB7 (by omega))
        have HOwn7 : Hid (u6.ownsRow (w.heap.size + 1) 3 1 (.slice (some ⟨g7, 0, none⟩) ((xs ++ [((i : Nat) : Int)]).length) cap7) ((xs ++ [((i : Nat) : Int)]).length) ((xs ++ [((i : Nat) : Int)]).map (Value.int .i64))) := by
          unfold Hid
          rw [List.length_append, List.length_singleton, List.map_append]
          exact hown7
        clear hown7 hgrow7 hat7 hg7 hrow K7 hB7
        go_wp2_with fail
        go_roundw
        case rel => exact ⟨i + 1, some ⟨g7, 0, none⟩, cap7, xs ++ [((i : Nat) : Int)], by omega, by go_num, by rw [List.length_append]; rfl, by rw [List.length_append, List.length_singleton]; omega, HSb7.out, HOwn7.out, HC7.out, HO7.out⟩
        case measure => simp [intOf]; omega
      · go_wp2_with fail
        go_roundw
        case rel => exact ⟨i + 1, A1, c1, xs, by omega, by go_num, rfl, by omega, HSb6.out, HOwn6.out, HC6.out, HO6.out⟩
        case measure => simp [intOf]; omega
    · have hlti : ¬ (i : Int) < (sn : Int) := by omega
      by_cases h0 : xs.length = 0
      · have h0i : ((xs.length : Nat) : Int) = 0 := by omega
        have h0b : (((xs.length : Nat) : Int) == 0) = true := by rw [h0i]; rfl
        have h0d : decide (xs.length = 0) = true := decide_eq_true h0
        have HB9 : Hid (Below wo.heap.size wo (wo.alloc (.cells #[.int .i64 0] 3))) := (Below.refl _ _).alloc (Nat.le_refl _) _
        have HC9 := Lib.hid (HCo.out.below HB9.out (Nat.le_refl _)); have HO9 := Lib.hid (HOo.out.below_ HB9.out (by omega))
        have HOw9 : Hid ((wo.alloc (.cells #[.int .i64 0] 3)).ownsRow w.heap.size 3 1 (.slice (some ⟨wo.heap.size, 0, none⟩) 1 1) 1 (([0] : List Int).map (Value.int .i64))) := ⟨rfl, .inr ⟨wo.heap.size, 1, _, rfl, by omega, Bx.new _ _ _, Nat.le_refl _, by simp [maxLen], rfl, rfl⟩⟩
        go_wp2_with fail
        go_ret
        exact ⟨some ⟨wo.heap.size, 0, none⟩, 1, 1, [0], rfl, by omega, HOw9.out, HC9.out, HO9.out⟩
      · have h0i : ¬ ((xs.length : Nat) : Int) = 0 := by omega
        have h0b : (((xs.length : Nat) : Int) == 0) = false := beq_false_of_ne h0i
        have h0d : decide (xs.length = 0) = false := decide_eq_false h0
        have HOw9 : Hid (wo.ownsRow w.heap.size 3 1 (.slice A1 (xs.length) c1) (xs.length) (xs.map (Value.int .i64))) := own_base HOwn.out (by omega)
        have hl17 : xs.length ≤ 17 := by omega
        go_wp2_with fail
        go_ret
        exact ⟨A1, xs.length, c1, xs, rfl, hl17, HOw9.out, HCo.out, HOo.out⟩

set_option maxRecDepth 20000 in
set_option maxHeartbeats 8000000 in
theorem l9Attrs_any (g : Nat) (A : Option Addr) (n c : Nat) (bs : List Int) (w : World) (hu : ∀ z ∈ bs, 0 ≤ z ∧ z ≤ 255) (hn : n ≤ 1073741824) (h : Cur w g A n c bs) (S1 S2 : Option Addr) (sn sc sm sd : Nat) (hs : List AH) (ats : List AD) (cs : List ByteArray) (s : SchF (· ≠ g) w S1 S2 sn sm sd hs ats cs) :
    Calls Tryd.prog 44 #[.pointer (some ⟨g, 0, none⟩), .agg #[.slice S1 sn sc, .slice S2 sm sd]] w (AtR g A n c bs 18 w) := by
  have HC := Lib.hid h
  have HU := Lib.hid hu
  have HS := Lib.hid s
  have hgw := h.lt
  obtain ⟨i1, hi0, hz0, hz1, hz2⟩ := info_parts info_int
  have HQ := Lib.hid hi0; have HQ0 := Lib.hid hz0; have HQ1 := Lib.hid hz1; have HQ2 := Lib.hid hz2
  clear hi0 hz0 hz1 hz2
  clear h hu
  have B0 := Below.refl w.heap.size w
  have s0 : w.heap.size ≤ w.heap.size := Nat.le_refl _
  go_enter Tryd.func44, Tryd.ntmps44
  have s_2 : Bx (w.alloc (.cells #[.slice S1 sn sc, .slice S2 sm sd] 32)) (w.heap.size) 32 #[.slice S1 sn sc, .slice S2 sm sd] := Bx.new _ _ _
  have B_2 := B0.alloc s0 (.cells #[.slice S1 sn sc, .slice S2 sm sd] 32)
  clear B0
  have cs_3 := s_2.cells
  have fs_3 := s_2.free
  go_wp2_with fail
  clear cs_3 fs_3
  obtain ⟨v4, hv4⟩ : ∃ v4, v4 = (w.alloc (.cells #[.slice S1 sn sc, .slice S2 sm sd] 32)) := ⟨_, rfl⟩
  have zv4 : w.heap.size + 1 ≤ v4.heap.size := by rw [hv4]; simp
  rw [← hv4] at s_2 B_2 ⊢
  clear hv4
  have HSb0 := Lib.hid s_2
  have HCv := Lib.hid (HC.out.below B_2 (Nat.le_refl _))
  have HOv : Hid (Only g (g + 1) w v4) := Only.of_below B_2 (Nat.le_refl _)
  have HSv : Hid (SchF (· ≠ g) v4 S1 S2 sn sm sd hs ats cs) := HS.out.keep (Keeps.below B_2 (Nat.le_refl _))
  have hzv := B_2.size
  clear s_2 B_2
  have p0 : v4.cell? ⟨w.heap.size, 0, none⟩ = some (.slice S1 sn sc) := HSb0.out.cells 0; have pf0 := HSb0.out.free 0
  have p1 : v4.cell? ⟨w.heap.size, 1, none⟩ = some (.slice S2 sm sd) := HSb0.out.cells 1; have pf1 := HSb0.out.free 1
  go_wp2_with fail
  refine (l9RightAttrs_any g A n c bs _ HU.out hn HCv.out S1 S2 sn sc sm sd hs ats cs HSv.out).mono ?_
  rintro e v2 ⟨Z, z, cz, xs, rfl, hz17, hown, hc1, ho1⟩
  have s2 := ho1.size
  have HC2 := Lib.hid hc1; have HO2 := Lib.hid (HOv.out.trans ho1); have HOw2 := Lib.hid (own_base hown (show w.heap.size ≤ v4.heap.size by omega))
  clear hown hc1 ho1 HSb0 HCv HOv HSv p0 p1 pf0 pf1
  go_wp2_with fail
  refine (l1Below_any g A n c bs 10 _ HU.out hn HC2.out).mono ?_
  rintro e v3 ⟨x, rfl, -, hc1, ho1⟩
  have s3 := ho1.size
  have K3 := keeps_cur ho1
  have HC3 := Lib.hid hc1; have HO3 := Lib.hid (HO2.out.trans ho1); have HOw3 := Lib.hid (own_keep HOw2.out K3 (fun j hj _ => by omega))
  clear hc1 ho1 K3 HC2 HO2 HOw2
  have hzl : xs.length = z := by have := HOw3.out.1; simpa using this
  by_cases x0 : x = 0
  · subst x0
    go_wp2_with fail
    refine (pickLit g A n c 4 bs [0, 5, 4, -1] v3 _ _ rfl rfl (by omega) (by omega) HU.out hn HC3.out).mono ?_
    rintro e v4 ⟨y, rfl, -, hc1, ho1⟩
    have s4 := ho1.size
    have K4 := keeps_cur ho1
    have HC4 := Lib.hid hc1; have HO4 := Lib.hid (HO3.out.trans ho1); have HOw4 := Lib.hid (own_keep HOw3.out K4 (fun j hj _ => by omega))
    clear hc1 ho1 K4 HC3 HO3 HOw3
    subst hzl
    go_wp2_with (at_builtin; refine wpList_append_lies _ rfl _ _ 40 rfl w.heap.size 3 i1 _ 1 8 Tryd.underlying40 HQ.out HQ0.out HQ1.out HQ2.out rfl (by decide) (.slice Z xs.length cz) xs.length (xs.map (Value.int .i64)) rfl (HOw4.out.alloc _) ⟨v4.heap.size, 0, none⟩ 1 1 [.int .i64 y] rfl rfl (cell_one_new _ _ _) ?c2 (by omega) ?c3 ?c4 ?c5 _ rfl ?_)
    case c2 => first | rfl | (intro u hu; simp at hu; subst hu; rfl)
    case c3 => unfold maxLen; omega
    case c4 => omega
    case c5 => first | omega | (simp only [World.size_alloc]; omega)
    intro g7 cap7 u6 hown7 hgrow7 hat7 hlt7
    have hg7 : v4.grownBy u6 (Value.slice Z xs.length cz).ownBlock := (grown_alloc _ _).trans hgrow7
    have hrow : ∀ j, (Value.slice Z xs.length cz).ownBlock = some j → w.heap.size ≤ j := fun j hj => (HOw4.out.lt j hj).1
    have hB7 : Below w.heap.size v4 u6 := below_of_grown hg7 (by omega) hrow
    have HC7 := Lib.hid (HC4.out.below2 hB7 (by omega)); have HO7 := Lib.hid (HO4.out.below_ hB7 (Nat.le_refl _))
    have HOw7 : Hid (u6.ownsRow w.heap.size 3 1 (.slice (some ⟨g7, 0, none⟩) (xs.length + 1) cap7) (xs.length + 1) ((xs ++ [y]).map (Value.int .i64))) := by
      unfold Hid
      rw [List.map_append]
      exact hown7
    clear hown7 hgrow7 hat7 hg7 hrow hB7
    go_wp2_with fail
    go_ret
    exact ⟨some ⟨g7, 0, none⟩, xs.length + 1, cap7, xs ++ [y], rfl, by omega, HOw7.out, HC7.out, HO7.out⟩
  · have e0 : (x == 0) = false := beq_false_of_ne x0
    have d0 : decide (x = 0) = false := decide_eq_false x0
    by_cases x1 : x = 1
    · subst x1
      have HB9 : Hid (Below v3.heap.size v3 (v3.alloc (.cells #[] 3))) := (Below.refl _ _).alloc (Nat.le_refl _) _
      have HC9 := Lib.hid (HC3.out.below HB9.out (Nat.le_refl _)); have HO9 := Lib.hid (HO3.out.below_ HB9.out (by omega))
      have HOw9 : Hid ((v3.alloc (.cells #[] 3)).ownsRow w.heap.size 3 1 (.slice (some ⟨v3.heap.size, 0, none⟩) 0 0) 0 (([] : List Int).map (Value.int .i64))) := ⟨rfl, .inr ⟨v3.heap.size, 0, _, rfl, by omega, Bx.new _ _ _, Nat.le_refl _, by simp [maxLen], rfl, rfl⟩⟩
      go_wp2_with fail
      go_ret
      exact ⟨some ⟨v3.heap.size, 0, none⟩, 0, 0, [], rfl, by omega, HOw9.out, HC9.out, HO9.out⟩
    · have e1 : (x == 1) = false := beq_false_of_ne x1
      have d1 : decide (x = 1) = false := decide_eq_false x1
      go_wp2_with fail
      go_ret
      exact ⟨Z, z, cz, xs, rfl, by omega, HOw3.out, HC3.out, HO3.out⟩

end Go.Proofs.YtchkmcikpamdeaaDoor
