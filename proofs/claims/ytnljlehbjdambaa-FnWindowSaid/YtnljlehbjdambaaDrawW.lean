/-
  Draws of windows: rows of bits, right windows.
-/
import Derived.Test.YtnljlehbjdambaaWinD
import Derived.Test.YtnljlehbjdambaaAddS
import Derived.Test.YtnljlehbjdambaaLast
import Derived.Deep.DeepCutAuto
namespace Go.Proofs.Ytnljlehbjdambaa
open Go.RowKit
set_option linter.unusedSimpArgs false
set_option linter.unusedVariables false

theorem l1Bit_01 (b : Bool) (w : World) : Calls Try.prog 62 #[.bool b] w fun e w' => (∃ x : Int, e = .returned (.int .i64 x) ∧ 0 ≤ x ∧ x ≤ 1) ∧ w = w' := by
  cases b
  · go_enter Try.func62, Try.ntmps62
    go_wp2
    go_ret
    exact ⟨⟨0, rfl, by omega, by omega⟩, rfl⟩
  · go_enter Try.func62, Try.ntmps62
    go_wp2
    go_ret
    exact ⟨⟨1, rfl, by omega, by omega⟩, rfl⟩

set_option maxRecDepth 20000 in
set_option maxHeartbeats 4000000 in
theorem l16Bits_any (g : Nat) (A : Option Addr) (n c : Nat) (bs : List Int) (w : World) (hu : ∀ z ∈ bs, 0 ≤ z ∧ z ≤ 255) (hn : n ≤ 1073741824) (h : Cur w g A n c bs) (M : Int) (hM0 : 0 ≤ M) (hM : M ≤ 1000) :
    Calls Try.prog 60 #[.pointer (some ⟨g, 0, none⟩), .int .i64 M] w fun e w' => ∃ (A' : Option Addr) (c' m : Nat) (ys : List Int), e = .returned (.slice A' m c') ∧ m ≤ 1000 ∧ w'.ownsRow w.heap.size 3 1 (.slice A' m c') m (ys.map (Value.int .i64)) ∧ (∀ z ∈ ys, 0 ≤ z ∧ z ≤ 1) ∧ Cur w' g A n c bs ∧ Only g (g + 1) w w' := by
  have HC := Lib.hid h
  have HU := Lib.hid hu
  have hgw := h.lt
  obtain ⟨i0, hi0, hz0, hz1, hz2⟩ := info_parts info_int
  have HI := Lib.hid hi0; have HZ := Lib.hid hz0; have HZ1 := Lib.hid hz1; have HZ2 := Lib.hid hz2
  have HE : Hid ((w.alloc (.cells #[] 3)).ownsRow w.heap.size 3 1 (.slice (some ⟨w.heap.size, 0, none⟩) 0 0) 0 (([] : List Int).map (Value.int .i64))) := World.ownsRow_lit w #[] 0 (Nat.le_refl _) (by simp [maxLen]) rfl
  clear hi0 hz0 hz1 hz2 h hu
  go_enter Try.func60, Try.ntmps60
  go_wp2_with fail
  refine (l1Below_any g A n c bs (M + 1) _ HU.out hn (HC.out.below (below_alloc1 _) (Nat.le_refl _))).mono ?_
  rintro e w1 ⟨m, rfl, ⟨m0, m1, _⟩, hc1, ho1⟩
  have m2 := m1 (by omega)
  obtain ⟨N, rfl⟩ := Int.eq_ofNat_of_zero_le m0
  have HC1 := Lib.hid hc1; have HO1 := Lib.hid ((Only.of_below (below_alloc1 _) (Nat.le_refl _)).trans ho1); have HOw1 := Lib.hid (own_only HE.out ho1 (by omega))
  clear hc1 ho1 m1 HC HE
  go_wp2_with fail
  refine (l1Below_any g A n c bs (M + 1) _ HU.out hn HC1.out).mono ?_
  rintro e w2 ⟨x7, rfl, _, hc1, ho1⟩
  have HC2 := Lib.hid hc1; have HO2 := Lib.hid (HO1.out.trans ho1); have HOw2 := Lib.hid (own_only HOw1.out ho1 (by omega))
  clear hc1 ho1 HC1 HO1 HOw1
  go_wp2_with fail
  refine (pickLit g A n c 3 bs [2, 8, 200] _ _ _ rfl rfl (by omega) (by omega) HU.out hn HC2.out).mono ?_
  rintro e w3 ⟨x8, rfl, _, hc1, ho1⟩
  have HC3 := Lib.hid hc1; have HO3 := Lib.hid (HO2.out.trans ho1); have HOw3 := Lib.hid (own_only HOw2.out ho1 (by omega))
  clear hc1 ho1 HC2 HO2 HOw2
  go_wp2_with fail
  go_loopw [5, 9] (fun out ii wr => ∃ (k : Nat) (A' : Option Addr) (c' : Nat) (ys : List Int), k ≤ N ∧ ii = .int .i64 k ∧ out = .slice A' k c' ∧ wr.ownsRow w.heap.size 3 1 (.slice A' k c') k (ys.map (Value.int .i64)) ∧ (∀ z ∈ ys, 0 ≤ z ∧ z ≤ 1) ∧ Cur wr g A n c bs ∧ Only g (g + 1) w wr) (fun _ ii _ => N - (intOf ii).toNat)
  case atStart => exact ⟨0, _, _, _, Nat.zero_le _, rfl, rfl, HOw3.out, by simp, HC3.out, HO3.out⟩
  case round =>
    obtain ⟨k, A1, c1, ys, hk, rfl, rfl, hown, hy, hc, ho⟩ := hrel
    have HOwn0 := Lib.hid hown; have HC2 := Lib.hid hc; have HO2 := Lib.hid ho; have HY := Lib.hid hy
    clear hown hc ho hy
    by_cases hlt : k < N
    · by_cases hx : (k : Int) < x7
      · have hxd : decide ((k : Int) < x7) = true := decide_eq_true hx
        go_wp2_with fail
        refine (l1Once_any g A n c bs x8 _ HU.out hn HC2.out).mono ?_
        rintro e w4 ⟨t, rfl, hc3, ho3⟩
        have HOwn := Lib.hid (own_only HOwn0.out ho3 (by omega)); have HC3 := Lib.hid hc3; have HO3 := Lib.hid (HO2.out.trans ho3)
        have hs3 := HO3.out.size
        clear hc3 ho3 HOwn0 HC2 HO2
        go_wp2_with fail
        refine (l1Bit_01 _ _).mono ?_
        rintro e _ ⟨⟨x, rfl, hx0, hx1⟩, rfl⟩
        go_wp2_with (at_builtin; refine wpList_append_own _ rfl _ _ 54 rfl w.heap.size 3 i0 (.int .i64 0) 1 8 Try.underlying54 HI.out HZ.out HZ1.out HZ2.out rfl (by decide) (.slice A1 k c1) k (ys.map (Value.int .i64)) rfl (HOwn.out.alloc _) ⟨w4.heap.size, 0, none⟩ 1 1 [.int .i64 x] rfl rfl ?c1 ?c2 ?c3 ?c4 ?c5 ?_)
        case c1 => exact cell_one_new _ _ _
        case c2 => intro u hu; simp at hu; subst hu; rfl
        case c3 => unfold maxLen; omega
        case c4 => omega
        case c5 => simp; omega
        intro v' w5 hown3 hgrow _
        obtain ⟨A', c', rfl⟩ := own_shape hown3
        have HOw3 := Lib.hid (show w5.ownsRow w.heap.size 3 1 (.slice A' (k + 1) c') (k + 1) ((ys ++ [x]).map (Value.int .i64)) by rw [List.map_append]; exact hown3)
        have hb := grow_below HOwn.out hgrow hs3
        have HC4 := Lib.hid (HC3.out.below2 hb hgw); have HO4 := Lib.hid (HO3.out.below_ hb (Nat.le_refl _))
        have HY2 : Hid (∀ z ∈ ys ++ [x], 0 ≤ z ∧ z ≤ 1) := fun z hz => by
          rcases List.mem_append.1 hz with h | h
          · exact HY.out z h
          · obtain rfl : z = x := by simpa using h
            exact ⟨hx0, hx1⟩
        clear hown3 hgrow hb HOwn HC3 HO3 hx
        go_wp2_with fail
        go_roundw
        case rel => exact ⟨k + 1, A', c', _, by omega, by go_num, rfl, HOw3.out, HY2.out, HC4.out, HO4.out⟩
        case measure => simp [intOf]; omega
      · have hxd : decide ((k : Int) < x7) = false := decide_eq_false hx
        go_wp2_with fail
        refine (l1Once_any g A n c bs 5 _ HU.out hn HC2.out).mono ?_
        rintro e w4 ⟨t, rfl, hc3, ho3⟩
        have HOwn := Lib.hid (own_only HOwn0.out ho3 (by omega)); have HC3 := Lib.hid hc3; have HO3 := Lib.hid (HO2.out.trans ho3)
        have hs3 := HO3.out.size
        clear hc3 ho3 HOwn0 HC2 HO2
        go_wp2_with fail
        refine (l1Bit_01 _ _).mono ?_
        rintro e _ ⟨⟨x, rfl, hx0, hx1⟩, rfl⟩
        go_wp2_with (at_builtin; refine wpList_append_own _ rfl _ _ 54 rfl w.heap.size 3 i0 (.int .i64 0) 1 8 Try.underlying54 HI.out HZ.out HZ1.out HZ2.out rfl (by decide) (.slice A1 k c1) k (ys.map (Value.int .i64)) rfl (HOwn.out.alloc _) ⟨w4.heap.size, 0, none⟩ 1 1 [.int .i64 x] rfl rfl ?c1 ?c2 ?c3 ?c4 ?c5 ?_)
        case c1 => exact cell_one_new _ _ _
        case c2 => intro u hu; simp at hu; subst hu; rfl
        case c3 => unfold maxLen; omega
        case c4 => omega
        case c5 => simp; omega
        intro v' w5 hown3 hgrow _
        obtain ⟨A', c', rfl⟩ := own_shape hown3
        have HOw3 := Lib.hid (show w5.ownsRow w.heap.size 3 1 (.slice A' (k + 1) c') (k + 1) ((ys ++ [x]).map (Value.int .i64)) by rw [List.map_append]; exact hown3)
        have hb := grow_below HOwn.out hgrow hs3
        have HC4 := Lib.hid (HC3.out.below2 hb hgw); have HO4 := Lib.hid (HO3.out.below_ hb (Nat.le_refl _))
        have HY2 : Hid (∀ z ∈ ys ++ [x], 0 ≤ z ∧ z ≤ 1) := fun z hz => by
          rcases List.mem_append.1 hz with h | h
          · exact HY.out z h
          · obtain rfl : z = x := by simpa using h
            exact ⟨hx0, hx1⟩
        clear hown3 hgrow hb HOwn HC3 HO3 hx
        go_wp2_with fail
        go_roundw
        case rel => exact ⟨k + 1, A', c', _, by omega, by go_num, rfl, HOw3.out, HY2.out, HC4.out, HO4.out⟩
        case measure => simp [intOf]; omega
    · obtain rfl : k = N := by omega
      go_wp2_with fail
      go_ret
      exact ⟨A1, c1, k, ys, rfl, by omega, HOwn0.out, HY.out, HC2.out, HO2.out⟩

theorem below_drew (B : Nat) (w : World) : Below B w w.drew := ⟨rfl, rfl, rfl, Nat.le_refl _, fun _ _ => rfl⟩
/-- What l16Right may answer. -/
def RightR (g : Nat) (A : Option Addr) (n c : Nat) (bs : List Int) (w : World) (e : Ending) (w' : World) : Prop := ∃ (A' : Option Addr) (n' c' : Nat) (hs : List Hd) (xss : List (List Int)), e = .returned (.agg #[.slice A' n' c']) ∧ n' ≤ 8 ∧ bdR xss ∧ OwSS w.heap.size w'.heap.size w' A' n' c' hs (iss xss) ∧ Cur w' g A n c bs ∧ Only g (g + 1) w w'
set_option maxRecDepth 20000 in
set_option maxHeartbeats 8000000 in
theorem l16Right_any (g : Nat) (A : Option Addr) (n c : Nat) (bs : List Int) (w : World) (hu : ∀ z ∈ bs, 0 ≤ z ∧ z ≤ 255) (hn : n ≤ 1073741824) (h : Cur w g A n c bs) :
    Calls Try.prog 56 #[.pointer (some ⟨g, 0, none⟩)] w (RightR g A n c bs w) := by
  have HC := Lib.hid h
  have HU := Lib.hid hu
  have hgw := h.lt
  obtain ⟨i1, hi0, hz0, hz1, hz2⟩ := info_parts info_int
  have HQ := Lib.hid hi0; have HQ0 := Lib.hid hz0; have HQ1 := Lib.hid hz1; have HQ2 := Lib.hid hz2
  clear hi0 hz0 hz1 hz2
  obtain ⟨i2, hi0, hz0, hz1, hz2⟩ := info_parts info_IntSS
  have HJ := Lib.hid hi0; have HJ0 := Lib.hid hz0; have HJ1 := Lib.hid hz1; have HJ2 := Lib.hid hz2
  clear hi0 hz0 hz1 hz2 h hu
  have B0 := Below.refl w.heap.size w
  have s0 : w.heap.size ≤ w.heap.size := Nat.le_refl _
  go_enter Try.func56, Try.ntmps56
  have r_2 : Bx (w.alloc (.cells #[.slice none 0 0] 26)) (w.heap.size) 26 #[.slice none 0 0] := Bx.new _ _ _
  have B_2 := B0.alloc s0 (.cells #[.slice none 0 0] 26)
  clear B0
  have cr_3 := r_2.cells
  have fr_3 := r_2.free
  clear cr_3 fr_3
  have r_4 := r_2.same (same_alloc (.cells #[.slice none 0 0] 26) (by simp only [World.size_alloc]; omega))
  clear r_2
  have bx_5 : Bx ((w.alloc (.cells #[.slice none 0 0] 26)).alloc (.cells #[.slice none 0 0] 26)) (w.heap.size + 1) 26 #[.slice none 0 0] := by
    have h := Bx.new (w.alloc (.cells #[.slice none 0 0] 26)) 26 #[.slice none 0 0]
    simpa only [World.size_alloc] using h
  have B_5 := B_2.alloc (by simp only [World.size_alloc]; omega) (.cells #[.slice none 0 0] 26)
  clear B_2
  have cr_6 := r_4.cells
  have fr_6 := r_4.free
  have cbx_7 := bx_5.cells
  have fbx_7 := bx_5.free
  go_wp2_with fail
  clear cr_6 fr_6
  clear cbx_7 fbx_7
  obtain ⟨v8, hv8⟩ : ∃ v8, v8 = ((w.alloc (.cells #[.slice none 0 0] 26)).alloc (.cells #[.slice none 0 0] 26)) := ⟨_, rfl⟩
  have zv8 : w.heap.size + 1 + 1 ≤ v8.heap.size := by rw [hv8]; simp
  rw [← hv8] at r_4 bx_5 B_5 ⊢
  clear hv8
  have hzv : w.heap.size + 1 + 1 ≤ v8.heap.size := by omega
  have HR := Lib.hid r_4
  have HOv : Hid (Only g (g + 1) w v8) := Only.of_below B_5 (Nat.le_refl _)
  have HCv := Lib.hid (HC.out.below B_5 (Nat.le_refl _))
  have HWv : Hid (Win (w.heap.size + 1) (w.heap.size + 1) v8 none 0 0 [] []) := Win.nil _ _ _ bx_5
  clear r_4 bx_5 B_5
  go_wp2_with fail
  refine (l1Once_any g A n c bs 5 _ HU.out hn HCv.out).mono ?_
  rintro e v1 ⟨t, rfl, hc1, ho1⟩
  have s1 := ho1.size
  have HC1 := Lib.hid hc1; have HK1_ := Lib.hid (KeptB.of_only (lo := (w.heap.size + 1)) ho1 (by omega)); have HW1_ := Lib.hid (HWv.out.cur ho1 (by omega) (by omega))
  clear hc1 ho1 HCv HWv
  cases t
  · skip
    go_wp2_with fail
    refine (pickLit g A n c 4 bs [0, 6, 30, 90] _ _ _ rfl rfl (by omega) (by omega) HU.out hn HC1.out).mono ?_
    rintro e v2 ⟨M, rfl, hM, hc1, ho1⟩
    have hMb : 0 ≤ M ∧ M ≤ 1000 := by simp at hM; omega
    have s2 := ho1.size
    have HC2 := Lib.hid hc1; have HK2_ := Lib.hid (HK1_.out.trans (KeptB.of_only ho1 (by omega))); have HW2_ := Lib.hid (HW1_.out.cur ho1 (by omega) (by omega))
    clear hc1 ho1 hM HC1 HK1_ HW1_
    go_wp2_with fail
    refine (l16Bits_any g A n c bs _ HU.out hn HC2.out M hMb.1 hMb.2).mono ?_
    rintro e v3 ⟨A9, c9, m9, zs, rfl, hm9, hown9, hz9, hc1, ho1⟩
    have s3 := ho1.size
    have HC3 := Lib.hid hc1; have HK3_ := Lib.hid (HK2_.out.trans (KeptB.of_only ho1 (by omega))); have HW3_ := Lib.hid (HW2_.out.cur ho1 (by omega) (by omega))
    have HZs := Lib.hid hz9
    have HRb := Lib.hid (Rd.of_own hown9)
    have HNe : Hid (∀ a : Addr, A9 = some a → a.block ≠ w.heap.size + 1) := by
      intro a ha e
      have := hown9.lt a.block (by rw [ha]; rfl)
      omega
    have hzl : zs.length = m9 := by have := hown9.1; simpa using this
    clear hc1 ho1 hown9 hz9 HC2 HK2_ HW2_
    go_wp2_with fail
    go_loopw [10] (fun si wr => ∃ (i : Nat) (A1 : Option Addr) (n1 c1 : Nat) (g1 : List Hd) (yss : List (List Int)), i ≤ m9 ∧ si = .int .i64 i ∧ winB yss = true ∧ Rd wr A9 m9 (zs.map (Value.int .i64)) ∧ Win (w.heap.size + 1) (w.heap.size + 1) wr A1 n1 c1 g1 yss ∧ bdR yss ∧ Cur wr g A n c bs ∧ KeptB (w.heap.size + 1) g v8 wr) (fun si _ => m9 - (intOf si).toNat)
    case atStart => exact ⟨0, none, 0, 0, [], [], Nat.zero_le _, rfl, by unfold winB; rfl, HRb.out, HW3_.out, bdR_nil, HC3.out, HK3_.out⟩
    case round =>
      obtain ⟨i, A1, n1, c1, g1, yss, hi, rfl, hwin, hrb, hw, hbd, hc, hk⟩ := hrel
      obtain ⟨wo, rfl⟩ : ∃ wo : World, wo = wr := ⟨_, rfl⟩
      have hsz := hk.size
      have HW1 := Lib.hid hw; have HC1 := Lib.hid hc; have HK1 := Lib.hid hk; have HWin := Lib.hid hwin; have HBd := Lib.hid hbd; have HRb2 := Lib.hid hrb
      have hyl : yss.length = n1 := hw.len
      have hy8 := (bdR_win hwin).2
      have hyt := bdR_tot hbd
      have hn8 : n1 ≤ 8 := by omega
      have hlb := hw.bx.lt
      have HYL := Lib.hid hyl
      have ht : totI yss ≤ 1048576 := by omega
      clear hw hc hk hwin hbd hrb HRb HC3 HK3_ HW3_ hyl
      by_cases hlt : i < m9
      · obtain ⟨bb, off, hA9, hbl, hcl⟩ := HRb2.out.ex (by omega)
        subst hA9
        obtain ⟨z, hz⟩ : ∃ z, zs[i]? = some z := ⟨_, List.getElem?_eq_getElem (by omega)⟩
        have hzb := HZs.out z (List.mem_of_getElem? hz)
        have hcz := hcl i (.int .i64 z) (by rw [List.getElem?_map, hz]; rfl)
        have p0 := HW1.out.bcell
        have pf : wo.frozen? ⟨w.heap.size + 1, 0, none⟩ = false := HW1.out.bx.free 0
        have i0 : (0 : Int) ≤ (i : Int) := Int.natCast_nonneg _
        have i1_ : (i : Int) < (m9 : Int) := by omega
        have HKe : Hid (∀ w' : World, Below wo.heap.size wo w' → w'.cell? ⟨w.heap.size + 1, 0, none⟩ = some (.slice A1 n1 c1) ∧ w'.frozen? ⟨w.heap.size + 1, 0, none⟩ = false ∧ w'.cell? ⟨bb, off + i, none⟩ = some (.int .i64 z)) := fun w' hb => ⟨(hb.cell (p := ⟨w.heap.size + 1, 0, none⟩) hlb).trans p0, (hb.frozen (p := ⟨w.heap.size + 1, 0, none⟩) hlb).trans pf, (hb.cell (p := ⟨bb, off + i, none⟩) hbl).trans hcz⟩
        have HAB : Hid (addB yss z = true) := by unfold Hid addB; rw [HWin.out, inB_yes hzb.1 hzb.2]; rfl
        have hlo9 : w.heap.size + 1 ≤ wo.heap.size := by omega
        clear hz hcl
        go_upto_region 19 with fail
        go_region_with ((go_at_call 27; (refine (sWindowAdd_any A1 n1 c1 g1 yss z _ (HW1.out.ow.rd.below (below_drew _ _) (Nat.le_refl _)) (by omega) (by omega)).mono ?_); rintro e q3 ⟨A3, n3, c3, g3, rfl, o3, b3⟩; have hb3 : Below wo.heap.size wo q3 := (below_drew _ _).trans b3; obtain ⟨k1, k2, k3⟩ := HKe.out _ hb3))
        all_goals
          have hz3 := b3.size
          have HX3 : Hid (Bx q3 (w.heap.size + 1) 26 #[.slice A1 n1 c1]) := HW1.out.bx.same (same_below hb3 (Nat.succ_le_of_lt hlb))
          have HW9 : Hid (Win (w.heap.size + 1) (w.heap.size + 1) (q3.setCell ⟨w.heap.size + 1, 0, none⟩ (.slice A3 n3 c3)) A3 n3 c3 g3 (addR yss z)) := (Win.fresh o3 (show w.heap.size + 1 < _ by exact hlb) HX3.out).low hlo9
          have HB9 : Hid (Below (w.heap.size + 1) wo (q3.setCell ⟨w.heap.size + 1, 0, none⟩ (.slice A3 n3 c3))) := Below.setCell (p := ⟨w.heap.size + 1, 0, none⟩) (hb3.mono hlo9) (Nat.le_refl _) _
          have HC9 := Lib.hid (HC1.out.below2 HB9.out (by omega))
          have HK9 := Lib.hid (HK1.out.trans (KeptB.of_below HB9.out (Nat.le_refl _)))
          have HR9 := Lib.hid (rd_setc (i := 0) (u := .slice A3 n3 c3) (HRb2.out.below hb3 (Nat.le_refl _)) HNe.out)
          have hwin9 := addR_win HAB.out
          have HWin9 := Lib.hid hwin9
          have HBd9 := Lib.hid (bdR_win hwin9).1
          clear hwin9 o3 b3 hb3 k1 k2 k3
          go_wp2_with fail
          go_roundw
          case rel => exact ⟨i + 1, A3, n3, c3, g3, addR yss z, by omega, by go_num, HWin9.out, HR9.out, HW9.out, HBd9.out, HC9.out, HK9.out⟩
          case measure => simp [intOf]; omega
      · skip
        have q0 := HW1.out.bcell
        have HRb := HK1.out.bx HR.out (by omega) (by omega)
        have r0 := HRb.cells 0; have fr0 := HRb.free 0
        simp at r0
        have hfin : ∀ w9, w9 = wo.setCell ⟨w.heap.size, 0, none⟩ (.slice A1 n1 c1) → OwSS w.heap.size w9.heap.size w9 A1 n1 c1 g1 (iss yss) ∧ Cur w9 g A n c bs ∧ Only g (g + 1) w w9 := by
          intro w9 h9
          subst h9
          have hb9 : Below w.heap.size wo (wo.setCell ⟨w.heap.size, 0, none⟩ (.slice A1 n1 c1)) := Below.setCell (p := ⟨w.heap.size, 0, none⟩) (Below.refl _ _) (Nat.le_refl _) _
          exact ⟨HW1.out.fin (by omega) (by omega), HC1.out.below2 hb9 hgw, (HK1.out.only HOv.out (by omega)).below_ hb9 (Nat.le_refl _)⟩
        have HFin := Lib.hid hfin
        clear hfin HRb
        go_wp2_with ((with_reducible refine bodyPost_ret (v := .agg #[.slice A1 n1 c1]) ?k1 ?k2 ?k3); (case k1 => (simp [results, Try.results56, go_sem, r0, fr0])); (case k2 => rfl); (case k3 => (exact ⟨A1, n1, c1, g1, yss, rfl, hn8, HBd.out, (HFin.out _ rfl).1, (HFin.out _ rfl).2.1, (HFin.out _ rfl).2.2⟩)))
  · skip
    go_wp2_with fail
    refine (pickLit g A n c 4 bs [1, 4, 7, 8] _ _ _ rfl rfl (by omega) (by omega) HU.out hn HC1.out).mono ?_
    rintro e v2 ⟨M, rfl, hM, hc1, ho1⟩
    have hMb : 1 ≤ M ∧ M ≤ 8 := by simp at hM; omega
    obtain ⟨RN, rfl⟩ := Int.eq_ofNat_of_zero_le (show 0 ≤ M by omega)
    have hRN : RN ≤ 8 := by omega
    have s2 := ho1.size
    have HC2 := Lib.hid hc1; have HK2_ := Lib.hid (HK1_.out.trans (KeptB.of_only ho1 (by omega))); have HW2_ := Lib.hid (HW1_.out.cur ho1 (by omega) (by omega))
    clear hc1 ho1 hM HC1 HK1_ HW1_
    go_wp2_with fail
    go_loopw [5] (fun si wr => ∃ (r : Nat) (A1 : Option Addr) (n1 c1 : Nat) (g1 : List Hd) (yss : List (List Int)), r ≤ RN ∧ si = .int .i64 r ∧ n1 = r ∧ Win (w.heap.size + 1) (w.heap.size + 1) wr A1 n1 c1 g1 yss ∧ bdR yss ∧ Cur wr g A n c bs ∧ KeptB (w.heap.size + 1) g v8 wr) (fun si _ => RN - (intOf si).toNat)
    case atStart => exact ⟨0, none, 0, 0, [], [], Nat.zero_le _, rfl, rfl, HW2_.out, bdR_nil, HC2.out, HK2_.out⟩
    case round =>
      obtain ⟨r, A1, n1, c1, g1, yss, hr, rfl, rfl, hw, hbd, hc, hk⟩ := hrel
      obtain ⟨wo, rfl⟩ : ∃ wo : World, wo = wr := ⟨_, rfl⟩
      have hsz := hk.size
      have HW1 := Lib.hid hw; have HC1 := Lib.hid hc; have HK1 := Lib.hid hk; have HBd := Lib.hid hbd
      have hlb := hw.bx.lt
      clear hw hc hk hbd HC2 HK2_ HW2_
      by_cases hlt : n1 < RN
      · have HE : Hid ((wo.alloc (.cells #[] 3)).ownsRow wo.heap.size 3 1 (.slice (some ⟨wo.heap.size, 0, none⟩) 0 0) 0 (([] : List Int).map (Value.int .i64))) := World.ownsRow_lit wo #[] 0 (Nat.le_refl _) (by simp [maxLen]) rfl
        obtain ⟨P, hP⟩ : ∃ P, pw n1 = P := ⟨_, rfl⟩
        have hPb := pw_bd (r := n1) (by omega)
        rw [hP] at hPb
        have HP := Lib.hid hP
        clear hP
        go_wp2_with fail
        refine (l1Below_any g A n c bs 3 _ HU.out hn (HC1.out.below (below_alloc1 _) (Nat.le_refl _))).mono ?_
        rintro e q1 ⟨x, rfl, ⟨x0, x1, _⟩, hc1, ho1⟩
        have x2 := x1 (by omega)
        obtain ⟨X, rfl⟩ := Int.eq_ofNat_of_zero_le x0
        obtain ⟨I, hI⟩ : ∃ I : Nat, I = 1 + X := ⟨_, rfl⟩
        have hI3 : I ≤ 3 := by omega
        have hIx : (1 : Int) + (X : Int) = (I : Int) := by omega
        have HCq := Lib.hid hc1; have HOq := Lib.hid ((Only.of_below (below_alloc1 _) (Nat.le_refl _)).trans ho1); have HEq := Lib.hid (own_only HE.out ho1 (by omega))
        clear hc1 ho1 x1 HE hI
        go_wp2_with fail
        clear hIx
        go_loopw [6, 8] (fun s6 s8 wr => ∃ (i6 : Nat) (A6 : Option Addr) (c6 : Nat) (ys : List Int), i6 ≤ I ∧ s8 = .int .i64 i6 ∧ s6 = .slice A6 i6 c6 ∧ wr.ownsRow wo.heap.size 3 1 (.slice A6 i6 c6) i6 (ys.map (Value.int .i64)) ∧ (∀ z ∈ ys, -1000 ≤ z ∧ z ≤ 1000) ∧ Cur wr g A n c bs ∧ Only g (g + 1) wo wr) (fun _ s8 _ => I - (intOf s8).toNat)
        case atStart => exact ⟨0, _, _, [], Nat.zero_le _, rfl, rfl, HEq.out, by simp, HCq.out, HOq.out⟩
        case round =>
          obtain ⟨i6, A6, c6, ys, hi6, rfl, rfl, hown, hy, hc, ho⟩ := hrel
          obtain ⟨q1, rfl⟩ : ∃ q1 : World, q1 = wr := ⟨_, rfl⟩
          have HOwn0 := Lib.hid hown; have HC2 := Lib.hid hc; have HO2 := Lib.hid ho; have HY := Lib.hid hy
          have hso := ho.size
          clear hown hc ho hy HEq HCq HOq
          by_cases hli : i6 < I
          · go_wp2_with fail
            refine (l16Power_any n1 _ (by omega)).mono ?_
            rw [HP.out]
            rintro e q2 ⟨rfl, rfl⟩
            go_wp2_with fail
            refine (l16Power_any n1 _ (by omega)).mono ?_
            rw [HP.out]
            rintro e q2 ⟨rfl, rfl⟩
            go_wp2_with fail
            refine (l1Below_any g A n c bs (P + 1) _ HU.out hn HC2.out).mono ?_
            rintro e q3 ⟨x, rfl, ⟨x0, x1, _⟩, hc1, ho1⟩
            have x2 := x1 (by omega)
            have HOwn1 := Lib.hid (own_only HOwn0.out ho1 (by omega)); have HC3 := Lib.hid hc1; have HO3 := Lib.hid (HO2.out.trans ho1)
            have hs3 := HO3.out.size
            clear hc1 ho1 x1 HOwn0 HC2 HO2
            go_wp2_with fail
            refine (pickLit g A n c 3 bs [0, P, x] _ _ _ rfl rfl (by omega) (by omega) HU.out hn HC3.out).mono ?_
            rintro e q4 ⟨y, rfl, hy, hc1, ho1⟩
            have hyb : 0 ≤ y ∧ y ≤ 256 := by simp at hy; omega
            have HOwn := Lib.hid (own_only HOwn1.out ho1 (by omega)); have HC4 := Lib.hid hc1; have HO4 := Lib.hid (HO3.out.trans ho1)
            have hs4 := HO4.out.size
            clear hc1 ho1 hy HOwn1 HC3 HO3
            go_wp2_with (at_builtin; refine wpList_append_own _ rfl _ _ 54 rfl wo.heap.size 3 i1 (.int .i64 0) 1 8 Try.underlying54 HQ.out HQ0.out HQ1.out HQ2.out rfl (by decide) (.slice A6 i6 c6) i6 (ys.map (Value.int .i64)) rfl (HOwn.out.alloc _) ⟨q4.heap.size, 0, none⟩ 1 1 [.int .i64 y] rfl rfl ?c1 ?c2 ?c3 ?c4 ?c5 ?_)
            case c1 => exact cell_one_new _ _ _
            case c2 => intro u hu; simp at hu; subst hu; rfl
            case c3 => unfold maxLen; omega
            case c4 => omega
            case c5 => simp; omega
            intro v' q5 hown3 hgrow _
            obtain ⟨A', c', rfl⟩ := own_shape hown3
            have HOw5 := Lib.hid (show q5.ownsRow wo.heap.size 3 1 (.slice A' (i6 + 1) c') (i6 + 1) ((ys ++ [y]).map (Value.int .i64)) by rw [List.map_append]; exact hown3)
            have hb := grow_below HOwn.out hgrow hs4
            have HC5 := Lib.hid (HC4.out.below2 hb (by omega)); have HO5 := Lib.hid (HO4.out.below_ hb (Nat.le_refl _))
            have HY2 : Hid (∀ z ∈ ys ++ [y], -1000 ≤ z ∧ z ≤ 1000) := fun z hz => by
              rcases List.mem_append.1 hz with h | h
              · exact HY.out z h
              · obtain rfl : z = y := by simpa using h
                omega
            clear hown3 hgrow hb HOwn HC4 HO4
            go_wp2_with fail
            go_roundw
            case rel => exact ⟨i6 + 1, A', c', _, by omega, by go_num, rfl, HOw5.out, HY2.out, HC5.out, HO5.out⟩
            case measure => simp [intOf]; omega
          · obtain rfl : i6 = I := by omega
            have p0 := (HW1.out.cur HO2.out (by omega) (by omega)).bcell
            have pf : q1.frozen? ⟨w.heap.size + 1, 0, none⟩ = false := (HW1.out.cur HO2.out (by omega) (by omega)).bx.free 0
            have HOh := Lib.hid (HW1.out.cur HO2.out (by omega) (by omega)).ow.hd.own
            have hb1 := (HW1.out.cur HO2.out (by omega) (by omega)).bx.lt
            have hnA : (Value.slice A1 n1 c1).ownBlock ≠ some (w.heap.size + 1) := HW1.out.offA
            go_wp2_with (at_builtin; refine wpList_append_lies _ rfl _ _ 24 rfl (w.heap.size + 1) 54 i2 _ 1 24 Try.underlying24 HJ.out HJ0.out HJ1.out HJ2.out rfl (by decide) (.slice A1 n1 c1) n1 (g1.map hdV) rfl (HOh.out.alloc _) ⟨q1.heap.size, 0, none⟩ 1 1 [.slice A6 i6 c6] rfl rfl (cell_one_new _ _ _) ?c2 (by omega) ?c3 ?c4 ?c5 _ rfl ?_)
            case c2 => intro u hu; simp at hu; subst hu; rfl
            case c3 => unfold maxLen; omega
            case c4 => omega
            case c5 => simp only [World.size_alloc]; omega
            intro g7 cap7 u6 hown7 hgrow7 hat7 hlt7
            have hg7 : q1.grownBy u6 (Value.slice A1 n1 c1).ownBlock := (grown_alloc _ _).trans hgrow7
            have hc6 : u6.cell? ⟨w.heap.size + 1, 0, none⟩ = some (.slice A1 n1 c1) := (cell_grown hg7 hb1 (fun e => hnA e.symm)).trans p0
            have hf6 : u6.frozen? ⟨w.heap.size + 1, 0, none⟩ = false := (frozen_grown hg7 hb1 (fun e => hnA e.symm)).trans pf
            have hyy : Ow 3 wo.heap.size (q1.alloc (.cells #[.slice A6 i6 c6] 54)).heap.size (q1.alloc (.cells #[.slice A6 i6 c6] 54)) A6 i6 c6 (ys.map (Value.int .i64)) := ((Ow.of HOwn0.out).same (same_alloc _ (Nat.le_refl _))).wide (Nat.le_refl _) (by rw [World.size_alloc]; exact Nat.le_succ _)
            have hO9 : Only g (g + 1) wo (q1.alloc (.cells #[.slice A6 i6 c6] 54)) := HO2.out.below_ (below_alloc1 _) hso
            have HP9 := Lib.hid (HW1.out.moreO (y := (A6, i6, c6)) (by omega) (Nat.le_refl _) hO9 (by omega) hyy hown7 hgrow7 (hat7.imp id (fun e => by rw [World.size_alloc]; exact Nat.le_of_eq e.symm)))
            have HB9 : Hid (Below (w.heap.size + 1) q1 (u6.setCell ⟨w.heap.size + 1, 0, none⟩ (.slice (some ⟨g7, 0, none⟩) (n1 + 1) cap7))) := ((below_alloc1 _).mono (by omega)).trans HP9.out.2
            have HC9 := Lib.hid (HC2.out.below2 HB9.out (by omega))
            have HK9 := Lib.hid ((HK1.out.trans (KeptB.of_only HO2.out (by omega))).trans (KeptB.of_below HB9.out (Nat.le_refl _)))
            have hyl : ys.length = i6 := by have := HOwn0.out.1; simpa using this
            have HBd9 := Lib.hid (bdR_snoc HBd.out (show ys.length ≤ 4 by omega) HY.out)
            clear hown7 hgrow7 hat7 hg7 hyy hO9 p0 hyl
            go_wp2_with fail
            go_roundw
            case rel => exact ⟨n1 + 1, some ⟨g7, 0, none⟩, n1 + 1, cap7, _, yss ++ [ys], by omega, by go_num, rfl, HP9.out.1, HBd9.out, HC9.out, HK9.out⟩
            case measure => simp [intOf]; omega
      · skip
        have q0 := HW1.out.bcell
        have HRb := HK1.out.bx HR.out (by omega) (by omega)
        have r0 := HRb.cells 0; have fr0 := HRb.free 0
        simp at r0
        have hfin : ∀ w9, w9 = wo.setCell ⟨w.heap.size, 0, none⟩ (.slice A1 n1 c1) → OwSS w.heap.size w9.heap.size w9 A1 n1 c1 g1 (iss yss) ∧ Cur w9 g A n c bs ∧ Only g (g + 1) w w9 := by
          intro w9 h9
          subst h9
          have hb9 : Below w.heap.size wo (wo.setCell ⟨w.heap.size, 0, none⟩ (.slice A1 n1 c1)) := Below.setCell (p := ⟨w.heap.size, 0, none⟩) (Below.refl _ _) (Nat.le_refl _) _
          exact ⟨HW1.out.fin (by omega) (by omega), HC1.out.below2 hb9 hgw, (HK1.out.only HOv.out (by omega)).below_ hb9 (Nat.le_refl _)⟩
        have HFin := Lib.hid hfin
        clear hfin HRb
        go_wp2_with ((with_reducible refine bodyPost_ret (v := .agg #[.slice A1 n1 c1]) ?k1 ?k2 ?k3); (case k1 => (simp [results, Try.results56, go_sem, r0, fr0])); (case k2 => rfl); (case k3 => (exact ⟨A1, n1, c1, g1, yss, rfl, (by omega), HBd.out, (HFin.out _ rfl).1, (HFin.out _ rfl).2.1, (HFin.out _ rfl).2.2⟩)))

end Go.Proofs.Ytnljlehbjdambaa
