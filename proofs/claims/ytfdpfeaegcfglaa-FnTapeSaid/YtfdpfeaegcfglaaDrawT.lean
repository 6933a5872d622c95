/-
  The draw of a tape.
-/
import Derived.Test.YtfdpfeaegcfglaaDrawL
import Derived.Test.YtfdpfeaegcfglaaTakeSub
namespace Go.Proofs.Ytfdpfeaegcfglaa
open Go.RowKit
set_option linter.unusedSimpArgs false
set_option linter.unusedVariables false
theorem below_set1 {V : World} {b off : Nat} {u : Value} : Below b V (V.setCell ⟨b, off, none⟩ u) := by
  have h := Below.refl b V
  go_grown

theorem pickLitAt (g : Nat) (A : Option Addr) (n c m : Nat) (bs xs : List Int) (w : World) (cs : Array Value) (T : TypeId) (s : Nat) (hs : w.heap.size = s) (hcs : cs.toList = xs.map (Value.int .i64)) (hm : xs.length = m) (h0 : 0 < m) (h1 : m ≤ 1000)
    (hu : ∀ z ∈ bs, 0 ≤ z ∧ z ≤ 255) (hn : n ≤ 1073741824) (h : Cur w g A n c bs) :
    Calls Try.prog 57 #[.pointer (some ⟨g, 0, none⟩), .slice (some ⟨s, 0, none⟩) m m] (w.alloc (.cells cs T)) (PickR g A n c bs xs w) := by
  subst hs
  exact pickLit g A n c m bs xs w cs T hcs hm h0 h1 hu hn h

set_option maxRecDepth 20000 in
set_option maxHeartbeats 4000000 in
theorem l15Bytes_any (g : Nat) (A : Option Addr) (n c : Nat) (bs : List Int) (w : World) (hu : ∀ z ∈ bs, 0 ≤ z ∧ z ≤ 255) (hn : n ≤ 1073741824) (h : Cur w g A n c bs) (M : Nat) (hM : M ≤ 1000) :
    Calls Try.prog 95 #[.pointer (some ⟨g, 0, none⟩), .int .i64 (M : Nat)] w fun e w' => ∃ (A' : Option Addr) (c' : Nat) (ys : List Int), e = .returned (.slice A' M c') ∧ w'.ownsRow w.heap.size 5 1 (.slice A' M c') M (ys.map (Value.int .u8)) ∧ (∀ z ∈ ys, 0 ≤ z ∧ z ≤ 255) ∧ Cur w' g A n c bs ∧ Only g (g + 1) w w' := by
  have HU := Lib.hid hu
  have hgw := h.lt
  obtain ⟨i0, hi0, hz0, hz1, hz2⟩ := info_parts info_ByteS
  have HI := Lib.hid hi0; have HZ := Lib.hid hz0; have HZ1 := Lib.hid hz1; have HZ2 := Lib.hid hz2
  have HE : Hid ((w.alloc (.cells #[] 5)).ownsRow w.heap.size 5 1 (.slice (some ⟨w.heap.size, 0, none⟩) 0 0) 0 (([] : List Int).map (Value.int .u8))) := World.ownsRow_lit w #[] 0 (Nat.le_refl _) (by simp [maxLen]) rfl
  have HC1 := Lib.hid (h.below (below_alloc1 (.cells #[] 5)) (Nat.le_refl _))
  have HO1 : Hid (Only g (g + 1) w (w.alloc (.cells #[] 5))) := Only.of_below (below_alloc1 _) (Nat.le_refl _)
  clear hi0 hz0 hz1 hz2 h hu
  go_enter Try.func95, Try.ntmps95
  go_wp2_with fail
  go_loopw [5, 6] (fun out ii wr => ∃ (k : Nat) (A' : Option Addr) (c' : Nat) (ys : List Int), k ≤ M ∧ ii = .int .i64 k ∧ out = .slice A' k c' ∧ wr.ownsRow w.heap.size 5 1 (.slice A' k c') k (ys.map (Value.int .u8)) ∧ (∀ z ∈ ys, 0 ≤ z ∧ z ≤ 255) ∧ Cur wr g A n c bs ∧ Only g (g + 1) w wr) (fun _ ii _ => M - (intOf ii).toNat)
  case atStart => exact ⟨0, _, _, _, Nat.zero_le _, rfl, rfl, HE.out, by simp, HC1.out, HO1.out⟩
  case round =>
    obtain ⟨k, A1, c1, ys, hk, rfl, rfl, hown, hy, hc, ho⟩ := hrel
    have HOwn0 := Lib.hid hown; have HC2 := Lib.hid hc; have HO2 := Lib.hid ho; have HY := Lib.hid hy
    clear hown hc ho hy
    by_cases hlt : k < M
    · go_wp2_with fail
      refine (l1Byte_any g A n c bs _ HU.out hn HC2.out).mono ?_
      rintro e w2 ⟨x, rfl, hxb, hc3, ho3⟩
      have HOwn := Lib.hid (own_only HOwn0.out ho3 (by omega)); have HC3 := Lib.hid hc3; have HO3 := Lib.hid (HO2.out.trans ho3)
      have hs3 := HO3.out.size
      have hwx : IntKind.u8.wrap x = x := IntWalk.u8_in x hxb
      clear hc3 ho3 HOwn0 HC2 HO2
      go_wp2_with (at_builtin; refine wpList_append_own _ rfl _ _ 22 rfl w.heap.size 5 i0 (.int .u8 0) 1 1 Try.underlying22 HI.out HZ.out HZ1.out HZ2.out rfl (by decide) (.slice A1 k c1) k (ys.map (Value.int .u8)) rfl (HOwn.out.alloc _) ⟨w2.heap.size, 0, none⟩ 1 1 [.int .u8 x] rfl rfl ?c1 ?c2 ?c3 ?c4 ?c5 ?_)
      case c1 => exact cell_one_new _ _ _
      case c2 => intro u hu; simp at hu; subst hu; rfl
      case c3 => unfold maxLen; omega
      case c4 => omega
      case c5 => simp; omega
      · intro v' w3 hown3 hgrow _
        obtain ⟨A', c', rfl⟩ := own_shape hown3
        have HOw3 := Lib.hid (show w3.ownsRow w.heap.size 5 1 (.slice A' (k + 1) c') (k + 1) ((ys ++ [x]).map (Value.int .u8)) by rw [List.map_append]; exact hown3)
        have hb := grow_below HOwn.out hgrow hs3
        have HC4 := Lib.hid (HC3.out.below2 hb hgw); have HO4 := Lib.hid (HO3.out.below_ hb (Nat.le_refl _))
        have HY2 : Hid (∀ z ∈ ys ++ [x], 0 ≤ z ∧ z ≤ 255) := fun z hz => by
          rcases List.mem_append.1 hz with h | h
          · exact HY.out z h
          · obtain rfl : z = x := by simpa using h
            exact hxb
        clear hown3 hgrow hb HOwn HC3 HO3 hwx
        go_wp2_with fail
        go_roundw
        case rel => exact ⟨k + 1, A', c', _, by omega, by go_num, rfl, HOw3.out, HY2.out, HC4.out, HO4.out⟩
        case measure => simp [intOf]; omega
    · obtain rfl : k = M := by omega
      go_wp2_with fail
      go_ret
      exact ⟨A1, c1, ys, rfl, HOwn0.out, HY.out, HC2.out, HO2.out⟩

set_option maxRecDepth 20000 in
set_option maxHeartbeats 4000000 in
theorem l15Draw_any (g : Nat) (A : Option Addr) (n c : Nat) (bs : List Int) (w : World) (hu : ∀ z ∈ bs, 0 ≤ z ∧ z ≤ 255) (hn : n ≤ 1073741824) (h : Cur w g A n c bs) :
    Calls Try.prog 83 #[.pointer (some ⟨g, 0, none⟩)] w fun e w' => ∃ (A' : Option Addr) (c' m : Nat) (ys : List Int) (i : Int), e = .returned (.agg #[.slice A' m c', .int .i64 i]) ∧ m ≤ 601 ∧ w'.ownsRow w.heap.size 5 1 (.slice A' m c') m (ys.map (Value.int .u8)) ∧ (∀ z ∈ ys, 0 ≤ z ∧ z ≤ 255) ∧ Cur w' g A n c bs ∧ Only g (g + 1) w w' := by
  have HU := Lib.hid hu
  have hgw := h.lt
  have b1 : Bx (w.alloc (.cells #[.slice none 0 0, .int .i64 0] 49)) w.heap.size 49 #[.slice none 0 0, .int .i64 0] := Bx.new _ _ _
  have HC0 := Lib.hid (h.below (below_alloc1 (.cells #[.slice none 0 0, .int .i64 0] 49)) (Nat.le_refl _))
  have HO0 : Hid (Only g (g + 1) w (w.alloc (.cells #[.slice none 0 0, .int .i64 0] 49))) := Only.of_below (below_alloc1 _) (Nat.le_refl _)
  clear h hu
  go_enter Try.func83, Try.ntmps83
  go_wp2_with fail
  refine (pickLitAt g A n c 6 bs [0, 1, 2, 3, 8, 20] _ _ _ _ (by simp only [World.size_alloc]) rfl rfl (by omega) (by omega) HU.out hn HC0.out).mono ?_
  rintro e w1 ⟨x, rfl, hx, hc, ho⟩
  have hxb : 0 ≤ x ∧ x ≤ 20 := by simp at hx; omega
  obtain ⟨M, rfl⟩ := Int.eq_ofNat_of_zero_le hxb.1
  have hM : M ≤ 20 := by omega
  have s1 := ho.size
  simp only [World.size_alloc] at s1
  have HR1 := Lib.hid (b1.same (same_only ho (by omega) (by simp)))
  have HC1 := Lib.hid hc; have HO1 := Lib.hid (HO0.out.trans ho)
  clear ho hc hx b1 HC0 HO0 hxb
  go_wp2_with fail
  refine (l15Bytes_any g A n c bs _ HU.out hn HC1.out M (by omega)).mono ?_
  rintro e w2 ⟨A1, c1, ys, rfl, own, hy, hc, ho⟩
  have s2 := ho.size
  have HY := Lib.hid hy
  have HW2 := Lib.hid (Ow.of own)
  have HR2 := Lib.hid (HR1.out.same (same_only ho (by omega) (by omega)))
  have HC2 := Lib.hid hc; have HO2 := Lib.hid (HO1.out.trans ho)
  clear ho hc own hy HR1 HC1 HO1
  go_wp2_with fail
  refine (l1Below_any g A n c bs _ _ HU.out hn (HC2.out.below (below_alloc1 _) (Nat.le_refl _))).mono ?_
  rintro e w3 ⟨x2, rfl, _, hc, ho⟩
  have s3 := ho.size
  simp only [World.size_alloc] at s3
  have HT3 := Lib.hid ((Bx.new w2 49 #[.slice A1 M c1, .int .i64 0]).same (same_only ho (by omega) (by simp)))
  have HW3 := Lib.hid ((HW2.out.same (same_alloc _ (Nat.le_refl _))).same (same_only ho (by omega) (by simp)))
  have HR3 := Lib.hid ((HR2.out.same (same_alloc _ (by omega))).same (same_only ho (by omega) (by simp; omega)))
  have HC3 := Lib.hid hc; have HO3 := Lib.hid (HO2.out.trans ((Only.of_below (below_alloc1 _) (Nat.le_refl _)).trans ho))
  have k0 : w3.cell? ⟨w2.heap.size, 0, none⟩ = some (.slice A1 M c1) := HT3.out.cells 0
  have k1 : w3.cell? ⟨w2.heap.size, 1, none⟩ = some (.int .i64 0) := HT3.out.cells 1
  have q0 := HT3.out.free 0; have q1 := HT3.out.free 1
  clear ho hc HW2 HR2 HC2 HO2
  go_wp2_with fail
  refine (l1Below_any g A n c bs 12 _ HU.out hn (HC3.out.below2 (B := w2.heap.size) below_set1 (by omega))).mono ?_
  rintro e w4 ⟨x3, rfl, _, hc, ho⟩
  have s4 := ho.size
  simp only [World.size_setCell] at s4
  have HT4 : Hid (Bx w4 w2.heap.size 49 #[.slice A1 M c1, .int .i64 x2]) := (HT3.out.set_ 1 (.int .i64 x2)).same (same_only ho (by omega) (by simp; omega))
  have HW4 := Lib.hid ((HW3.out.same (same_set (b := w2.heap.size) (off := 1) (u := .int .i64 x2) (by omega))).same (same_only ho (by omega) (by simp; omega)))
  have HR4 := Lib.hid ((HR3.out.same (same_set (b := w2.heap.size) (off := 1) (u := .int .i64 x2) (by omega))).same (same_only ho (by omega) (by simp; omega)))
  have HC4 := Lib.hid hc; have HO4 := Lib.hid ((HO3.out.below_ (B := w.heap.size) (below_set1.mono (by omega)) (Nat.le_refl _)).trans ho)
  clear ho hc HT3 HW3 HR3 HC3 HO3 k0 k1 q0 q1
  by_cases h0 : x3 = 0
  · skip
    subst h0
    have k0 : w4.cell? ⟨w2.heap.size, 0, none⟩ = some (.slice A1 M c1) := HT4.out.cells 0; have kf0 := HT4.out.free 0
    have k1 : w4.cell? ⟨w2.heap.size, 1, none⟩ = some (.int .i64 x2) := HT4.out.cells 1; have kf1 := HT4.out.free 1
    go_wp2_with fail
    refine (pickLit g A n c 3 bs [-1, (M : Int) + 1, 9223372036854775807] _ _ _ rfl rfl (by omega) (by omega) HU.out hn HC4.out).mono ?_
    rintro e w5 ⟨x4, rfl, _, hc, ho⟩
    have s5 := ho.size
    have HT5 := Lib.hid (HT4.out.same (same_only ho (by omega) (by omega))); have HW5 := Lib.hid (HW4.out.same (same_only ho (by omega) (by omega))); have HR5 := Lib.hid (HR4.out.same (same_only ho (by omega) (by omega)))
    have HC5 := Lib.hid hc; have HO5 := Lib.hid (HO4.out.trans ho)
    clear ho hc HT4 HW4 HR4 HC4 HO4 k0 k1 kf0 kf1
    have k0 : w5.cell? ⟨w2.heap.size, 0, none⟩ = some (.slice A1 M c1) := HT5.out.cells 0; have kf0 := HT5.out.free 0
    have k1 : w5.cell? ⟨w2.heap.size, 1, none⟩ = some (.int .i64 x2) := HT5.out.cells 1; have kf1 := HT5.out.free 1
    have r0 : w5.cell? ⟨w.heap.size, 0, none⟩ = some (.slice none 0 0) := HR5.out.cells 0; have rf0 := HR5.out.free 0
    have r1 : w5.cell? ⟨w.heap.size, 1, none⟩ = some (.int .i64 0) := HR5.out.cells 1; have rf1 := HR5.out.free 1
    go_wp2_with fail
    refine bodyPost_ret (v := .agg #[.slice A1 M c1, .int .i64 x4]) (by simp [results, Try.results83, go_sem, r0, r1, rf0, rf1]) rfl ⟨A1, c1, M, ys, x4, rfl, by omega, ?_, HY.out, ?_, ?_⟩
    · exact own_base (((HW5.out.same (same_set (by omega))).same (same_set (by omega))).same (same_set (by omega))).own (by omega)
    · exact HC5.out.below2 (B := w.heap.size) (by have hb := Below.refl w.heap.size w5; go_grown) hgw
    · exact HO5.out.below_ (B := w.heap.size) (by have hb := Below.refl w.heap.size w5; go_grown) (Nat.le_refl _)
  · by_cases h1 : x3 = 1
    · skip
      subst h1
      have k0 : w4.cell? ⟨w2.heap.size, 0, none⟩ = some (.slice A1 M c1) := HT4.out.cells 0; have kf0 := HT4.out.free 0
      have k1 : w4.cell? ⟨w2.heap.size, 1, none⟩ = some (.int .i64 x2) := HT4.out.cells 1; have kf1 := HT4.out.free 1
      go_wp2_with fail
      refine (pickLit g A n c 2 bs [600, 601] _ _ _ rfl rfl (by omega) (by omega) HU.out hn HC4.out).mono ?_
      rintro e w5 ⟨x4, rfl, hx4, hc, ho⟩
      have hxb : 600 ≤ x4 ∧ x4 ≤ 601 := by simp at hx4; omega
      obtain ⟨M2, rfl⟩ := Int.eq_ofNat_of_zero_le (show 0 ≤ x4 by omega)
      have hM2 : M2 ≤ 601 := by omega
      have s5 := ho.size
      have HT5 := Lib.hid (HT4.out.same (same_only ho (by omega) (by omega))); have HR5 := Lib.hid (HR4.out.same (same_only ho (by omega) (by omega)))
      have HC5 := Lib.hid hc; have HO5 := Lib.hid (HO4.out.trans ho)
      clear ho hc HT4 HW4 HR4 HC4 HO4 k0 k1 kf0 kf1 hx4 hxb
      go_wp2_with fail
      refine (l15Bytes_any g A n c bs _ HU.out hn HC5.out M2 (by omega)).mono ?_
      rintro e w6 ⟨A6, c6, zs, rfl, own, hz, hc, ho⟩
      have s6 := ho.size
      have HZs := Lib.hid hz
      have HW6 := Lib.hid (Ow.of own); have HT6 := Lib.hid (HT5.out.same (same_only ho (by omega) (by omega))); have HR6 := Lib.hid (HR5.out.same (same_only ho (by omega) (by omega)))
      have HC6 := Lib.hid hc; have HO6 := Lib.hid (HO5.out.trans ho)
      clear ho hc hz own HT5 HR5 HC5 HO5
      have k0 : w6.cell? ⟨w2.heap.size, 0, none⟩ = some (.slice A1 M c1) := HT6.out.cells 0; have kf0 := HT6.out.free 0
      have k1 : w6.cell? ⟨w2.heap.size, 1, none⟩ = some (.int .i64 x2) := HT6.out.cells 1; have kf1 := HT6.out.free 1
      have r0 : w6.cell? ⟨w.heap.size, 0, none⟩ = some (.slice none 0 0) := HR6.out.cells 0; have rf0 := HR6.out.free 0
      have r1 : w6.cell? ⟨w.heap.size, 1, none⟩ = some (.int .i64 0) := HR6.out.cells 1; have rf1 := HR6.out.free 1
      go_wp2_with fail
      refine bodyPost_ret (v := .agg #[.slice A6 M2 c6, .int .i64 x2]) (by simp [results, Try.results83, go_sem, r0, r1, rf0, rf1]) rfl ⟨A6, c6, M2, zs, x2, rfl, by omega, ?_, HZs.out, ?_, ?_⟩
      · exact own_base (((HW6.out.same (same_set (by omega))).same (same_set (by omega))).same (same_set (by omega))).own (by omega)
      · exact HC6.out.below2 (B := w.heap.size) (by have hb := Below.refl w.heap.size w6; go_grown) hgw
      · exact HO6.out.below_ (B := w.heap.size) (by have hb := Below.refl w.heap.size w6; go_grown) (Nat.le_refl _)
    · skip
      have e0 : (x3 == 0) = false := beq_false_of_ne h0
      have e1 : (x3 == 1) = false := beq_false_of_ne h1
      have d0 : decide (x3 = 0) = false := decide_eq_false h0
      have d1 : decide (x3 = 1) = false := decide_eq_false h1
      have k0 : w4.cell? ⟨w2.heap.size, 0, none⟩ = some (.slice A1 M c1) := HT4.out.cells 0; have kf0 := HT4.out.free 0
      have k1 : w4.cell? ⟨w2.heap.size, 1, none⟩ = some (.int .i64 x2) := HT4.out.cells 1; have kf1 := HT4.out.free 1
      have r0 : w4.cell? ⟨w.heap.size, 0, none⟩ = some (.slice none 0 0) := HR4.out.cells 0; have rf0 := HR4.out.free 0
      have r1 : w4.cell? ⟨w.heap.size, 1, none⟩ = some (.int .i64 0) := HR4.out.cells 1; have rf1 := HR4.out.free 1
      go_wp2_with fail
      refine bodyPost_ret (v := .agg #[.slice A1 M c1, .int .i64 x2]) (by simp [results, Try.results83, go_sem, r0, r1, rf0, rf1]) rfl ⟨A1, c1, M, ys, x2, rfl, by omega, ?_, HY.out, ?_, ?_⟩
      · exact own_base ((HW4.out.same (same_set (by omega))).same (same_set (by omega))).own (by omega)
      · exact HC4.out.below2 (B := w.heap.size) (by have hb := Below.refl w.heap.size w4; go_grown) hgw
      · exact HO4.out.below_ (B := w.heap.size) (by have hb := Below.refl w.heap.size w4; go_grown) (Nat.le_refl _)

end Go.Proofs.Ytfdpfeaegcfglaa
