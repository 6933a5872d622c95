/-
  Draws that append to a list: what they return is a new list of numbers; the cursor's block alone has turned.
-/
import Derived.Test.YtfdpfeaegcfglaaDrawA
import Derived.Test.YtfdpfeaegcfglaaAsc
import Derived.Test.YtfdpfeaegcfglaaSquares
namespace Go.Proofs.Ytfdpfeaegcfglaa
open Go.RowKit
set_option linter.unusedSimpArgs false
set_option linter.unusedVariables false

theorem own_only {w w' : World} {base l h : Nat} {e : TypeId} {size n : Nat} {v : Value} {xs : List Value} (ho : w.ownsRow base e size v n xs) (hn : Only l h w w') (hl : h ≤ base) : w'.ownsRow base e size v n xs := by
  refine ⟨ho.1, ?_⟩
  rcases ho.2 with h2 | ⟨g, cap, cur, a, b, c', d⟩
  · exact .inl h2
  · have hlt : g < w.heap.size := by
      rcases Nat.lt_or_ge g w.heap.size with hlt | hge
      · exact hlt
      · rw [Array.getElem?_eq_none hge] at c'; cases c'
    exact .inr ⟨g, cap, cur, a, b, by rw [hn.block g hlt (by omega)]; exact c', d⟩
theorem Cur.below2 {w w' : World} {B g : Nat} {A : Option Addr} {n c : Nat} {bs : List Int} (h : Cur w g A n c bs) (hb : Below B w w') (hB : g < B) : Cur w' g A n c bs := by
  obtain ⟨i, z, hi, hx⟩ := h.ex
  refine ⟨⟨i, z, hi, hx.same (same_below hb (by omega))⟩, ⟨h.rd.len, fun hn => ?_⟩, h.far⟩
  obtain ⟨b, off, rfl, hlt, hc⟩ := h.rd.ex hn
  have := h.far hn _ rfl
  simp only at this
  exact ⟨b, off, rfl, Nat.lt_of_lt_of_le hlt hb.size, fun j u hu => (hb.cell (p := ⟨b, off + j, none⟩) (by show b < B; omega)).trans (hc j u hu)⟩
theorem Only.below_ {l h B : Nat} {a b c : World} (h1 : Only l h a b) (h2 : Below B b c) (hB : a.heap.size ≤ B) : Only l h a c :=
  ⟨h2.os.trans h1.os, h2.tape.trans h1.tape, h2.output.trans h1.output, Nat.le_trans h1.size h2.size, fun k hk hd => (h2.block k (by omega)).trans (h1.block k hk hd)⟩
theorem grow_below {B : Nat} {W w3 : World} {A : Option Addr} {k c : Nat} {e : TypeId} {xs : List Value} {o : Obj} (h : W.ownsRow B e 1 (.slice A k c) k xs) (hg : (W.alloc o).grownBy w3 (Value.slice A k c).ownBlock) (hB : B ≤ W.heap.size) : Below B W w3 :=
  ((Below.refl B W).alloc hB o).grown hg (by simp; omega) (fun k hk => (h.lt k hk).1)

/-- What l10Totals may answer: a list of its own of at most four numbers. -/
def TotR (g : Nat) (A : Option Addr) (n c : Nat) (bs : List Int) (w : World) (e : Ending) (w' : World) : Prop :=
  ∃ (A' : Option Addr) (c' m : Nat) (ys : List Int), e = .returned (.slice A' m c') ∧ m ≤ 4 ∧ w'.ownsRow w.heap.size 3 1 (.slice A' m c') m (ys.map (Value.int .i64)) ∧ Cur w' g A n c bs ∧ Only g (g + 1) w w'
set_option maxRecDepth 20000 in
set_option maxHeartbeats 4000000 in
theorem l10Totals_any (g : Nat) (A : Option Addr) (n c : Nat) (bs : List Int) (w : World) (hu : ∀ z ∈ bs, 0 ≤ z ∧ z ≤ 255) (hn : n ≤ 1073741824) (h : Cur w g A n c bs) :
    Calls Try.prog 70 #[.pointer (some ⟨g, 0, none⟩)] w (TotR g A n c bs w) := by
  have HC := Lib.hid h
  have HU := Lib.hid hu
  have hgw := h.lt
  obtain ⟨i0, hi0, hz0, hz1, hz2⟩ := info_parts info_int
  have HI := Lib.hid hi0; have HZ := Lib.hid hz0; have HZ1 := Lib.hid hz1; have HZ2 := Lib.hid hz2
  have HE : Hid ((w.alloc (.cells #[] 3)).ownsRow w.heap.size 3 1 (.slice (some ⟨w.heap.size, 0, none⟩) 0 0) 0 (([] : List Int).map (Value.int .i64))) := World.ownsRow_lit w #[] 0 (Nat.le_refl _) (by simp [maxLen]) rfl
  clear hi0 hz0 hz1 hz2 h hu
  go_enter Try.func70, Try.ntmps70
  go_wp2_with fail
  refine (l1Below_any g A n c bs 4 _ HU.out hn (HC.out.below (below_alloc1 _) (Nat.le_refl _))).mono ?_
  rintro e w1 ⟨m, rfl, ⟨m0, m1, _⟩, hc1, ho1⟩
  have m2 := m1 (by omega)
  obtain ⟨M, rfl⟩ := Int.eq_ofNat_of_zero_le m0
  have HC1 := Lib.hid hc1; have HO1 := Lib.hid ((Only.of_below (below_alloc1 _) (Nat.le_refl _)).trans ho1); have HOw1 := Lib.hid (own_only HE.out ho1 (by omega))
  clear hc1 ho1 m1 HC HE
  go_wp2_with fail
  go_loopw [3, 5] (fun out ii wr => ∃ (k : Nat) (A' : Option Addr) (c' : Nat) (ys : List Int), k ≤ M ∧ ii = .int .i64 k ∧ out = .slice A' k c' ∧ wr.ownsRow w.heap.size 3 1 (.slice A' k c') k (ys.map (Value.int .i64)) ∧ Cur wr g A n c bs ∧ Only g (g + 1) w wr) (fun _ ii _ => M - (intOf ii).toNat)
  case atStart => exact ⟨0, _, _, _, Nat.zero_le _, rfl, rfl, HOw1.out, HC1.out, HO1.out⟩
  case round =>
    obtain ⟨k, A1, c1, ys, hk, rfl, rfl, hown, hc, ho⟩ := hrel
    have HOwn0 := Lib.hid hown; have HC2 := Lib.hid hc; have HO2 := Lib.hid ho
    clear hown hc ho
    by_cases hlt : k < M
    · go_wp2_with fail
      refine (pickLit g A n c 7 bs [0, 0, 1, 5, 12, 333, 999] _ _ _ rfl rfl (by omega) (by omega) HU.out hn HC2.out).mono ?_
      rintro e w2 ⟨x, rfl, _, hc3, ho3⟩
      have HOwn := Lib.hid (own_only HOwn0.out ho3 (by omega)); have HC3 := Lib.hid hc3; have HO3 := Lib.hid (HO2.out.trans ho3)
      have hs3 := HO3.out.size
      clear hc3 ho3 HOwn0 HC2 HO2
      go_wp2_with (at_builtin; refine wpList_append_own _ rfl _ _ 27 rfl w.heap.size 3 i0 (.int .i64 0) 1 8 Try.underlying27 HI.out HZ.out HZ1.out HZ2.out rfl (by decide) (.slice A1 k c1) k (ys.map (Value.int .i64)) rfl (HOwn.out.alloc _) ⟨w2.heap.size, 0, none⟩ 1 1 [.int .i64 x] rfl rfl ?c1 ?c2 ?c3 ?c4 ?c5 ?_)
      case c1 => exact cell_one_new _ _ _
      case c2 => intro u hu; simp at hu; subst hu; rfl
      case c3 => unfold maxLen; omega
      case c4 => omega
      case c5 => simp; omega
      · intro v' w3 hown3 hgrow _
        obtain ⟨A', c', rfl⟩ := own_shape hown3
        have HOw3 := Lib.hid (show w3.ownsRow w.heap.size 3 1 (.slice A' (k + 1) c') (k + 1) ((ys ++ [x]).map (Value.int .i64)) by rw [List.map_append]; exact hown3)
        have hb := grow_below HOwn.out hgrow hs3
        have HC4 := Lib.hid (HC3.out.below2 hb hgw); have HO4 := Lib.hid (HO3.out.below_ hb (Nat.le_refl _))
        clear hown3 hgrow hb HOwn HC3 HO3
        go_wp2_with fail
        go_roundw
        case rel => exact ⟨k + 1, A', c', _, by omega, by go_num, rfl, HOw3.out, HC4.out, HO4.out⟩
        case measure => simp [intOf]; omega
    · obtain rfl : k = M := by omega
      go_wp2_with fail
      refine (l1Once_any g A n c bs 8 _ HU.out hn HC2.out).mono ?_
      rintro e w2 ⟨t, rfl, hc3, ho3⟩
      have HOwn0' := Lib.hid (own_only HOwn0.out ho3 (by omega)); have HC3 := Lib.hid hc3; have HO3 := Lib.hid (HO2.out.trans ho3)
      clear hc3 ho3 HOwn0 HC2 HO2
      cases t
      · go_wp2_with fail
        go_ret
        exact ⟨A1, c1, k, ys, rfl, by omega, HOwn0'.out, HC3.out, HO3.out⟩
      · go_wp2_with fail
        refine (pickLit g A n c 4 bs [-1, 1000, 7, 9223372036854775807] _ _ _ rfl rfl (by omega) (by omega) HU.out hn HC3.out).mono ?_
        rintro e w3 ⟨x, rfl, _, hc4, ho4⟩
        have HOwn := Lib.hid (own_only HOwn0'.out ho4 (by omega)); have HC4 := Lib.hid hc4; have HO4 := Lib.hid (HO3.out.trans ho4)
        have hs3 := HO4.out.size
        clear hc4 ho4 HOwn0' HC3 HO3
        go_wp2_with (at_builtin; refine wpList_append_own _ rfl _ _ 27 rfl w.heap.size 3 i0 (.int .i64 0) 1 8 Try.underlying27 HI.out HZ.out HZ1.out HZ2.out rfl (by decide) (.slice A1 k c1) k (ys.map (Value.int .i64)) rfl (HOwn.out.alloc _) ⟨w3.heap.size, 0, none⟩ 1 1 [.int .i64 x] rfl rfl ?c1 ?c2 ?c3 ?c4 ?c5 ?_)
        case c1 => exact cell_one_new _ _ _
        case c2 => intro u hu; simp at hu; subst hu; rfl
        case c3 => unfold maxLen; omega
        case c4 => omega
        case c5 => simp; omega
        · intro v' w4 hown3 hgrow _
          obtain ⟨A', c', rfl⟩ := own_shape hown3
          have HOw3 := Lib.hid (show w4.ownsRow w.heap.size 3 1 (.slice A' (k + 1) c') (k + 1) ((ys ++ [x]).map (Value.int .i64)) by rw [List.map_append]; exact hown3)
          have hb := grow_below HOwn.out hgrow hs3
          have HC5 := Lib.hid (HC4.out.below2 hb hgw); have HO5 := Lib.hid (HO4.out.below_ hb (Nat.le_refl _))
          clear hown3 hgrow hb HOwn HC4 HO4
          go_wp2_with fail
          go_ret
          exact ⟨A', c', k + 1, _, rfl, by omega, HOw3.out, HC5.out, HO5.out⟩

theorem sDrawGini_any (A : Option Addr) (n c : Nat) (bs : List Int) (w : World) (h : Rd w A n (bs.map (Value.int .u8))) (hu : ∀ z ∈ bs, 0 ≤ z ∧ z ≤ 255) (hn : n ≤ 1073741824) :
    Calls Try.prog 36 #[.slice A n c] w fun e w' => ∃ (A' : Option Addr) (c' m : Nat) (ys : List Int), e = .returned (.slice A' m c') ∧ m ≤ 4 ∧ w'.ownsRow w.heap.size 3 1 (.slice A' m c') m (ys.map (Value.int .i64)) ∧ Below w.heap.size w w' := by
  have HR := Lib.hid h
  have HU := Lib.hid hu
  clear h hu
  go_enter Try.func36, Try.ntmps36
  go_wp2_with fail
  refine (l1New_any A n c bs _ HR.out HU.out hn).mono ?_
  rintro e w1 ⟨g, rfl, hg, hc, hb⟩
  have HB := Lib.hid hb; have HC := Lib.hid hc
  clear hb hc
  go_wp2_with fail
  refine (l10Totals_any g A n c bs _ HU.out hn HC.out).mono ?_
  rintro e w2 ⟨A', c', m, ys, rfl, hm, hown, hc2, ho2⟩
  have HOwn := Lib.hid hown; have HO := Lib.hid ho2
  clear hown hc2 ho2
  go_wp2_with fail
  go_ret
  exact ⟨A', c', m, ys, rfl, hm, own_base HOwn.out HB.out.size, HB.out.trans (HO.out.below hg HB.out.size)⟩

end Go.Proofs.Ytfdpfeaegcfglaa
