/-
  The cursor over the bytes of a draw: l1New, l1Byte, l1Below, l1Once, l1PickInt, l1Min, l1Max.
-/
import Derived.Test.YtchkmcikpamdeaaDoorObj
import Derived.Test.YtchkmcikpamdeaaDoorIn
import Derived.Deep.Upon
namespace Go.Proofs.YtchkmcikpamdeaaDoor
open Go.RowKit
set_option linter.unusedSimpArgs false
set_option linter.unusedVariables false

theorem and_mask (x : Int) (m : Nat) (hm : m < 9223372036854775808) : 0 ≤ bits BinOp.and IntKind.i64 x m ∧ bits BinOp.and IntKind.i64 x m ≤ m := by
  have e : bits BinOp.and IntKind.i64 x m = IntKind.i64.wrap ((BitVec.ofInt 64 x &&& BitVec.ofInt 64 m).toNat : Int) := rfl
  have h1 : (BitVec.ofInt 64 x &&& BitVec.ofInt 64 m).toNat ≤ m := by
    rw [BitVec.toNat_and]
    refine Nat.le_trans Nat.and_le_right ?_
    simp only [BitVec.toNat_ofInt]
    omega
  rw [e, IntWalk.i64_in _ (by omega)]
  omega
theorem and_255 (x : Int) : 0 ≤ bits BinOp.and IntKind.i64 x 255 ∧ bits BinOp.and IntKind.i64 x 255 ≤ 255 := and_mask x 255 (by omega)

/-- The cursor in block g, over the n bytes at A. -/
structure Cur (w : World) (g : Nat) (A : Option Addr) (n c : Nat) (bs : List Int) : Prop where
  ex : ∃ (i : Nat) (h : Int), i ≤ n ∧ Bx w g 75 #[.slice A n c, .int .i64 i, .int .i64 h]
  rd : Rd w A n (bs.map (Value.int .u8))
  far : 0 < n → ∀ a, A = some a → a.block < g

theorem Cur.lt {w : World} {g : Nat} {A : Option Addr} {n c : Nat} {bs : List Int} (h : Cur w g A n c bs) : g < w.heap.size := by
  obtain ⟨i, z, _, hb⟩ := h.ex
  exact hb.lt
theorem Cur.below {w w' : World} {B g : Nat} {A : Option Addr} {n c : Nat} {bs : List Int} (h : Cur w g A n c bs) (hb : Below B w w') (hB : w.heap.size ≤ B) : Cur w' g A n c bs := by
  obtain ⟨i, z, hi, hx⟩ := h.ex
  exact ⟨⟨i, z, hi, hx.same (same_below hb (by have := hx.lt; omega))⟩, h.rd.below hb hB, h.far⟩

def ByteR (g : Nat) (A : Option Addr) (n c : Nat) (bs : List Int) (w : World) (e : Ending) (w' : World) : Prop :=
  ∃ x : Int, e = .returned (.int .i64 x) ∧ (0 ≤ x ∧ x ≤ 255) ∧ Cur w' g A n c bs ∧ Only g (g + 1) w w'

theorem byteR_of {g n c i' : Nat} {A : Option Addr} {bs : List Int} {w w' : World} {z x : Int} (h : Cur w g A n c bs) (hi : i' ≤ n) (hb : Bx w' g 75 #[.slice A n c, .int .i64 i', .int .i64 z]) (ho : Only g (g + 1) w w') (hx : 0 ≤ x ∧ x ≤ 255) :
    ByteR g A n c bs w (.returned (.int .i64 x)) w' := by
  refine ⟨x, rfl, hx, ⟨⟨i', z, hi, hb⟩, ⟨h.rd.len, fun hn => ?_⟩, h.far⟩, ho⟩
  obtain ⟨b, off, rfl, hlt, hc⟩ := h.rd.ex hn
  have hg := h.far hn _ rfl
  refine ⟨b, off, rfl, Nat.lt_of_lt_of_le hlt ho.size, fun j u hu => ?_⟩
  exact (World.cell?_of_block (ho.block b hlt (.inl hg))).trans (hc j u hu)

theorem only_set {g i : Nat} {u : Value} {w w' : World} (h : Only g (g + 1) w w') : Only g (g + 1) w (w'.setCell ⟨g, i, none⟩ u) :=
  h.trans ⟨rfl, rfl, rfl, by simp, fun k hk hd => heap_setCell_other w' ⟨g, i, none⟩ k u (by simp; omega)⟩
theorem only_drewN {g m : Nat} {w w' : World} (h : Only g (g + 1) w w') : Only g (g + 1) w (w'.drewN m) := ⟨h.os, h.tape, h.output, h.size, h.block⟩
theorem Bx.drewN {w : World} {b m : Nat} {t : TypeId} {cs : Array Value} (h : Bx w b t cs) : Bx (w.drewN m) b t cs := h

set_option maxHeartbeats 2000000 in
theorem l1Byte_any (g : Nat) (A : Option Addr) (n c : Nat) (bs : List Int) (w : World) (hu : ∀ z ∈ bs, 0 ≤ z ∧ z ≤ 255) (hn : n ≤ 1073741824) (h : Cur w g A n c bs) :
    Calls Tryd.prog 59 #[.pointer (some ⟨g, 0, none⟩)] w (ByteR g A n c bs w) := by
  obtain ⟨i, z, hi, hx⟩ := h.ex
  have c0 : w.cell? ⟨g, 0, none⟩ = some (.slice A n c) := hx.cells 0
  have c1 : w.cell? ⟨g, 1, none⟩ = some (.int .i64 i) := hx.cells 1
  have c2 : w.cell? ⟨g, 2, none⟩ = some (.int .i64 z) := hx.cells 2
  have f0 := hx.free 0
  have f1 := hx.free 1
  have f2 := hx.free 2
  have HX := Lib.hid hx
  have HC := Lib.hid h
  have HU := Lib.hid hu
  by_cases hlt : i < n
  · obtain ⟨b, off, rfl, hbl, hc⟩ := h.rd.ex (by omega)
    have hg := h.far (by omega) _ rfl
    have hl : i < bs.length := by have := h.rd.len; simp at this; omega
    have hcell := hc i _ (by simp only [List.getElem?_map, List.getElem?_eq_getElem hl]; rfl)
    have hz := hu _ (List.getElem_mem hl)
    obtain ⟨y, hy⟩ : ∃ y, y = bs[i] := ⟨_, rfl⟩
    rw [← hy] at hcell hz
    simp only at hg
    have hne : ¬ b = g := by omega
    clear hx h hu hc hy
    go_enter Tryd.func59, Tryd.ntmps59
    go_wp2_with fail
    generalize wrap64 (wrap64 (z * 6364136223846793005) + 1442695040888963407) = z2
    go_quiet (fail)
    go_wp2_with fail
    go_quiet (fail)
    go_wp2_with fail
    go_quiet (fail)
    go_wp2_with fail
    go_ret
    refine byteR_of HC.out (i' := i + 1) (z := z2) (by omega) ?_ (by repeat (first | exact Only.refl _ _ _ | apply only_drewN | apply only_set)) (and_255 _)
    exact Bx.set_ (Bx.set_ HX.out 2 (.int .i64 z2)) 1 (.int .i64 ((i : Int) + 1))
  · have hlt' : ¬ ((i : Int) < (n : Int)) := by omega
    clear hx h hu
    go_enter Tryd.func59, Tryd.ntmps59
    go_wp2_with fail
    generalize wrap64 (wrap64 (z * 6364136223846793005) + 1442695040888963407) = z2
    go_quiet (fail)
    go_wp2_with fail
    go_quiet (fail)
    go_wp2_with fail
    go_ret
    refine byteR_of HC.out (i' := i) (z := z2) (by omega) ?_ (by repeat (first | exact Only.refl _ _ _ | apply only_drewN | apply only_set)) (and_255 _)
    exact Bx.set_ HX.out 2 (.int .i64 z2)

theorem ByteR.only {g n c : Nat} {A : Option Addr} {bs : List Int} {w : World} {e : Ending} {w' : World} (h : ByteR g A n c bs w e w') : ∃ x : Int, e = .returned (.int .i64 x) ∧ (0 ≤ x ∧ x ≤ 255) ∧ Cur w' g A n c bs ∧ Only g (g + 1) w w' := h

/-- What l1Below may answer. -/
def BelowR (g : Nat) (A : Option Addr) (n c : Nat) (bs : List Int) (k : Int) (w : World) (e : Ending) (w' : World) : Prop :=
  ∃ x : Int, e = .returned (.int .i64 x) ∧ (0 ≤ x ∧ (0 < k → x < k) ∧ (k ≤ 0 → x = 0)) ∧ Cur w' g A n c bs ∧ Only g (g + 1) w w'

set_option maxHeartbeats 2000000 in
theorem l1Below_any (g : Nat) (A : Option Addr) (n c : Nat) (bs : List Int) (k : Int) (w : World) (hu : ∀ z ∈ bs, 0 ≤ z ∧ z ≤ 255) (hn : n ≤ 1073741824) (h : Cur w g A n c bs) :
    Calls Tryd.prog 45 #[.pointer (some ⟨g, 0, none⟩), .int .i64 k] w (BelowR g A n c bs k w) := by
  have HC := Lib.hid h
  have HU := Lib.hid hu
  clear h hu
  by_cases h0 : k ≤ 0
  · go_enter Tryd.func45, Tryd.ntmps45
    go_wp2_with fail
    go_ret
    exact ⟨0, rfl, ⟨by omega, by omega, fun _ => rfl⟩, HC.out, Only.refl _ _ _⟩
  · by_cases h1 : k ≤ 256
    · go_enter Tryd.func45, Tryd.ntmps45
      go_wp2_with fail
      refine (l1Byte_any g A n c bs _ HU.out hn HC.out).mono ?_
      rintro e w1 ⟨x, rfl, ⟨x0, x1⟩, hc1, ho1⟩
      have HC1 := Lib.hid hc1; have HO1 := Lib.hid ho1
      clear hc1 ho1
      go_wp2_with fail
      go_ret
      exact ⟨x % k, rfl, ⟨Int.emod_nonneg _ (by omega), fun _ => Int.emod_lt_of_pos _ (by omega), by omega⟩, HC1.out, HO1.out⟩
    · go_enter Tryd.func45, Tryd.ntmps45
      go_wp2_with fail
      refine (l1Byte_any g A n c bs _ HU.out hn HC.out).mono ?_
      rintro e w1 ⟨x, rfl, ⟨x0, x1⟩, hc1, ho1⟩
      have HC1 := Lib.hid hc1; have HO1 := Lib.hid ho1
      clear hc1 ho1
      go_wp2_with fail
      refine (l1Byte_any g A n c bs _ HU.out hn HC1.out).mono ?_
      rintro e w2 ⟨y, rfl, ⟨y0, y1⟩, hc2, ho2⟩
      have HC2 := Lib.hid hc2; have HO2 := Lib.hid (HO1.out.trans ho2)
      clear hc2 ho2 HC1 HO1
      go_wp2_with fail
      refine (l1Byte_any g A n c bs _ HU.out hn HC2.out).mono ?_
      rintro e w3 ⟨u, rfl, ⟨u0, u1⟩, hc3, ho3⟩
      have HC3 := Lib.hid hc3; have HO3 := Lib.hid (HO2.out.trans ho3)
      clear hc3 ho3 HC2 HO2
      go_wp2_with fail
      refine (l1Byte_any g A n c bs _ HU.out hn HC3.out).mono ?_
      rintro e w4 ⟨v, rfl, ⟨v0, v1⟩, hc4, ho4⟩
      have HC4 := Lib.hid hc4; have HO4 := Lib.hid (HO3.out.trans ho4)
      clear hc4 ho4 HC3 HO3
      go_wp2_with fail
      go_ret
      exact ⟨_, rfl, ⟨Int.emod_nonneg _ (by omega), fun _ => Int.emod_lt_of_pos _ (by omega), by omega⟩, HC4.out, HO4.out⟩

/-- Some truth value. -/
def OnceR (g : Nat) (A : Option Addr) (n c : Nat) (bs : List Int) (w : World) (e : Ending) (w' : World) : Prop :=
  ∃ x : Bool, e = .returned (.bool x) ∧ Cur w' g A n c bs ∧ Only g (g + 1) w w'
theorem l1Once_any (g : Nat) (A : Option Addr) (n c : Nat) (bs : List Int) (k : Int) (w : World) (hu : ∀ z ∈ bs, 0 ≤ z ∧ z ≤ 255) (hn : n ≤ 1073741824) (h : Cur w g A n c bs) :
    Calls Tryd.prog 30 #[.pointer (some ⟨g, 0, none⟩), .int .i64 k] w (OnceR g A n c bs w) := by
  have HC := Lib.hid h
  have HU := Lib.hid hu
  clear h hu
  go_enter Tryd.func30, Tryd.ntmps30
  go_wp2_with fail
  refine (l1Below_any g A n c bs k _ HU.out hn HC.out).mono ?_
  rintro e w1 ⟨x, rfl, _, hc1, ho1⟩
  have HC1 := Lib.hid hc1; have HO1 := Lib.hid ho1
  clear hc1 ho1
  go_wp2_with fail
  go_ret
  exact ⟨_, rfl, HC1.out, HO1.out⟩

/-- Some number of a list. -/
def PickR (g : Nat) (A : Option Addr) (n c : Nat) (bs xs : List Int) (w : World) (e : Ending) (w' : World) : Prop :=
  ∃ x : Int, e = .returned (.int .i64 x) ∧ x ∈ xs ∧ Cur w' g A n c bs ∧ Only g (g + 1) w w'
theorem l1PickInt_any (g : Nat) (A A' : Option Addr) (n c m c' : Nat) (bs xs : List Int) (w : World) (hu : ∀ z ∈ bs, 0 ≤ z ∧ z ≤ 255) (hn : n ≤ 1073741824) (h : Cur w g A n c bs)
    (hx : Rd w A' m (xs.map (Value.int .i64))) (hf : ∀ a, A' = some a → a.block ≠ g) (hm : 0 < m) (hm2 : m ≤ 1000) :
    Calls Tryd.prog 58 #[.pointer (some ⟨g, 0, none⟩), .slice A' m c'] w (PickR g A n c bs xs w) := by
  obtain ⟨b, off, rfl, hlt, hc⟩ := hx.ex hm
  have hl : xs.length = m := by have := hx.len; simpa using this
  have hne := hf _ rfl
  have HC := Lib.hid h
  have HU := Lib.hid hu
  have HX := Lib.hid hc
  have HL := Lib.hid hl
  simp only at hne
  clear h hu hx hf hc hl
  go_enter Tryd.func58, Tryd.ntmps58
  go_wp2_with fail
  refine (l1Below_any g A n c bs m _ HU.out hn HC.out).mono ?_
  rintro e w1 ⟨x, rfl, ⟨x0, x1, _⟩, hc1, ho1⟩
  have x2 := x1 (by omega)
  obtain ⟨j, rfl⟩ := Int.eq_ofNat_of_zero_le x0
  have hj : j < m := by omega
  have HJ : Hid (xs.getD j 0 ∈ xs) := by
    have : j < xs.length := by rw [HL.out]; exact hj
    unfold Hid; simp [this]
  have hcell : w1.cell? ⟨b, off + j, none⟩ = some (.int .i64 (xs.getD j 0)) := (World.cell?_of_block (ho1.block b hlt (by omega))).trans (HX.out j _ (by
    have : j < xs.length := by rw [HL.out]; exact hj
    simp [this]))
  obtain ⟨z, hz⟩ : ∃ z, z = xs.getD j 0 := ⟨_, rfl⟩
  rw [← hz] at hcell HJ
  have HC1 := Lib.hid hc1; have HO1 := Lib.hid ho1
  clear hc1 ho1 x1 hz
  go_wp2_with fail
  go_ret
  exact ⟨z, rfl, HJ.out, HC1.out, HO1.out⟩

theorem fin_new {w wr : World} {A : Option Addr} {n c : Nat} {bs : List Int} (z : Int) (hb : Below w.heap.size w wr) (hr : Rd w A n (bs.map (Value.int .u8))) :
    ∃ g, Ending.returned (.pointer (some ⟨wr.heap.size, 0, none⟩)) = .returned (.pointer (some ⟨g, 0, none⟩)) ∧ w.heap.size ≤ g ∧ Cur (wr.alloc (.cells #[.slice A n c, .int .i64 0, .int .i64 z] 75)) g A n c bs ∧ Below w.heap.size w (wr.alloc (.cells #[.slice A n c, .int .i64 0, .int .i64 z] 75)) := by
  have hb' := hb.alloc hb.size (.cells #[.slice A n c, .int .i64 0, .int .i64 z] 75)
  exact ⟨wr.heap.size, rfl, hb.size, ⟨⟨0, z, Nat.zero_le _, Bx.new _ _ _⟩, hr.below hb' (Nat.le_refl _), fun hn a h => by
    obtain ⟨b, off, rfl, hlt, _⟩ := hr.ex hn
    obtain rfl : (⟨b, off, none⟩ : Addr) = a := by simpa using h
    exact Nat.lt_of_lt_of_le hlt hb.size⟩, hb'⟩
set_option maxRecDepth 20000 in
set_option maxHeartbeats 2000000 in
theorem l1New_any (A : Option Addr) (n c : Nat) (bs : List Int) (w : World) (h : Rd w A n (bs.map (Value.int .u8))) (hu : ∀ z ∈ bs, 0 ≤ z ∧ z ≤ 255) (hn : n ≤ 1073741824) :
    Calls Tryd.prog 31 #[.slice A n c] w fun e w' => ∃ g, e = .returned (.pointer (some ⟨g, 0, none⟩)) ∧ w.heap.size ≤ g ∧ Cur w' g A n c bs ∧ Below w.heap.size w w' := by
  have HX := Lib.hid h
  have HU := Lib.hid hu
  have HL : Hid (bs.length = n) := by have := h.len; unfold Hid; simpa using this
  clear h hu
  go_enter Tryd.func31, Tryd.ntmps31
  go_wp2_with fail
  go_loopw [4, 3] (fun i s wr => ∃ (k : Nat) (z : Int), k ≤ n ∧ i = .int .i64 (k : Int) ∧ s = .int .i64 z ∧ Below w.heap.size w wr) (fun i _ _ => n - (intOf i).toNat)
  case atStart => exact ⟨0, _, Nat.zero_le _, rfl, rfl, Below.refl _ _⟩
  case round =>
    obtain ⟨k, z, hk, rfl, rfl, hbel⟩ := hrel
    by_cases hlt : k < n
    · by_cases hlt2 : k < 4000
      · obtain ⟨b, off, rfl, hbl, hc⟩ := HX.out.ex (by omega)
        have hl : k < bs.length := by rw [HL.out]; exact hlt
        have hcell : wr.cell? ⟨b, off + k, none⟩ = some (.int .u8 (bs[k])) := (hbel.cell (p := ⟨b, off + k, none⟩) hbl).trans (hc k _ (by simp only [List.getElem?_map, List.getElem?_eq_getElem hl]; rfl))
        have hz := HU.out _ (List.getElem_mem hl)
        obtain ⟨y, hy⟩ : ∃ y, y = bs[k] := ⟨_, rfl⟩
        rw [← hy] at hcell hz
        have HBel := Lib.hid hbel
        clear hbel hc hy hl
        go_wp2_with fail
        go_roundw
        case rel => exact ⟨k + 1, _, by omega, by go_num, rfl, Below.trans HBel.out (by repeat (first | exact Below.refl _ _ | apply below_drewN | apply Below.drew))⟩
        case measure => simp [intOf]; omega
      · have HBel := Lib.hid hbel
        have hlt3 : ¬ (k : Int) < 4000 := by omega
        clear hbel
        go_wp2_with fail
        go_ret
        exact fin_new z HBel.out HX.out
    · have HBel := Lib.hid hbel
      have hlt3 : ¬ (k : Int) < (n : Int) := by omega
      clear hbel
      go_wp2_with fail
      go_ret
      exact fin_new z HBel.out HX.out

end Go.Proofs.YtchkmcikpamdeaaDoor
