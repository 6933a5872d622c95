/-
  Digits of spec: the decimal text, as strconv.Itoa has it. Up to six digits: no cut has more.
-/
import Derived.Test.YtchkmcikpamdeaaDoorSchW
import Derived.Laws.BytesArg
import Derived.Lib.ItoaNum
import Derived.Lib.ItoaLen
namespace Go.Proofs.YtchkmcikpamdeaaDoor
open Go.RowKit
set_option linter.unusedSimpArgs false
set_option linter.unusedVariables false

/-- The digits, none for nought. -/
def dD (u : Nat) : List UInt8 := if u = 0 then [] else Lib.decDigits u
theorem dD_step {u : Nat} (h : ¬ u = 0) : dD u = dD (u / 10) ++ [UInt8.ofNat (48 + u % 10)] := by
  unfold dD
  rw [if_neg h]
  by_cases h9 : u < 10
  · rw [Lib.decDigits, dif_pos h9, if_pos (by omega), Nat.mod_eq_of_lt h9]; rfl
  · rw [Lib.decDigits, dif_neg h9, if_neg (by omega)]
theorem dD_len (u : Nat) (h : u ≤ 1000000) : (dD u).length ≤ 20 := by
  unfold dD
  split
  · simp
  · rw [Lib.decDigits_length]; exact Lib.nDigits_le20 u (by omega)
theorem ba_app (a b : List UInt8) : (⟨a.toArray⟩ ++ ⟨b.toArray⟩ : ByteArray) = ⟨(a ++ b).toArray⟩ := by
  apply ByteArray.ext; simp
theorem itoa_d {n : Int} (h : ¬ n = 0) : Lib.itoa n = (if n < 0 then 45 :: dD n.natAbs else dD n.natAbs) := by
  unfold Lib.itoa dD
  rw [if_neg (show ¬ n.natAbs = 0 by omega)]
  split
  · rfl
  · rw [show n.toNat = n.natAbs by omega]
theorem str_one {r : Nat} (h : r ≤ 9) : strOfNums [48 + (r : Int)] = ⟨[UInt8.ofNat (48 + r)].toArray⟩ := by
  have : ∀ r : Fin 10, strOfNums [48 + ((r.val : Nat) : Int)] = ⟨[UInt8.ofNat (48 + r.val)].toArray⟩ := by decide +kernel
  exact this ⟨r, by omega⟩

set_option maxRecDepth 20000 in
set_option maxHeartbeats 2000000 in
theorem sDigits_any (n : Int) (h0 : -1000000 ≤ n) (h1 : n ≤ 1000000) (w : World) :
    Calls Tryd.prog 22 #[.int .i64 n] w fun e w' => e = .returned (.string ⟨(Lib.itoa n).toArray⟩) ∧ Below w.heap.size w w' := by
  by_cases hz : n = 0
  · subst hz
    go_enter Tryd.func22, Tryd.ntmps22
    go_wp2_with fail
    go_ret
    exact ⟨by rw [show Lib.itoa 0 = [48] by unfold Lib.itoa; rw [if_neg (by omega)]; exact Lib.decDigits_one (by decide)]; rfl, Below.refl _ _⟩
  · have HI := Lib.hid (itoa_d hz)
    have e1 : (n == 0) = false := beq_false_of_ne hz
    obtain ⟨ng, hng⟩ : ∃ ng, decide (n < 0) = ng := ⟨_, rfl⟩
    have HNg := Lib.hid hng
    obtain ⟨u0, hu0⟩ : ∃ u0, n.natAbs = u0 := ⟨_, rfl⟩
    have hub : u0 ≤ 1000000 := by omega
    rw [hu0] at HI
    have HU0 := Lib.hid hu0
    clear hu0
    go_enter Tryd.func22, Tryd.ntmps22
    go_wp2_with fail
    clear e1
    go_loopw [0, 4] (fun nn ss wr => ∃ (z : Int) (out : List UInt8), nn = .int .i64 z ∧ ss = .string ⟨out.toArray⟩ ∧ -1000000 ≤ z ∧ z ≤ 1000000 ∧ dD u0 = dD z.natAbs ++ out ∧ Below w.heap.size w wr) (fun nn _ _ => (intOf nn).natAbs)
    case atStart => exact ⟨n, [], rfl, rfl, h0, h1, by rw [HU0.out, List.append_nil], Below.refl _ _⟩
    case round =>
      obtain ⟨z, out, rfl, rfl, hz0, hz1, hd, hbel⟩ := hrel
      have hol : out.length ≤ 20 := by have := dD_len u0 hub; rw [hd, List.length_append] at this; omega
      have HB := Lib.hid hbel
      have HD := Lib.hid hd
      clear hbel hd
      by_cases hp : z = 0
      · subst hp
        have HO : Hid (out = dD u0) := by unfold Hid; rw [HD.out]; rfl
        have hos : (⟨out.toArray⟩ : ByteArray).size = out.length := rfl
        have hsz : ¬ 9223372036854775807 < 1 + (⟨out.toArray⟩ : ByteArray).size := by rw [hos]; omega
        cases ng
        · have HR : Hid (Lib.itoa n = out) := by unfold Hid; rw [HI.out, if_neg (of_decide_eq_false HNg.out), HO.out]
          go_wp2_with fail
          go_ret
          exact ⟨by rw [HR.out]; rfl, HB.out⟩
        · have HR : Hid (Lib.itoa n = 45 :: out) := by unfold Hid; rw [HI.out, if_pos (of_decide_eq_true HNg.out), HO.out]
          go_wp2_with fail
          go_ret
          exact ⟨by rw [HR.out, show (45 :: out : List UInt8) = [45] ++ out from rfl, ← ba_app]; rfl, HB.out⟩
      · have HS := Lib.hid (dD_step (u := z.natAbs) (by omega))
        obtain ⟨d, hdd⟩ : ∃ d, z.tmod 10 = d := ⟨_, rfl⟩
        obtain ⟨z2, hz2⟩ : ∃ z2, z.tdiv 10 = z2 := ⟨_, rfl⟩
        obtain ⟨r, hr⟩ : ∃ r, z.natAbs % 10 = r := ⟨_, rfl⟩
        have hda : d.natAbs = r := by rw [← hdd, Int.natAbs_tmod]; exact hr
        have hza : z2.natAbs = z.natAbs / 10 := by rw [← hz2, Int.natAbs_tdiv]; rfl
        have hr9 : r ≤ 9 := by omega
        have hlt : z2.natAbs < z.natAbs := by omega
        have e1 : (z == 0) = false := beq_false_of_ne hp
        have e2 : (z != 0) = true := by simpa using hp
        have m1 : IntKind.i64.wrap d = d := IntWalk.i64_in _ (by omega)
        have m2 : IntKind.i64.wrap (48 + (r : Int)) = 48 + (r : Int) := IntWalk.i64_in _ (by omega)
        have m3 : IntKind.u8.wrap (48 + (r : Int)) = 48 + (r : Int) := IntWalk.u8_in _ (by omega)
        have m4 : IntKind.i64.wrap z2 = z2 := IntWalk.i64_in _ (by omega)
        have HB2 := Lib.hid (HB.out.alloc HB.out.size (.cells #[.int .u8 (48 + (r : Int))] 5))
        have hcv := run_convert_bytes_arg (P := Tryd.prog) (wr.alloc (.cells #[.int .u8 (48 + (r : Int))] 5)) 38 5 Tryd.underlying38 Tryd.underlying5 wr.heap.size 0 1 1 [48 + (r : Int)] rfl (fun i hi => by
          obtain rfl : i = 0 := by omega
          exact (Bx.new wr 5 #[.int .u8 (48 + (r : Int))]).cells 0) 9 Tryd.underlying9
        obtain ⟨S, hS⟩ : ∃ S, strOfNums [48 + (r : Int)] = S := ⟨_, rfl⟩
        rw [hS] at hcv
        have hs1 : S.size = 1 := by rw [← hS, strOfNums_size]; rfl
        have HS1 : Hid (S = ⟨[UInt8.ofNat (48 + r)].toArray⟩) := by unfold Hid; rw [← hS]; exact str_one hr9
        have hos : (⟨out.toArray⟩ : ByteArray).size = out.length := rfl
        have hsz : ¬ 9223372036854775807 < S.size + (⟨out.toArray⟩ : ByteArray).size := by rw [hos]; omega
        have HN : Hid (dD u0 = dD z2.natAbs ++ ([UInt8.ofNat (48 + r)] ++ out)) := by unfold Hid; rw [HD.out, HS.out, hr, hza, List.append_assoc]
        have hb2 : -1000000 ≤ z2 ∧ z2 ≤ 1000000 := by omega
        clear hS hr hza
        by_cases hdn : d < 0
        · have l1 : decide (d < 0) = true := decide_eq_true hdn
          have l2 : IntKind.i64.wrap (0 - d) = (r : Int) := by rw [IntWalk.i64_in _ (by omega)]; omega
          have l3 : IntKind.i64.wrap (-d) = (r : Int) := by rw [IntWalk.i64_in _ (by omega)]; omega
          clear hda
          go_wp2_with fail
          clear m1 m2 m3 m4 l1 l2 l3 hcv
          go_roundw
          case rel => exact ⟨z2, [UInt8.ofNat (48 + r)] ++ out, rfl, by rw [HS1.out, ba_app], hb2.1, hb2.2, HN.out, HB2.out⟩
          case measure => simp [intOf]; omega
        · have l1 : decide (d < 0) = false := decide_eq_false hdn
          obtain rfl : d = (r : Int) := by omega
          clear hda
          go_wp2_with fail
          clear m1 m2 m3 m4 l1 hcv
          go_roundw
          case rel => exact ⟨z2, [UInt8.ofNat (48 + r)] ++ out, rfl, by rw [HS1.out, ba_app], hb2.1, hb2.2, HN.out, HB2.out⟩
          case measure => simp [intOf]; omega

end Go.Proofs.YtchkmcikpamdeaaDoor
