/-
  Buckets of both packages.
-/
import Derived.Test.YtnljlehbjdambaaWinOk
namespace Go.Proofs.Ytnljlehbjdambaa
open Go.RowKit
set_option linter.unusedSimpArgs false
set_option linter.unusedVariables false

/-- The buckets of a row; the cells of buckets; the buckets of the last j rows, oldest first; what Buckets answers. -/
def rowBk (r : Nat) (xs : List Int) : List (Int × Int) := xs.map fun x => (pw r, x)
def bcells (bs : List (Int × Int)) : List Value := bs.flatMap fun b => [.int .i64 b.1, .int .i64 b.2]
def bkJ (xss : List (List Int)) : Nat → List (Int × Int)
  | 0 => []
  | j + 1 => bkJ xss j ++ rowBk (xss.length - 1 - j) (xss.getD (xss.length - 1 - j) [])
def bucketsL (xss : List (List Int)) : List (Int × Int) := if winB xss then bkJ xss xss.length else []
theorem bcells_len (bs : List (Int × Int)) : (bcells bs).length = bs.length * 2 := by
  induction bs with
  | nil => rfl
  | cons b bs ih => simp only [bcells, List.flatMap_cons, List.length_append, List.length_cons, List.length_nil] at ih ⊢; omega
theorem bcells_snoc (bs : List (Int × Int)) (a b : Int) : bcells (bs ++ [(a, b)]) = bcells bs ++ [.int .i64 a, .int .i64 b] := by simp [bcells]
theorem bkJ_len {xss : List (List Int)} (h : winB xss = true) : ∀ j, j ≤ xss.length → (bkJ xss j).length ≤ 3 * j
  | 0, _ => by simp [bkJ]
  | j + 1, hj => by
    have h1 := bkJ_len h j (by omega)
    have hl : xss.length - 1 - j < xss.length := by omega
    have h2 := (rowB_len (winB_row h (List.getElem?_eq_getElem hl))).2
    simp only [bkJ, List.length_append, rowBk, List.length_map, List.getD, List.getElem?_eq_getElem hl, Option.getD_some]
    omega
theorem take_snoc {r q : Nat} {xs : List Int} {x : Int} (bs : List (Int × Int)) (hx : xs[q]? = some x) : bs ++ (rowBk r xs).take (q + 1) = (bs ++ (rowBk r xs).take q) ++ [(pw r, x)] := by
  obtain ⟨h1, h2⟩ := List.getElem?_eq_some_iff.1 hx
  rw [List.take_succ_eq_append_getElem (by simpa [rowBk] using h1), List.append_assoc]
  simp [rowBk, h2]
theorem pw_sh {r : Nat} (h : r ≤ 8) : wrap64 ((2 : Int) ^ r) = pw r := by
  have hb := pw_bd h
  have e : pw r = (2 : Int) ^ r := by unfold pw; push_cast; rfl
  rw [← e]
  unfold wrap64; omega
theorem info_Bk : (Try.prog.info? 45).map (fun i => (i.zero, i.size, i.bytes)) = some (some (.agg #[.int .i64 0, .int .i64 0]), 2, 16) := by kernel_rfl
theorem rd_win {w : World} {A : Option Addr} {n : Nat} {hs : List Hd} {xss : List (List Int)} (h : RdSS w A n hs (iss xss)) : xss.length = n := by have := h.len; rwa [iss_len] at this

set_option maxHeartbeats 4000000 in
theorem iBuckets_any (A : Option Addr) (n c : Nat) (hs : List Hd) (xss : List (List Int)) (w : World) (h : RdSS w A n hs (iss xss)) (hb : totI xss ≤ 1048576) (hn : n ≤ 1048576) (hx : ∀ xs ∈ xss, ∀ x ∈ xs, -9223372036854775808 ≤ x ∧ x ≤ 9223372036854775807) :
    Calls Try.prog 26 #[.agg #[.slice A n c]] w fun e w' => ∃ A' c' N, e = .returned (.slice A' N c') ∧ N = (bucketsL xss).length ∧ w'.ownsRow w.heap.size 45 2 (.slice A' N c') N (bcells (bucketsL xss)) ∧ Below w.heap.size w w' := by
  have HX := Lib.hid hx
  clear hx
  have HL := Lib.hid (rd_win h)
  have HB := Lib.hid (row_le hb)
  have HB1 := Lib.hid (below_alloc1 (w := w) (.cells #[.slice A n c] 26))
  have H1 := Lib.hid (h.below (below_alloc1 (w := w) (.cells #[.slice A n c] 26)) (Nat.le_refl _))
  have C0 : Hid ((w.alloc (.cells #[.slice A n c] 26)).cell? ⟨w.heap.size, 0, none⟩ = some (.slice A n c)) := Lib.hid (by simp [go_sem])
  have hz : (w.alloc (.cells #[.slice A n c] 26)).heap.size = w.heap.size + 1 := by simp
  obtain ⟨i0, hi0, hz0, hz1, hz2⟩ := info_parts info_Bk
  have HI := Lib.hid hi0; have HZ := Lib.hid hz0; have HZ1 := Lib.hid hz1; have HZ2 := Lib.hid hz2
  clear hi0 hz0 hz1 hz2 h
  cases hw : winB xss
  · have HWin := Lib.hid hw
    have HW : Hid (bucketsL xss = []) := by unfold Hid bucketsL; rw [hw]; rfl
    go_enter Try.func26, Try.ntmps26
    go_wp2_with fail
    refine (iWindowOk_any A n c hs xss _ H1.out hb hn HX.out).mono ?_
    rw [HWin.out]
    rintro e w2 ⟨rfl, b2⟩
    have hz2 := b2.size
    rw [hz] at hz2
    have HB2 := Lib.hid b2
    clear b2
    go_wp2_with fail
    go_ret
    exact ⟨none, 0, 0, rfl, by rw [HW.out]; rfl, by rw [HW.out]; exact World.ownsRow_nil _ _ _ _, HB1.out.trans (HB2.out.mono (by omega))⟩
  · have HWin := Lib.hid hw
    have hn8 : n ≤ 8 := by rw [← HL.out]; exact winB_len hw
    go_enter Try.func26, Try.ntmps26
    go_wp2_with fail
    refine (iWindowOk_any A n c hs xss _ H1.out hb hn HX.out).mono ?_
    rw [HWin.out]
    rintro e w2 ⟨rfl, b2⟩
    have hz2 := b2.size
    rw [hz] at hz2
    have HB2 := Lib.hid b2
    clear b2
    have HE : Hid ((w2.alloc (.cells #[] 45)).ownsRow (w.heap.size + 1) 45 2 (.slice (some ⟨w2.heap.size, 0, none⟩) 0 0) 0 (bcells [])) := World.ownsRow_lit (base := w.heap.size + 1) (size := 2) w2 #[] 0 hz2 (by simp [maxLen]) rfl
    rw [hz] at HB2
    have HBE := Lib.hid (HB2.out.alloc hz2 (.cells #[] 45))
    have c0' : (w2.alloc (.cells #[] 45)).cell? ⟨w.heap.size, 0, none⟩ = some (.slice A n c) := (HBE.out.cell (p := ⟨w.heap.size, 0, none⟩) (show w.heap.size < w.heap.size + 1 by omega)).trans C0.out
    go_wp2_with fail
    obtain ⟨W1, hW1⟩ : ∃ W1, W1 = (w.alloc (.cells #[.slice A n c] 26)) := ⟨_, rfl⟩
    rw [← hW1] at HB1 H1 C0 hz HBE
    clear hW1 c0'
    go_loopw [3, 4] (fun out ii wr => ∃ (j : Nat) (A' : Option Addr) (c' N : Nat), j ≤ n ∧ ii = .int .i64 ((n : Int) - 1 - j) ∧ out = .slice A' N c' ∧ N ≤ 3 * j ∧ N = (bkJ xss j).length ∧ wr.ownsRow (w.heap.size + 1) 45 2 (.slice A' N c') N (bcells (bkJ xss j)) ∧ Below (w.heap.size + 1) W1 wr) (fun _ ii _ => (intOf ii + 1).toNat)
    case atStart => exact ⟨0, _, _, 0, Nat.zero_le _, by simp, rfl, by omega, rfl, HE.out, HBE.out⟩
    case round =>
      obtain ⟨j, A', c', N, hj, rfl, rfl, hN, hNl, hown, hbel⟩ := hrel
      have HNl := Lib.hid hNl; have HOwn := Lib.hid hown; have HBel := Lib.hid hbel
      clear hNl hown hbel
      have c0 : wr.cell? ⟨w.heap.size, 0, none⟩ = some (.slice A n c) := (HBel.out.cell (p := ⟨w.heap.size, 0, none⟩) (show w.heap.size < _ by omega)).trans C0.out
      by_cases hlt : j < n
      · obtain ⟨r, hr⟩ : ∃ r, n = j + 1 + r := ⟨n - j - 1, by omega⟩
        have hri : (n : Int) - 1 - j = (r : Nat) := by omega
        have hrn : r < n := by omega
        have hr7 : r ≤ 7 := by omega
        rw [hri]
        obtain ⟨x, vs, hx, hv, hrd, hvl⟩ := H1.out.get hrn
        obtain ⟨b, off, rfl, hbl, hcell0⟩ := H1.out.head hrn hx
        rw [hz] at hbl
        obtain ⟨xs, hxs, rfl⟩ := iss_get' hv
        obtain ⟨xa, xn, xc⟩ := x
        have hrow := rowB_len (winB_row HWin.out hxs)
        simp only [List.length_map] at hvl hcell0 hrd
        subst hvl
        have HCell := Lib.hid hcell0
        have hcell : wr.cell? ⟨b, off + r, none⟩ = some (.slice xa xs.length xc) := (HBel.out.cell (p := ⟨b, off + r, none⟩) hbl).trans hcell0
        have HXS := Lib.hid hxs; have HRow := Lib.hid hrd
        have HNext : Hid (bkJ xss (j + 1) = bkJ xss j ++ rowBk r xs) := by
          have e : xss.length - 1 - j = r := by rw [HL.out]; omega
          unfold Hid; rw [bkJ, e]; simp [List.getD, hxs]
        have hpb := pw_bd (r := r) (by omega)
        obtain ⟨p, hp⟩ : ∃ p, pw r = p := ⟨_, rfl⟩
        have HP := Lib.hid hp
        have hsh : wrap64 ((2 : Int) ^ r) = p := (pw_sh (by omega)).trans hp
        rw [hp] at hpb
        have n2 : (0 : Int) ≤ (r : Int) := Int.natCast_nonneg _
        have n3 : (r : Int) < (n : Int) := by omega
        have HRI : Hid ((r : Int) - 1 = (n : Int) - 1 - ((j + 1 : Nat) : Int)) := by unfold Hid; omega
        clear hr hri
        clear hcell0 hrd hx hv hxs hp
        go_wp2_with fail
        go_loopw [3, 25] (fun out ii wr => ∃ (q : Nat) (A2 : Option Addr) (c2 : Nat), q ≤ xs.length ∧ ii = .int .i64 q ∧ out = .slice A2 (N + q) c2 ∧ wr.ownsRow (w.heap.size + 1) 45 2 (.slice A2 (N + q) c2) (N + q) (bcells (bkJ xss j ++ (rowBk r xs).take q)) ∧ Below (w.heap.size + 1) W1 wr) (fun _ ii _ => xs.length - (intOf ii).toNat)
        case atStart => exact ⟨0, A', c', Nat.zero_le _, rfl, rfl, by simpa using HOwn.out, HBel.out⟩
        case round =>
          obtain ⟨q, A2, c2, hq, rfl, rfl, hown, hbel⟩ := hrel
          have HOwn2 := Lib.hid hown; have HBel2 := Lib.hid hbel
          clear hown hbel
          have c0 : wr.cell? ⟨w.heap.size, 0, none⟩ = some (.slice (some ⟨b, off, none⟩) n c) := (HBel2.out.cell (p := ⟨w.heap.size, 0, none⟩) (show w.heap.size < _ by omega)).trans C0.out
          have hcell : wr.cell? ⟨b, off + r, none⟩ = some (.slice xa xs.length xc) := (HBel2.out.cell (p := ⟨b, off + r, none⟩) hbl).trans HCell.out
          have hsz : w.heap.size + 1 ≤ wr.heap.size := by have := HBel2.out.size; omega
          by_cases hltq : q < xs.length
          · obtain ⟨b2, off2, rfl, hbl2, hc2⟩ := HRow.out.ex (by omega)
            rw [hz] at hbl2
            have hxq : xs[q]? = some xs[q] := List.getElem?_eq_getElem hltq
            have hcell2 : wr.cell? ⟨b2, off2 + q, none⟩ = some (.int .i64 xs[q]) := (HBel2.out.cell (p := ⟨b2, off2 + q, none⟩) hbl2).trans (hc2 q _ (by simp [hltq]))
            obtain ⟨x, hx⟩ : ∃ x, xs[q] = x := ⟨_, rfl⟩
            rw [hx] at hcell2 hxq
            have HTake : Hid (bcells (bkJ xss j ++ (rowBk r xs).take (q + 1)) = bcells (bkJ xss j ++ (rowBk r xs).take q) ++ [.int .i64 p, .int .i64 x]) := by
              unfold Hid; rw [take_snoc _ hxq, HP.out, bcells_snoc]
            have n0 : (0 : Int) ≤ (q : Int) := Int.natCast_nonneg _
            have n1 : (q : Int) < (xs.length : Int) := by omega
            clear hc2 hx hxq
            go_wp2_with (at_builtin; refine wpList_append_own _ rfl _ _ 42 rfl (w.heap.size + 1) 45 i0 (.agg #[.int .i64 0, .int .i64 0]) 2 16 Try.underlying42 HI.out HZ.out HZ1.out HZ2.out rfl (by decide) (.slice A2 (N + q) c2) (N + q) (bcells (bkJ xss j ++ (rowBk r xs).take q)) rfl (HOwn2.out.alloc _) ⟨wr.heap.size, 0, none⟩ 1 1 [.int .i64 p, .int .i64 x] rfl rfl ?c1 ?c2 ?c3 ?c4 ?c5 ?_)
            case c1 => exact World.news_of_block (cs := #[.int .i64 p, .int .i64 x]) (t := 45) (fr := (0, 0)) (heap_alloc_new wr _)
            case c2 => simp [Value.oneCell']
            case c3 => unfold maxLen; omega
            case c4 => omega
            case c5 => simp; omega
            · intro v' w3 hown3 hgrow _
              obtain ⟨A3, c3, rfl⟩ := own_shape hown3

              have HOwn3 : Hid (w3.ownsRow (w.heap.size + 1) 45 2 (.slice A3 (N + (q + 1)) c3) (N + (q + 1)) (bcells (bkJ xss j ++ (rowBk r xs).take (q + 1)))) := by
                unfold Hid; rw [HTake.out]; exact hown3
              have HBel3 : Hid (Below (w.heap.size + 1) W1 w3) := (HBel2.out.alloc hsz _).grown hgrow (by simp; omega) (fun k hk => (HOwn2.out.lt k hk).1)
              clear hown3 hgrow
              go_wp2_with fail
              go_roundw
              case rel => exact ⟨q + 1, A3, c3, by omega, by go_num, rfl, HOwn3.out, HBel3.out⟩
              case measure => simp [intOf]; omega
          · obtain rfl : q = xs.length := by omega
            have HFull : Hid (bkJ xss (j + 1) = bkJ xss j ++ (rowBk r xs).take xs.length) := by unfold Hid; rw [HNext.out, List.take_of_length_le (by simp [rowBk])]
            go_wp2_with fail
            go_roundw
            case rel => exact ⟨j + 1, A2, c2, N + xs.length, by omega, by rw [← HRI.out], rfl, by omega, by rw [HNext.out, List.length_append, ← HNl.out]; simp [rowBk], by rw [HFull.out]; exact HOwn2.out, HBel2.out⟩
            case measure => simp [intOf]

      · obtain rfl : j = n := by omega
        have HW : Hid (bucketsL xss = bkJ xss j) := by unfold Hid bucketsL; rw [if_pos HWin.out, HL.out]
        go_wp2_with fail
        go_ret
        exact ⟨A', c', N, rfl, by rw [HW.out]; exact HNl.out, by rw [HW.out]; exact own_base HOwn.out (by omega), HB1.out.trans (HBel.out.mono (by omega))⟩

end Go.Proofs.Ytnljlehbjdambaa
