/-
  Candidates of both packages.
-/
import Derived.Test.YtchkmcikpamdeaaDoorAttrsOk
import Derived.Test.YtchkmcikpamdeaaDoorFork
import Derived.Lib.SlicesS
namespace Go.Proofs.YtchkmcikpamdeaaDoor
open Go.RowKit
set_option linter.unusedSimpArgs false
set_option linter.unusedVariables false

def rowF (x : Int) (nn : Nat) : List (Int × Int) := (List.range nn).map fun (t : Nat) => (x, (t : Int))
def candA (ats : List AD) (two : Bool) (x : Int) : List (Int × Int) := if (atA ats x).cuts.length = 0 ∧ two = false then [(x, -1)] else rowF x (lastI (atA ats x) + 1).toNat
def candJ (ats : List AD) (two : Bool) (xs : List Int) : List (Int × Int) := xs.flatMap (candA ats two)
def candL (ats : List AD) (cs : List ByteArray) (xs : List Int) (two : Bool) : List (Int × Int) := if attrsB ats cs xs then candJ ats two xs else []
def fcells (bs : List (Int × Int)) : List Value := bs.flatMap fun b => [.int .i64 b.1, .int .i64 b.2]
theorem fcells_len (bs : List (Int × Int)) : (fcells bs).length = bs.length * 2 := by
  induction bs with
  | nil => rfl
  | cons b bs ih => simp only [fcells, List.flatMap_cons, List.length_append, List.length_cons, List.length_nil] at ih ⊢; omega
theorem fcells_snoc (bs : List (Int × Int)) (a b : Int) : fcells (bs ++ [(a, b)]) = fcells bs ++ [.int .i64 a, .int .i64 b] := by simp [fcells]
theorem rowF_len (x : Int) (nn : Nat) : (rowF x nn).length = nn := by simp [rowF]
theorem rowF_take {x : Int} {nn t : Nat} (h : t < nn) (bs : List (Int × Int)) : bs ++ (rowF x nn).take (t + 1) = (bs ++ (rowF x nn).take t) ++ [(x, (t : Int))] := by
  have h1 : t < (rowF x nn).length := by rw [rowF_len]; exact h
  have e : (rowF x nn)[t] = (x, (t : Int)) := by simp [rowF]
  rw [List.take_succ_eq_append_getElem h1, e, List.append_assoc]
theorem rowF_all {x : Int} {nn t : Nat} (h : nn ≤ t) : (rowF x nn).take t = rowF x nn := List.take_of_length_le (by rw [rowF_len]; exact h)
theorem candJ_snoc {ats : List AD} {two : Bool} {xs : List Int} {k : Nat} {x : Int} (h : xs[k]? = some x) : candJ ats two (xs.take (k + 1)) = candJ ats two (xs.take k) ++ candA ats two x := by
  obtain ⟨h1, h2⟩ := List.getElem?_eq_some_iff.1 h
  unfold candJ
  rw [List.take_succ_eq_append_getElem h1, List.flatMap_append, h2]; simp
theorem attrB_bins2 {a : AD} (h : attrB a = true) : ∃ nb : Nat, binsI a = (nb : Nat) ∧ 2 ≤ nb ∧ nb ≤ 4 := by
  unfold attrB at h
  simp only [Bool.and_eq_true] at h
  obtain ⟨_, h2⟩ := h
  unfold binsI
  split at h2
  · rename_i hz
    simp only [Bool.and_eq_true] at h2
    have := inB_iff.1 h2.1
    exact ⟨a.vals.length, by rw [if_neg (by omega)], by omega, by omega⟩
  · rename_i hz
    simp only [Bool.and_eq_true, cutsB_eq] at h2
    have := inB_iff.1 h2.2.1.1
    exact ⟨a.cuts.length + 1, by rw [if_pos (by omega)]; push_cast; rfl, by omega, by omega⟩
/-- What an attribute of a valid list has. -/
theorem attr_ok {ats : List AD} {cs : List ByteArray} {xs : List Int} (h : attrsB ats cs xs = true) {k : Nat} {x : Int} (hx : xs[k]? = some x) : ∃ (j : Nat) (a : AD) (nn : Nat), x = j ∧ j < ats.length ∧ ats[j]? = some a ∧ attrB a = true ∧ lastI a + 1 = nn ∧ nn ≤ 4 ∧ schB ats cs = true ∧ inB x 0 ((ats.length : Int) - 1) = true := by
  unfold attrsB at h
  simp only [Bool.and_eq_true] at h
  obtain ⟨⟨⟨h1, _⟩, _⟩, h4⟩ := h
  have h5 := List.all_eq_true.1 h4 x (List.mem_of_getElem? hx)
  have h6 := inB_iff.1 h5
  obtain ⟨j, rfl⟩ := Int.eq_ofNat_of_zero_le h6.1
  have hj : j < ats.length := by omega
  have ha : ats[j]? = some ats[j] := List.getElem?_eq_getElem hj
  have hab := schB_get h1 ha
  obtain ⟨nb, b1, b2, b3⟩ := attrB_bins2 hab
  refine ⟨j, _, (lastI ats[j] + 1).toNat, rfl, hj, ha, hab, ?_, ?_, h1, h5⟩
  · unfold lastI; split <;> omega
  · unfold lastI; split <;> omega
theorem candA_len {ats : List AD} {cs : List ByteArray} {xs : List Int} {two : Bool} (h : attrsB ats cs xs = true) {k : Nat} {x : Int} (hx : xs[k]? = some x) : (candA ats two x).length ≤ 4 := by
  obtain ⟨j, a, nn, rfl, _, ha, _, hn, h4, _⟩ := attr_ok h hx
  unfold candA
  rw [atA_get ha]
  split
  · simp
  · rw [rowF_len, hn]; omega
theorem candJ_len {ats : List AD} {cs : List ByteArray} {xs : List Int} {two : Bool} (h : attrsB ats cs xs = true) : ∀ k, k ≤ xs.length → (candJ ats two (xs.take k)).length ≤ 4 * k
  | 0, _ => by simp [candJ]
  | k + 1, hk => by
    have hx : xs[k]? = some xs[k] := List.getElem?_eq_getElem (by omega)
    rw [candJ_snoc hx, List.length_append]
    have h1 := candJ_len h (two := two) k (by omega)
    have h2 := candA_len (two := two) h hx
    omega
theorem info_Fk : (Tryd.prog.info? 34).map (fun i => (i.zero, i.size, i.bytes)) = some (some (.agg #[.int .i64 0, .int .i64 0]), 2, 16) := by kernel_rfl
theorem own2_below {w w' : World} {B base : Nat} {e : TypeId} {n : Nat} {v : Value} {xs : List Value} (h : w.ownsRow base e 2 v n xs) (hb : Below B w w') (hB : w.heap.size ≤ B) : w'.ownsRow base e 2 v n xs := own_below h hb hB

set_option maxRecDepth 20000 in
set_option maxHeartbeats 8000000 in
theorem iCand_false (A C : Option Addr) (n c m d : Nat) (hs : List AH) (ats : List AD) (cs : List ByteArray) (X : Option Addr) (q e0 : Nat) (xs : List Int) (w : World) (r : Sch w A C n m d hs ats cs) (hx : Rd w X q (xs.map (Value.int .i64))) (hq : q ≤ 1048576) :
    Calls Tryd.prog 13 #[.agg #[.slice A n c, .slice C m d], .slice X q e0, .bool false] w fun e w' => ∃ A' c' N, e = .returned (.slice A' N c') ∧ N = (candL ats cs xs false).length ∧ w'.ownsRow w.heap.size 34 2 (.slice A' N c') N (fcells (candL ats cs xs false)) ∧ Below w.heap.size w w' := by
  have R := Lib.hid r
  have HL := Lib.hid r.lenA
  have hn := r.hn
  clear r
  have HX := Lib.hid hx
  have HXL : Hid (xs.length = q) := by have := hx.len; unfold Hid; simpa using this
  clear hx
  obtain ⟨i0, hi0, hz0, hz1, hz2⟩ := info_parts info_Fk
  have HJ := Lib.hid hi0; have HJ0 := Lib.hid hz0; have HJ1 := Lib.hid hz1; have HJ2 := Lib.hid hz2
  clear hi0 hz0 hz1 hz2
  cases h0 : attrsB ats cs xs
  · have H0 := Lib.hid h0
    have HL0 : Hid (candL ats cs xs false = []) := by unfold Hid candL; rw [h0]; rfl
    clear h0
    have B0 := Below.refl w.heap.size w
    have s0 : w.heap.size ≤ w.heap.size := Nat.le_refl _
    go_enter Tryd.func13, Tryd.ntmps13
    have p_2 : Bx (w.alloc (.cells #[.slice A n c, .slice C m d] 32)) (w.heap.size) 32 #[.slice A n c, .slice C m d] := Bx.new _ _ _
    have B_2 := B0.alloc s0 (.cells #[.slice A n c, .slice C m d] 32)
    clear B0
    have cp_3 := p_2.cells
    have fp_3 := p_2.free
    go_wp2_with fail
    refine (iAttrsOk_any _ _ _ _ _ _ _ ats cs X q e0 xs _ (R.out.below B_2 (Nat.le_refl _)) (HX.out.below B_2 (Nat.le_refl _)) hq).mono ?_
    rw [H0.out]
    rintro e w1 ⟨rfl, b⟩
    clear cp_3 fp_3
    simp only [World.size_alloc] at b
    have t_4 := b.size
    simp only [World.size_alloc] at t_4
    have z_4 : w.heap.size ≤ w1.heap.size := by omega
    have p_5 := p_2.same (same_below b (by omega))
    clear p_2
    have B_4 := B_2.trans (b.mono (by omega))
    clear B_2 b
    have cp_6 := p_5.cells
    have fp_6 := p_5.free
    go_wp2_with fail
    go_ret
    exact ⟨none, 0, 0, rfl, by rw [HL0.out]; rfl, by rw [HL0.out]; exact World.ownsRow_nil _ _ _ _, B_4⟩
  · have H0 := Lib.hid h0
    have HL0 : Hid (candL ats cs xs false = candJ ats false xs) := by unfold Hid candL; rw [h0]; rfl
    clear h0
    have B0 := Below.refl w.heap.size w
    have s0 : w.heap.size ≤ w.heap.size := Nat.le_refl _
    go_enter Tryd.func13, Tryd.ntmps13
    have p_2 : Bx (w.alloc (.cells #[.slice A n c, .slice C m d] 32)) (w.heap.size) 32 #[.slice A n c, .slice C m d] := Bx.new _ _ _
    have B_2 := B0.alloc s0 (.cells #[.slice A n c, .slice C m d] 32)
    clear B0
    have cp_3 := p_2.cells
    have fp_3 := p_2.free
    go_wp2_with fail
    refine (iAttrsOk_any _ _ _ _ _ _ _ ats cs X q e0 xs _ (R.out.below B_2 (Nat.le_refl _)) (HX.out.below B_2 (Nat.le_refl _)) hq).mono ?_
    rw [H0.out]
    rintro e w1 ⟨rfl, b⟩
    clear cp_3 fp_3
    simp only [World.size_alloc] at b
    have t_4 := b.size
    simp only [World.size_alloc] at t_4
    have z_4 : w.heap.size ≤ w1.heap.size := by omega
    have p_5 := p_2.same (same_below b (by omega))
    clear p_2
    have B_4 := B_2.trans (b.mono (by omega))
    clear B_2 b
    have cp_6 := p_5.cells
    have fp_6 := p_5.free
    have HAc := Lib.hid B_4; have HP := Lib.hid p_5; have lp : w.heap.size < (w.heap.size + 1) := Nat.lt_succ_self _
    have hV := B_4.size
    have HE : Hid ((w1.alloc (.cells #[] 34)).ownsRow (w.heap.size + 1) 34 2 (.slice (some ⟨w1.heap.size, 0, none⟩) 0 0) 0 (fcells (candJ ats false (xs.take 0)))) := World.ownsRow_lit (base := (w.heap.size + 1)) (size := 2) w1 #[] 0 (by have := p_5.lt; omega) (by simp [maxLen]) rfl
    have HB0 : Hid (Below (w.heap.size + 1) w1 (w1.alloc (.cells #[] 34))) := (Below.refl _ _).alloc (by have := p_5.lt; omega) _
    have hlv : (w.heap.size + 1) ≤ w1.heap.size := p_5.lt
    clear cp_6 fp_6
    go_wp2_with fail
    go_loopw [7, 20] (fun out ii wr => ∃ (k : Nat) (A1 : Option Addr) (c1 N : Nat), k ≤ q ∧ ii = .int .i64 k ∧ out = .slice A1 N c1 ∧ N = (candJ ats false (xs.take k)).length ∧ wr.ownsRow (w.heap.size + 1) 34 2 (.slice A1 (N) c1) (N) (fcells (candJ ats false (xs.take k))) ∧ Below (w.heap.size + 1) w1 wr) (fun _ ii _ => q - (intOf ii).toNat)
    case atStart => exact ⟨0, _, _, 0, Nat.zero_le _, rfl, rfl, rfl, HE.out, HB0.out⟩
    case round =>
      obtain ⟨k, A1, c1, N, hk, rfl, rfl, hNl, hown, hbel⟩ := hrel
      obtain ⟨wo, rfl⟩ : ∃ wo : World, wo = wr := ⟨_, rfl⟩
      have HNl := Lib.hid hNl; have HOwn := Lib.hid hown; have HBel := Lib.hid hbel
      have hzo := hbel.size
      have HW : Hid (Below w.heap.size w wo) := HAc.out.trans (hbel.mono (Nat.le_succ _))
      clear hNl hown hbel
      by_cases hlt : k < q
      · obtain ⟨x, hxe⟩ : ∃ x, xs[k]? = some x := ⟨_, List.getElem?_eq_getElem (by rw [HXL.out]; exact hlt)⟩
        obtain ⟨j, a, nn, rfl, hjl, ha, hab, hnn, hn4, hsch, hin⟩ := attr_ok H0.out hxe
        have hjn : j < n := by rw [← HL.out]; exact hjl
        have hN4 : N ≤ 4 * k := by rw [HNl.out]; exact candJ_len H0.out k (by rw [HXL.out]; omega)
        obtain ⟨h, a', bA, off, ha', hra, rfl, hbl, d0, d1, d2⟩ := R.out.get hjn
        obtain rfl := Option.some.inj (ha.symm.trans ha')
        obtain ⟨bx, ox, rfl, lx, hc⟩ := HX.out.ex (by omega)
        have hxk := hc k (.int .i64 (j : Nat)) (by simp [hxe])
        obtain ⟨l1, l2⟩ := rdA_len hra.rd
        obtain ⟨⟨ca, cn, cc⟩, ⟨va, vn, vc⟩⟩ := h
        simp only at d1 d2 l1 l2
        have HXk := Lib.hid hxk; have HXe := Lib.hid hxe; have HA := Lib.hid ha; have HAB := Lib.hid hab; have HNn := Lib.hid hnn; have HRA := Lib.hid hra; have HD0 := Lib.hid d0; have HD1 := Lib.hid d1; have HD2 := Lib.hid d2; have HCL := Lib.hid l1; have HVL := Lib.hid l2; have HSch := Lib.hid hsch; have HIn := Lib.hid hin
        have lA : bA < w.heap.size := hbl
        have lX : bx < w.heap.size := lx
        clear hc hxk hxe ha ha' hab hnn hra d0 d1 d2 l1 l2 hsch hin
        have p0 : wo.cell? ⟨w.heap.size, 0, none⟩ = some (.slice (some ⟨bA, off, none⟩) n c) := (HBel.out.cell (p := ⟨w.heap.size, 0, none⟩) lp).trans (HP.out.cells 0)
        have p1 : wo.cell? ⟨w.heap.size, 1, none⟩ = some (.slice C m d) := (HBel.out.cell (p := ⟨w.heap.size, 1, none⟩) lp).trans (HP.out.cells 1)
        have xk : wo.cell? ⟨bx, ox + k, none⟩ = some (.int .i64 (j : Nat)) := (HW.out.cell (p := ⟨bx, ox + k, none⟩) lX).trans HXk.out
        have k0 : (0 : Int) ≤ (k : Int) := Int.natCast_nonneg _
        have k1 : (k : Int) < (q : Int) := by omega
        have j0 : (0 : Int) ≤ (j : Int) := Int.natCast_nonneg _
        have j1 : (j : Int) < (n : Int) := by omega
        by_cases hcp : 0 < cn
        · have hp := hcp
          have hp' : (0 : Int) < (cn : Int) := by omega
          have HBin : Hid (binsI a = (cn : Int) + 1) := binsI_pos HCL.out hp
          have HLast : Hid (lastI a + 1 = (cn : Int)) := by unfold Hid lastI; rw [HCL.out, if_pos hp, HBin.out]; omega
          obtain rfl : nn = cn := by have h1 := HLast.out; have h2 := HNn.out; omega
          have HCa : Hid (candA ats false (j : Nat) = rowF (j : Nat) nn) := by
            unfold Hid candA
            rw [atA_get HA.out, HCL.out, if_neg (by omega), HNn.out]; rfl
          have e1 : (nn : Int) + 1 - 1 = (nn : Int) := by omega
          have e2 : IntKind.i64.wrap (nn : Int) = (nn : Int) := IntWalk.i64_in _ (by omega)
          have f0 : wo.cell? ⟨bA, off + j * 3, none⟩ = some (.string a.nm) := (HW.out.cell (p := ⟨bA, off + j * 3, none⟩) lA).trans HD0.out
          have f1 : wo.cell? ⟨bA, off + j * 3 + 1, none⟩ = some (.slice ca nn cc) := (HW.out.cell (p := ⟨bA, off + j * 3 + 1, none⟩) lA).trans HD1.out
          have f2 : wo.cell? ⟨bA, off + j * 3 + 2, none⟩ = some (.slice va vn vc) := (HW.out.cell (p := ⟨bA, off + j * 3 + 2, none⟩) lA).trans HD2.out
          go_wp2_with fail
          have HBx0 : Bx (wo.alloc (.cells #[.string a.nm, .slice ca nn cc, .slice va vn vc] 52)) wo.heap.size 52 #[.string a.nm, .slice ca nn cc, .slice va vn vc] := Bx.new _ _ _
          refine (ibins_any a ((ca, nn, cc), (va, vn, vc)) _ (HRA.out.below (HW.out.trans ((below_alloc1 _).mono HW.out.size)) (Nat.le_refl _))).mono ?_
          rw [HBin.out]
          rintro e u2 ⟨rfl, b2⟩
          have hz2 := b2.size
          simp only [World.size_alloc] at hz2
          have HBx := HBx0.same (same_below b2 (by simp only [World.size_alloc, Nat.le_refl]))
          have cb0 := HBx.cells 0; have cb1 := HBx.cells 1; have cb2 := HBx.cells 2
          simp at cb0 cb1 cb2
          have HO2 := Lib.hid (own2_below (HOwn.out.alloc _) b2 (Nat.le_refl _))
          have HB2 : Hid (Below (w.heap.size + 1) w1 u2) := (HBel.out.alloc (by omega) _).trans (b2.mono (by simp only [World.size_alloc]; omega))
          clear b2 HBx0 HBx f0 f1 f2 p0 p1 xk HOwn HBel
          go_wp2_with fail
          go_loopw [7, 45] (fun out ii wr => ∃ (t : Nat) (A2 : Option Addr) (c2 : Nat), t ≤ nn ∧ ii = .int .i64 t ∧ out = .slice A2 (N + t) c2 ∧ wr.ownsRow (w.heap.size + 1) 34 2 (.slice A2 (N + t) c2) (N + t) (fcells (candJ ats false (xs.take k) ++ (rowF (j : Nat) nn).take t)) ∧ Below (w.heap.size + 1) w1 wr) (fun _ ii _ => nn - (intOf ii).toNat)
          case atStart => exact ⟨0, A1, c1, Nat.zero_le _, rfl, rfl, by simpa using HO2.out, HB2.out⟩
          case round =>
            obtain ⟨t, A2, c2, ht, rfl, rfl, hown, hbel⟩ := hrel
            obtain ⟨u4, rfl⟩ : ∃ u4 : World, u4 = wr := ⟨_, rfl⟩
            have HO4 := Lib.hid hown; have HB4 := Lib.hid hbel
            have hz4 := hbel.size
            clear hown hbel
            by_cases hlt2 : t < nn
            · have hlt2' : (t : Int) < (nn : Int) := by omega
              go_wp2_with (at_builtin; refine wpList_append_own _ rfl _ _ 43 rfl (w.heap.size + 1) 34 i0 (.agg #[.int .i64 0, .int .i64 0]) 2 16 Tryd.underlying43 HJ.out HJ0.out HJ1.out HJ2.out rfl (by decide) (.slice A2 (N + t) c2) (N + t) (fcells (candJ ats false (xs.take k) ++ (rowF (j : Nat) nn).take t)) rfl (HO4.out.alloc _) ⟨u4.heap.size, 0, none⟩ 1 1 [.int .i64 (j : Nat), .int .i64 (t : Nat)] rfl rfl ?c1 ?c2 ?c3 ?c4 ?c5 ?_)
              case c1 => exact World.news_of_block (cs := #[.int .i64 (j : Nat), .int .i64 (t : Nat)]) (t := 34) (fr := (0, 0)) (heap_alloc_new _ _)
              case c2 => simp [Value.oneCell']
              case c3 => unfold maxLen; omega
              case c4 => omega
              case c5 => simp only [World.size_alloc]; omega
              intro v' u9 hown3 hgrow _
              obtain ⟨A3, c3, rfl⟩ := own_shape hown3
              have hz9 := hgrow.size
              simp only [World.size_alloc] at hz9
              have HO9 : Hid (u9.ownsRow (w.heap.size + 1) 34 2 (.slice A3 (N + (t + 1)) c3) (N + (t + 1)) (fcells (candJ ats false (xs.take k) ++ (rowF (j : Nat) nn).take (t + 1)))) := by
                unfold Hid; rw [rowF_take hlt2, fcells_snoc]; exact hown3
              have HB9 : Hid (Below (w.heap.size + 1) w1 u9) := (HB4.out.alloc (by omega) _).grown hgrow (by simp only [World.size_alloc]; omega) (fun k hk => (HO4.out.lt k hk).1)
              clear hown3 hgrow
              go_wp2_with fail
              go_roundw
              case rel => exact ⟨t + 1, A3, c3, by omega, by go_num, rfl, HO9.out, HB9.out⟩
              case measure => simp [intOf]; omega
            · obtain rfl : nn = t := by omega
              have HO9 : Hid (u4.ownsRow (w.heap.size + 1) 34 2 (.slice A2 (N + nn) c2) (N + nn) (fcells (candJ ats false (xs.take (k + 1))))) := by
                unfold Hid; rw [candJ_snoc HXe.out, HCa.out]; have h := HO4.out; rwa [rowF_all (Nat.le_refl _)] at h
              go_wp2_with fail
              go_roundw
              case rel => exact ⟨k + 1, A2, c2, N + nn, by omega, by go_num, rfl, by rw [candJ_snoc HXe.out, HCa.out, List.length_append, ← HNl.out, rowF_len], HO9.out, HB4.out⟩
              case measure => simp [intOf]; omega
        · skip
          obtain rfl : cn = 0 := by omega
          have HBin : Hid (binsI a = (vn : Int)) := binsI_zero HCL.out HVL.out
          have HLast : Hid (lastI a + 1 = (vn : Int)) := by unfold Hid lastI; rw [HCL.out, if_neg (by omega), HBin.out]; omega
          obtain rfl : nn = vn := by have h1 := HLast.out; have h2 := HNn.out; omega
          have HCa : Hid (candA ats false (j : Nat) = [((j : Int), -1)]) := by
            unfold Hid candA; rw [atA_get HA.out, HCL.out, if_pos ⟨rfl, rfl⟩]
          have f0 : wo.cell? ⟨bA, off + j * 3, none⟩ = some (.string a.nm) := (HW.out.cell (p := ⟨bA, off + j * 3, none⟩) lA).trans HD0.out
          have f1 : wo.cell? ⟨bA, off + j * 3 + 1, none⟩ = some (.slice ca 0 cc) := (HW.out.cell (p := ⟨bA, off + j * 3 + 1, none⟩) lA).trans HD1.out
          have f2 : wo.cell? ⟨bA, off + j * 3 + 2, none⟩ = some (.slice va nn vc) := (HW.out.cell (p := ⟨bA, off + j * 3 + 2, none⟩) lA).trans HD2.out
          go_wp2_with fail
          have HBx0 : Bx (wo.alloc (.cells #[.string a.nm, .slice ca 0 cc, .slice va nn vc] 52)) wo.heap.size 52 #[.string a.nm, .slice ca 0 cc, .slice va nn vc] := Bx.new _ _ _
          refine (ibins_any a ((ca, 0, cc), (va, nn, vc)) _ (HRA.out.below (HW.out.trans ((below_alloc1 _).mono HW.out.size)) (Nat.le_refl _))).mono ?_
          rw [HBin.out]
          rintro e u2 ⟨rfl, b2⟩
          have hz2 := b2.size
          simp only [World.size_alloc] at hz2
          have HBx := HBx0.same (same_below b2 (by simp only [World.size_alloc, Nat.le_refl]))
          have cb0 := HBx.cells 0; have cb1 := HBx.cells 1; have cb2 := HBx.cells 2
          simp at cb0 cb1 cb2
          have HO2 := Lib.hid (own2_below (HOwn.out.alloc _) b2 (Nat.le_refl _))
          have HB2 : Hid (Below (w.heap.size + 1) w1 u2) := (HBel.out.alloc (by omega) _).trans (b2.mono (by simp only [World.size_alloc]; omega))
          clear b2 HBx0 HBx f0 f1 f2 p0 p1 xk HOwn HBel
          go_wp2_with (at_builtin; refine wpList_append_own _ rfl _ _ 43 rfl (w.heap.size + 1) 34 i0 (.agg #[.int .i64 0, .int .i64 0]) 2 16 Tryd.underlying43 HJ.out HJ0.out HJ1.out HJ2.out rfl (by decide) (.slice A1 (N) c1) (N) (fcells (candJ ats false (xs.take k))) rfl (HO2.out.alloc _) ⟨u2.heap.size, 0, none⟩ 1 1 [.int .i64 (j : Nat), .int .i64 (-1)] rfl rfl ?c1 ?c2 ?c3 ?c4 ?c5 ?_)
          case c1 => exact World.news_of_block (cs := #[.int .i64 (j : Nat), .int .i64 (-1)]) (t := 34) (fr := (0, 0)) (heap_alloc_new _ _)
          case c2 => simp [Value.oneCell']
          case c3 => unfold maxLen; omega
          case c4 => omega
          case c5 => simp only [World.size_alloc]; omega
          intro v' u9 hown3 hgrow _
          obtain ⟨A3, c3, rfl⟩ := own_shape hown3
          have hz9 := hgrow.size
          simp only [World.size_alloc] at hz9
          have HO9 : Hid (u9.ownsRow (w.heap.size + 1) 34 2 (.slice A3 (N + 1) c3) (N + 1) (fcells (candJ ats false (xs.take (k + 1))))) := by
            unfold Hid; rw [candJ_snoc HXe.out, HCa.out, fcells_snoc]; exact hown3
          have HB9 : Hid (Below (w.heap.size + 1) w1 u9) := (HB2.out.alloc (by omega) _).grown hgrow (by simp only [World.size_alloc]; omega) (fun k hk => (HO2.out.lt k hk).1)
          clear hown3 hgrow
          go_wp2_with fail
          go_roundw
          case rel => exact ⟨k + 1, A3, c3, N + 1, by omega, by go_num, rfl, by rw [candJ_snoc HXe.out, HCa.out, List.length_append, ← HNl.out]; rfl, HO9.out, HB9.out⟩
          case measure => simp [intOf]; omega
      · obtain rfl : q = k := by omega
        go_wp2_with fail
        go_ret
        exact ⟨A1, c1, N, rfl, by rw [HL0.out, HNl.out, List.take_of_length_le (Nat.le_of_eq HXL.out)], by rw [HL0.out]; have h := HOwn.out; rw [List.take_of_length_le (Nat.le_of_eq HXL.out)] at h; exact own_base h (Nat.le_succ _), HAc.out.trans (HBel.out.mono (Nat.le_succ _))⟩

set_option maxRecDepth 20000 in
set_option maxHeartbeats 8000000 in
theorem iCand_true (A C : Option Addr) (n c m d : Nat) (hs : List AH) (ats : List AD) (cs : List ByteArray) (X : Option Addr) (q e0 : Nat) (xs : List Int) (w : World) (r : Sch w A C n m d hs ats cs) (hx : Rd w X q (xs.map (Value.int .i64))) (hq : q ≤ 1048576) :
    Calls Tryd.prog 13 #[.agg #[.slice A n c, .slice C m d], .slice X q e0, .bool true] w fun e w' => ∃ A' c' N, e = .returned (.slice A' N c') ∧ N = (candL ats cs xs true).length ∧ w'.ownsRow w.heap.size 34 2 (.slice A' N c') N (fcells (candL ats cs xs true)) ∧ Below w.heap.size w w' := by
  have R := Lib.hid r
  have HL := Lib.hid r.lenA
  have hn := r.hn
  clear r
  have HX := Lib.hid hx
  have HXL : Hid (xs.length = q) := by have := hx.len; unfold Hid; simpa using this
  clear hx
  obtain ⟨i0, hi0, hz0, hz1, hz2⟩ := info_parts info_Fk
  have HJ := Lib.hid hi0; have HJ0 := Lib.hid hz0; have HJ1 := Lib.hid hz1; have HJ2 := Lib.hid hz2
  clear hi0 hz0 hz1 hz2
  cases h0 : attrsB ats cs xs
  · have H0 := Lib.hid h0
    have HL0 : Hid (candL ats cs xs true = []) := by unfold Hid candL; rw [h0]; rfl
    clear h0
    have B0 := Below.refl w.heap.size w
    have s0 : w.heap.size ≤ w.heap.size := Nat.le_refl _
    go_enter Tryd.func13, Tryd.ntmps13
    have p_2 : Bx (w.alloc (.cells #[.slice A n c, .slice C m d] 32)) (w.heap.size) 32 #[.slice A n c, .slice C m d] := Bx.new _ _ _
    have B_2 := B0.alloc s0 (.cells #[.slice A n c, .slice C m d] 32)
    clear B0
    have cp_3 := p_2.cells
    have fp_3 := p_2.free
    go_wp2_with fail
    refine (iAttrsOk_any _ _ _ _ _ _ _ ats cs X q e0 xs _ (R.out.below B_2 (Nat.le_refl _)) (HX.out.below B_2 (Nat.le_refl _)) hq).mono ?_
    rw [H0.out]
    rintro e w1 ⟨rfl, b⟩
    clear cp_3 fp_3
    simp only [World.size_alloc] at b
    have t_4 := b.size
    simp only [World.size_alloc] at t_4
    have z_4 : w.heap.size ≤ w1.heap.size := by omega
    have p_5 := p_2.same (same_below b (by omega))
    clear p_2
    have B_4 := B_2.trans (b.mono (by omega))
    clear B_2 b
    have cp_6 := p_5.cells
    have fp_6 := p_5.free
    go_wp2_with fail
    go_ret
    exact ⟨none, 0, 0, rfl, by rw [HL0.out]; rfl, by rw [HL0.out]; exact World.ownsRow_nil _ _ _ _, B_4⟩
  · have H0 := Lib.hid h0
    have HL0 : Hid (candL ats cs xs true = candJ ats true xs) := by unfold Hid candL; rw [h0]; rfl
    clear h0
    have B0 := Below.refl w.heap.size w
    have s0 : w.heap.size ≤ w.heap.size := Nat.le_refl _
    go_enter Tryd.func13, Tryd.ntmps13
    have p_2 : Bx (w.alloc (.cells #[.slice A n c, .slice C m d] 32)) (w.heap.size) 32 #[.slice A n c, .slice C m d] := Bx.new _ _ _
    have B_2 := B0.alloc s0 (.cells #[.slice A n c, .slice C m d] 32)
    clear B0
    have cp_3 := p_2.cells
    have fp_3 := p_2.free
    go_wp2_with fail
    refine (iAttrsOk_any _ _ _ _ _ _ _ ats cs X q e0 xs _ (R.out.below B_2 (Nat.le_refl _)) (HX.out.below B_2 (Nat.le_refl _)) hq).mono ?_
    rw [H0.out]
    rintro e w1 ⟨rfl, b⟩
    clear cp_3 fp_3
    simp only [World.size_alloc] at b
    have t_4 := b.size
    simp only [World.size_alloc] at t_4
    have z_4 : w.heap.size ≤ w1.heap.size := by omega
    have p_5 := p_2.same (same_below b (by omega))
    clear p_2
    have B_4 := B_2.trans (b.mono (by omega))
    clear B_2 b
    have cp_6 := p_5.cells
    have fp_6 := p_5.free
    have HAc := Lib.hid B_4; have HP := Lib.hid p_5; have lp : w.heap.size < (w.heap.size + 1) := Nat.lt_succ_self _
    have hV := B_4.size
    have HE : Hid ((w1.alloc (.cells #[] 34)).ownsRow (w.heap.size + 1) 34 2 (.slice (some ⟨w1.heap.size, 0, none⟩) 0 0) 0 (fcells (candJ ats true (xs.take 0)))) := World.ownsRow_lit (base := (w.heap.size + 1)) (size := 2) w1 #[] 0 (by have := p_5.lt; omega) (by simp [maxLen]) rfl
    have HB0 : Hid (Below (w.heap.size + 1) w1 (w1.alloc (.cells #[] 34))) := (Below.refl _ _).alloc (by have := p_5.lt; omega) _
    have hlv : (w.heap.size + 1) ≤ w1.heap.size := p_5.lt
    clear cp_6 fp_6
    go_wp2_with fail
    go_loopw [7, 20] (fun out ii wr => ∃ (k : Nat) (A1 : Option Addr) (c1 N : Nat), k ≤ q ∧ ii = .int .i64 k ∧ out = .slice A1 N c1 ∧ N = (candJ ats true (xs.take k)).length ∧ wr.ownsRow (w.heap.size + 1) 34 2 (.slice A1 (N) c1) (N) (fcells (candJ ats true (xs.take k))) ∧ Below (w.heap.size + 1) w1 wr) (fun _ ii _ => q - (intOf ii).toNat)
    case atStart => exact ⟨0, _, _, 0, Nat.zero_le _, rfl, rfl, rfl, HE.out, HB0.out⟩
    case round =>
      obtain ⟨k, A1, c1, N, hk, rfl, rfl, hNl, hown, hbel⟩ := hrel
      obtain ⟨wo, rfl⟩ : ∃ wo : World, wo = wr := ⟨_, rfl⟩
      have HNl := Lib.hid hNl; have HOwn := Lib.hid hown; have HBel := Lib.hid hbel
      have hzo := hbel.size
      have HW : Hid (Below w.heap.size w wo) := HAc.out.trans (hbel.mono (Nat.le_succ _))
      clear hNl hown hbel
      by_cases hlt : k < q
      · obtain ⟨x, hxe⟩ : ∃ x, xs[k]? = some x := ⟨_, List.getElem?_eq_getElem (by rw [HXL.out]; exact hlt)⟩
        obtain ⟨j, a, nn, rfl, hjl, ha, hab, hnn, hn4, hsch, hin⟩ := attr_ok H0.out hxe
        have hjn : j < n := by rw [← HL.out]; exact hjl
        have hN4 : N ≤ 4 * k := by rw [HNl.out]; exact candJ_len H0.out k (by rw [HXL.out]; omega)
        obtain ⟨h, a', bA, off, ha', hra, rfl, hbl, d0, d1, d2⟩ := R.out.get hjn
        obtain rfl := Option.some.inj (ha.symm.trans ha')
        obtain ⟨bx, ox, rfl, lx, hc⟩ := HX.out.ex (by omega)
        have hxk := hc k (.int .i64 (j : Nat)) (by simp [hxe])
        obtain ⟨l1, l2⟩ := rdA_len hra.rd
        obtain ⟨⟨ca, cn, cc⟩, ⟨va, vn, vc⟩⟩ := h
        simp only at d1 d2 l1 l2
        have HXk := Lib.hid hxk; have HXe := Lib.hid hxe; have HA := Lib.hid ha; have HAB := Lib.hid hab; have HNn := Lib.hid hnn; have HRA := Lib.hid hra; have HD0 := Lib.hid d0; have HD1 := Lib.hid d1; have HD2 := Lib.hid d2; have HCL := Lib.hid l1; have HVL := Lib.hid l2; have HSch := Lib.hid hsch; have HIn := Lib.hid hin
        have lA : bA < w.heap.size := hbl
        have lX : bx < w.heap.size := lx
        clear hc hxk hxe ha ha' hab hnn hra d0 d1 d2 l1 l2 hsch hin
        have p0 : wo.cell? ⟨w.heap.size, 0, none⟩ = some (.slice (some ⟨bA, off, none⟩) n c) := (HBel.out.cell (p := ⟨w.heap.size, 0, none⟩) lp).trans (HP.out.cells 0)
        have p1 : wo.cell? ⟨w.heap.size, 1, none⟩ = some (.slice C m d) := (HBel.out.cell (p := ⟨w.heap.size, 1, none⟩) lp).trans (HP.out.cells 1)
        have xk : wo.cell? ⟨bx, ox + k, none⟩ = some (.int .i64 (j : Nat)) := (HW.out.cell (p := ⟨bx, ox + k, none⟩) lX).trans HXk.out
        have k0 : (0 : Int) ≤ (k : Int) := Int.natCast_nonneg _
        have k1 : (k : Int) < (q : Int) := by omega
        have j0 : (0 : Int) ≤ (j : Int) := Int.natCast_nonneg _
        have j1 : (j : Int) < (n : Int) := by omega
        by_cases hcp : 0 < cn
        · have hp := hcp
          have hp' : (0 : Int) < (cn : Int) := by omega
          have HBin : Hid (binsI a = (cn : Int) + 1) := binsI_pos HCL.out hp
          have HLast : Hid (lastI a + 1 = (cn : Int)) := by unfold Hid lastI; rw [HCL.out, if_pos hp, HBin.out]; omega
          obtain rfl : nn = cn := by have h1 := HLast.out; have h2 := HNn.out; omega
          have HCa : Hid (candA ats true (j : Nat) = rowF (j : Nat) nn) := by
            unfold Hid candA
            rw [atA_get HA.out, HCL.out, if_neg (by omega), HNn.out]; rfl
          have e1 : (nn : Int) + 1 - 1 = (nn : Int) := by omega
          have e2 : IntKind.i64.wrap (nn : Int) = (nn : Int) := IntWalk.i64_in _ (by omega)
          have f0 : wo.cell? ⟨bA, off + j * 3, none⟩ = some (.string a.nm) := (HW.out.cell (p := ⟨bA, off + j * 3, none⟩) lA).trans HD0.out
          have f1 : wo.cell? ⟨bA, off + j * 3 + 1, none⟩ = some (.slice ca nn cc) := (HW.out.cell (p := ⟨bA, off + j * 3 + 1, none⟩) lA).trans HD1.out
          have f2 : wo.cell? ⟨bA, off + j * 3 + 2, none⟩ = some (.slice va vn vc) := (HW.out.cell (p := ⟨bA, off + j * 3 + 2, none⟩) lA).trans HD2.out
          go_wp2_with fail
          have HBx0 : Bx (wo.alloc (.cells #[.string a.nm, .slice ca nn cc, .slice va vn vc] 52)) wo.heap.size 52 #[.string a.nm, .slice ca nn cc, .slice va vn vc] := Bx.new _ _ _
          refine (ibins_any a ((ca, nn, cc), (va, vn, vc)) _ (HRA.out.below (HW.out.trans ((below_alloc1 _).mono HW.out.size)) (Nat.le_refl _))).mono ?_
          rw [HBin.out]
          rintro e u2 ⟨rfl, b2⟩
          have hz2 := b2.size
          simp only [World.size_alloc] at hz2
          have HBx := HBx0.same (same_below b2 (by simp only [World.size_alloc, Nat.le_refl]))
          have cb0 := HBx.cells 0; have cb1 := HBx.cells 1; have cb2 := HBx.cells 2
          simp at cb0 cb1 cb2
          have HO2 := Lib.hid (own2_below (HOwn.out.alloc _) b2 (Nat.le_refl _))
          have HB2 : Hid (Below (w.heap.size + 1) w1 u2) := (HBel.out.alloc (by omega) _).trans (b2.mono (by simp only [World.size_alloc]; omega))
          clear b2 HBx0 HBx f0 f1 f2 p0 p1 xk HOwn HBel
          go_wp2_with fail
          go_loopw [7, 45] (fun out ii wr => ∃ (t : Nat) (A2 : Option Addr) (c2 : Nat), t ≤ nn ∧ ii = .int .i64 t ∧ out = .slice A2 (N + t) c2 ∧ wr.ownsRow (w.heap.size + 1) 34 2 (.slice A2 (N + t) c2) (N + t) (fcells (candJ ats true (xs.take k) ++ (rowF (j : Nat) nn).take t)) ∧ Below (w.heap.size + 1) w1 wr) (fun _ ii _ => nn - (intOf ii).toNat)
          case atStart => exact ⟨0, A1, c1, Nat.zero_le _, rfl, rfl, by simpa using HO2.out, HB2.out⟩
          case round =>
            obtain ⟨t, A2, c2, ht, rfl, rfl, hown, hbel⟩ := hrel
            obtain ⟨u4, rfl⟩ : ∃ u4 : World, u4 = wr := ⟨_, rfl⟩
            have HO4 := Lib.hid hown; have HB4 := Lib.hid hbel
            have hz4 := hbel.size
            clear hown hbel
            by_cases hlt2 : t < nn
            · have hlt2' : (t : Int) < (nn : Int) := by omega
              go_wp2_with (at_builtin; refine wpList_append_own _ rfl _ _ 43 rfl (w.heap.size + 1) 34 i0 (.agg #[.int .i64 0, .int .i64 0]) 2 16 Tryd.underlying43 HJ.out HJ0.out HJ1.out HJ2.out rfl (by decide) (.slice A2 (N + t) c2) (N + t) (fcells (candJ ats true (xs.take k) ++ (rowF (j : Nat) nn).take t)) rfl (HO4.out.alloc _) ⟨u4.heap.size, 0, none⟩ 1 1 [.int .i64 (j : Nat), .int .i64 (t : Nat)] rfl rfl ?c1 ?c2 ?c3 ?c4 ?c5 ?_)
              case c1 => exact World.news_of_block (cs := #[.int .i64 (j : Nat), .int .i64 (t : Nat)]) (t := 34) (fr := (0, 0)) (heap_alloc_new _ _)
              case c2 => simp [Value.oneCell']
              case c3 => unfold maxLen; omega
              case c4 => omega
              case c5 => simp only [World.size_alloc]; omega
              intro v' u9 hown3 hgrow _
              obtain ⟨A3, c3, rfl⟩ := own_shape hown3
              have hz9 := hgrow.size
              simp only [World.size_alloc] at hz9
              have HO9 : Hid (u9.ownsRow (w.heap.size + 1) 34 2 (.slice A3 (N + (t + 1)) c3) (N + (t + 1)) (fcells (candJ ats true (xs.take k) ++ (rowF (j : Nat) nn).take (t + 1)))) := by
                unfold Hid; rw [rowF_take hlt2, fcells_snoc]; exact hown3
              have HB9 : Hid (Below (w.heap.size + 1) w1 u9) := (HB4.out.alloc (by omega) _).grown hgrow (by simp only [World.size_alloc]; omega) (fun k hk => (HO4.out.lt k hk).1)
              clear hown3 hgrow
              go_wp2_with fail
              go_roundw
              case rel => exact ⟨t + 1, A3, c3, by omega, by go_num, rfl, HO9.out, HB9.out⟩
              case measure => simp [intOf]; omega
            · obtain rfl : nn = t := by omega
              have HO9 : Hid (u4.ownsRow (w.heap.size + 1) 34 2 (.slice A2 (N + nn) c2) (N + nn) (fcells (candJ ats true (xs.take (k + 1))))) := by
                unfold Hid; rw [candJ_snoc HXe.out, HCa.out]; have h := HO4.out; rwa [rowF_all (Nat.le_refl _)] at h
              go_wp2_with fail
              go_roundw
              case rel => exact ⟨k + 1, A2, c2, N + nn, by omega, by go_num, rfl, by rw [candJ_snoc HXe.out, HCa.out, List.length_append, ← HNl.out, rowF_len], HO9.out, HB4.out⟩
              case measure => simp [intOf]; omega
        · skip
          obtain rfl : cn = 0 := by omega
          have HBin : Hid (binsI a = (vn : Int)) := binsI_zero HCL.out HVL.out
          have HLast : Hid (lastI a + 1 = (vn : Int)) := by unfold Hid lastI; rw [HCL.out, if_neg (by omega), HBin.out]; omega
          obtain rfl : nn = vn := by have h1 := HLast.out; have h2 := HNn.out; omega
          have HCa : Hid (candA ats true (j : Nat) = rowF (j : Nat) nn) := by
            unfold Hid candA; rw [atA_get HA.out, HCL.out, if_neg (by simp), HNn.out]; rfl
          have f0 : wo.cell? ⟨bA, off + j * 3, none⟩ = some (.string a.nm) := (HW.out.cell (p := ⟨bA, off + j * 3, none⟩) lA).trans HD0.out
          have f1 : wo.cell? ⟨bA, off + j * 3 + 1, none⟩ = some (.slice ca 0 cc) := (HW.out.cell (p := ⟨bA, off + j * 3 + 1, none⟩) lA).trans HD1.out
          have f2 : wo.cell? ⟨bA, off + j * 3 + 2, none⟩ = some (.slice va nn vc) := (HW.out.cell (p := ⟨bA, off + j * 3 + 2, none⟩) lA).trans HD2.out
          go_wp2_with fail
          have HBx0 : Bx (wo.alloc (.cells #[.string a.nm, .slice ca 0 cc, .slice va nn vc] 52)) wo.heap.size 52 #[.string a.nm, .slice ca 0 cc, .slice va nn vc] := Bx.new _ _ _
          refine (ibins_any a ((ca, 0, cc), (va, nn, vc)) _ (HRA.out.below (HW.out.trans ((below_alloc1 _).mono HW.out.size)) (Nat.le_refl _))).mono ?_
          rw [HBin.out]
          rintro e u2 ⟨rfl, b2⟩
          have hz2 := b2.size
          simp only [World.size_alloc] at hz2
          have HBx := HBx0.same (same_below b2 (by simp only [World.size_alloc, Nat.le_refl]))
          have cb0 := HBx.cells 0; have cb1 := HBx.cells 1; have cb2 := HBx.cells 2
          simp at cb0 cb1 cb2
          have HO2 := Lib.hid (own2_below (HOwn.out.alloc _) b2 (Nat.le_refl _))
          have HB2 : Hid (Below (w.heap.size + 1) w1 u2) := (HBel.out.alloc (by omega) _).trans (b2.mono (by simp only [World.size_alloc]; omega))
          clear b2 HBx0 HBx f0 f1 f2 p0 p1 xk HOwn HBel
          go_wp2_with fail
          go_loopw [7, 45] (fun out ii wr => ∃ (t : Nat) (A2 : Option Addr) (c2 : Nat), t ≤ nn ∧ ii = .int .i64 t ∧ out = .slice A2 (N + t) c2 ∧ wr.ownsRow (w.heap.size + 1) 34 2 (.slice A2 (N + t) c2) (N + t) (fcells (candJ ats true (xs.take k) ++ (rowF (j : Nat) nn).take t)) ∧ Below (w.heap.size + 1) w1 wr) (fun _ ii _ => nn - (intOf ii).toNat)
          case atStart => exact ⟨0, A1, c1, Nat.zero_le _, rfl, rfl, by simpa using HO2.out, HB2.out⟩
          case round =>
            obtain ⟨t, A2, c2, ht, rfl, rfl, hown, hbel⟩ := hrel
            obtain ⟨u4, rfl⟩ : ∃ u4 : World, u4 = wr := ⟨_, rfl⟩
            have HO4 := Lib.hid hown; have HB4 := Lib.hid hbel
            have hz4 := hbel.size
            clear hown hbel
            by_cases hlt2 : t < nn
            · have hlt2' : (t : Int) < (nn : Int) := by omega
              go_wp2_with (at_builtin; refine wpList_append_own _ rfl _ _ 43 rfl (w.heap.size + 1) 34 i0 (.agg #[.int .i64 0, .int .i64 0]) 2 16 Tryd.underlying43 HJ.out HJ0.out HJ1.out HJ2.out rfl (by decide) (.slice A2 (N + t) c2) (N + t) (fcells (candJ ats true (xs.take k) ++ (rowF (j : Nat) nn).take t)) rfl (HO4.out.alloc _) ⟨u4.heap.size, 0, none⟩ 1 1 [.int .i64 (j : Nat), .int .i64 (t : Nat)] rfl rfl ?c1 ?c2 ?c3 ?c4 ?c5 ?_)
              case c1 => exact World.news_of_block (cs := #[.int .i64 (j : Nat), .int .i64 (t : Nat)]) (t := 34) (fr := (0, 0)) (heap_alloc_new _ _)
              case c2 => simp [Value.oneCell']
              case c3 => unfold maxLen; omega
              case c4 => omega
              case c5 => simp only [World.size_alloc]; omega
              intro v' u9 hown3 hgrow _
              obtain ⟨A3, c3, rfl⟩ := own_shape hown3
              have hz9 := hgrow.size
              simp only [World.size_alloc] at hz9
              have HO9 : Hid (u9.ownsRow (w.heap.size + 1) 34 2 (.slice A3 (N + (t + 1)) c3) (N + (t + 1)) (fcells (candJ ats true (xs.take k) ++ (rowF (j : Nat) nn).take (t + 1)))) := by
                unfold Hid; rw [rowF_take hlt2, fcells_snoc]; exact hown3
              have HB9 : Hid (Below (w.heap.size + 1) w1 u9) := (HB4.out.alloc (by omega) _).grown hgrow (by simp only [World.size_alloc]; omega) (fun k hk => (HO4.out.lt k hk).1)
              clear hown3 hgrow
              go_wp2_with fail
              go_roundw
              case rel => exact ⟨t + 1, A3, c3, by omega, by go_num, rfl, HO9.out, HB9.out⟩
              case measure => simp [intOf]; omega
            · obtain rfl : nn = t := by omega
              have HO9 : Hid (u4.ownsRow (w.heap.size + 1) 34 2 (.slice A2 (N + nn) c2) (N + nn) (fcells (candJ ats true (xs.take (k + 1))))) := by
                unfold Hid; rw [candJ_snoc HXe.out, HCa.out]; have h := HO4.out; rwa [rowF_all (Nat.le_refl _)] at h
              go_wp2_with fail
              go_roundw
              case rel => exact ⟨k + 1, A2, c2, N + nn, by omega, by go_num, rfl, by rw [candJ_snoc HXe.out, HCa.out, List.length_append, ← HNl.out, rowF_len], HO9.out, HB4.out⟩
              case measure => simp [intOf]; omega
      · obtain rfl : q = k := by omega
        go_wp2_with fail
        go_ret
        exact ⟨A1, c1, N, rfl, by rw [HL0.out, HNl.out, List.take_of_length_le (Nat.le_of_eq HXL.out)], by rw [HL0.out]; have h := HOwn.out; rw [List.take_of_length_le (Nat.le_of_eq HXL.out)] at h; exact own_base h (Nat.le_succ _), HAc.out.trans (HBel.out.mono (Nat.le_succ _))⟩

theorem iCandidates_any (A C : Option Addr) (n c m d : Nat) (hs : List AH) (ats : List AD) (cs : List ByteArray) (X : Option Addr) (q e0 : Nat) (xs : List Int) (w : World) (r : Sch w A C n m d hs ats cs) (hx : Rd w X q (xs.map (Value.int .i64))) (hq : q ≤ 1048576) (two : Bool) :
    Calls Tryd.prog 13 #[.agg #[.slice A n c, .slice C m d], .slice X q e0, .bool two] w fun e w' => ∃ A' c' N, e = .returned (.slice A' N c') ∧ N = (candL ats cs xs two).length ∧ w'.ownsRow w.heap.size 34 2 (.slice A' N c') N (fcells (candL ats cs xs two)) ∧ Below w.heap.size w w' := by
  cases two
  · exact iCand_false A C n c m d hs ats cs X q e0 xs w r hx hq
  · exact iCand_true A C n c m d hs ats cs X q e0 xs w r hx hq

end Go.Proofs.YtchkmcikpamdeaaDoor
