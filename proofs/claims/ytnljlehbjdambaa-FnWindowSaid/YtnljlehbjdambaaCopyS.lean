/-
  A copy of a window's rows, as spec makes it.
-/
import Derived.Test.YtnljlehbjdambaaLists
import Derived.Deep.AppendLies
import Derived.Deep.RegionHeld3
import Derived.BigQuiet
import Derived.Deep.Upon
import Derived.Deep.DeepCutAuto
import Derived.Deep.RegionLaw
namespace Go.Proofs.Ytnljlehbjdambaa
open Go.RowKit
set_option linter.unusedSimpArgs false
set_option linter.unusedVariables false

theorem step_append_zero2 {P : Program} {ops : Array Oper} {o : Oper} {a : Act} {w : World} {K : Act → World → Prop} {Q : Exit → Act → World → Prop} {E : Prop} (hgd : o.guard = none) (s x : Operand) (t : TypeId)
    (ho : o.op = .call { callee := .builtin .append, args := #[s, x], argTypes := #[t, t] }) (e : TypeId) (i : TypeInfo) (ht : P.underlying t = some (.slice e)) (hi : P.info? e = some i)
    (base : Option Addr) (sLen sCap : Nat) (hle : sLen ≤ sCap) (hs : a.eval s = .slice base sLen sCap) (A : Option Addr) (c : Nat) (hx : a.eval x = .slice A 0 c)
    (h : ∀ w1, w1 = w → K (a.put o.dst (.slice base sLen sCap)) w1) : if Region.wanted o (yielded ops a.tmps) = true then Oper.wp P o a w K Q else E := by
  have hw : Region.wanted o (yielded ops a.tmps) = true := by simp [Region.wanted, hgd]
  rw [if_pos hw]
  have hsrc : Src P i.size t (.slice A 0 c) 0 [] w := by
    cases A with
    | none => exact Src.ofNil w ht c
    | some ad => exact Src.ofSlice w ht ad 0 c [] (by simp) (by simp) (by simp)
  have hrun := run_append_nothing (P := P) w t t o.type e i ht hi base sLen sCap hle _ hsrc
  unfold Oper.wp
  simp [execOp, ho, resolve, invoke, builtin, hs, hx, hrun, Result.andThen]
  exact h w rfl
/-- What reads as a row, none or some, is appended to a literal without elements. -/
theorem step_append_rd {P : Program} {ops : Array Oper} {o : Oper} {a : Act} {w : World} {K : Act → World → Prop} {Q : Exit → Act → World → Prop} {E : Prop} (hgd : o.guard = none) (s x : Operand) (t : TypeId)
    (ho : o.op = .call { callee := .builtin .append, args := #[s, x], argTypes := #[t, t] }) (base : Nat) (e : TypeId) (i : TypeInfo) (z : Value) (bytes : Nat) (ht : P.underlying t = some (.slice e)) (hi : P.info? e = some i) (hz : i.zero = some z)
    (hsize : i.size = 1) (hby : i.bytes = bytes) (hzs : z.cells.size = 1) (g0 : Nat) (hs : a.eval s = .slice (some ⟨g0, 0, none⟩) 0 0) (hown : w.ownsRow base e 1 (.slice (some ⟨g0, 0, none⟩) 0 0) 0 [])
    (A : Option Addr) (m c : Nat) (xs : List Value) (hx : a.eval x = .slice A m c) (hr : Rd w A m xs) (h1 : ∀ u ∈ xs, u.oneCell' = true) (h63 : m ≤ maxLen) (hbytes : m * bytes ≤ 140737488355328) (hbase : base ≤ w.heap.size)
    (h : ∀ A' c' w', w'.ownsRow base e 1 (.slice A' m c') m xs → w.grownBy w' (some g0) → K (a.put o.dst (.slice A' m c')) w') :
    if Region.wanted o (yielded ops a.tmps) = true then Oper.wp P o a w K Q else E := by
  rcases Nat.eq_zero_or_pos m with h0 | h0
  · subst h0
    have hxs : xs = [] := List.eq_nil_of_length_eq_zero hr.len
    subst hxs
    refine step_append_zero2 hgd s x t ho e i ht hi (some ⟨g0, 0, none⟩) 0 0 (Nat.le_refl _) hs A c hx ?_
    intro w1 hw
    rw [hw]
    exact h _ 0 w hown ⟨rfl, rfl, rfl, Nat.le_refl _, fun _ _ _ => rfl⟩
  · obtain ⟨b, off, rfl, hb, hc⟩ := hr.ex h0
    refine step_append_lies w hgd s x t ho base e i z 1 bytes ht hi hz hsize hby hzs (by decide) _ 0 [] hs hown ⟨b, off, none⟩ m c xs hx (by rw [hr.len]; omega) (fun j u hj => by rw [Go.WideShapes.add_plain]; exact hc j u hj) h1 h0 (by omega) (by rw [Nat.zero_add]; exact hbytes) hbase _ rfl ?_
    intro g cap w' ho' hg _ _
    simp only [Nat.zero_add, List.nil_append] at ho' ⊢
    exact h _ cap w' ho' hg
theorem same_setc {lo hi b i : Nat} {w : World} {u : Value} (h : b < lo) : Same lo hi w (w.setCell ⟨b, i, none⟩ u) := fun k h1 h2 => by
  simp only [World.setCell, Array.getElem?_modify]
  rw [if_neg (by omega)]

set_option maxRecDepth 20000 in
set_option maxHeartbeats 8000000 in
theorem l16Copy_any (A : Option Addr) (n c : Nat) (hs : List Hd) (xss : List (List Int)) (w : World) (h : RdSS w A n hs (iss xss)) (hb : totI xss ≤ 1048576) (hn : n ≤ 1048576) :
    Calls Try.prog 37 #[.agg #[.slice A n c]] w fun e w' => ∃ A' c' hs', e = .returned (.agg #[.slice A' n c']) ∧ OwSS w.heap.size w'.heap.size w' A' n c' hs' (iss xss) ∧ Below w.heap.size w w' := by
  have H := Lib.hid h
  have HXL : Hid (xss.length = n) := by have := h.len; rwa [iss_len] at this
  have HB : Hid (∀ (k : Nat) (xs : List Int), xss[k]? = some xs → xs.length ≤ 1048576) := by
    intro k xs hk
    have h1 := upto_succ (iss_get hk)
    have h2 := upto_le (iss xss) (k + 1)
    rw [tot_iss] at h2
    simp only [List.length_map] at h1
    omega
  obtain ⟨i0, hi0, hz0, hz1, hz2⟩ := info_parts info_IntSS
  have HJ := Lib.hid hi0; have HJ0 := Lib.hid hz0; have HJ1 := Lib.hid hz1; have HJ2 := Lib.hid hz2
  clear hi0 hz0 hz1 hz2
  obtain ⟨i1, hi0, hz0, hz1, hz2⟩ := info_parts info_IntS
  have HI := Lib.hid hi0; have HI0 := Lib.hid hz0; have HI1 := Lib.hid hz1; have HI2 := Lib.hid hz2
  clear hi0 hz0 hz1 hz2 h hb
  have B0 := Below.refl w.heap.size w
  have s0 : w.heap.size ≤ w.heap.size := Nat.le_refl _
  go_enter Try.func37, Try.ntmps37
  have p_2 : Bx (w.alloc (.cells #[.slice A n c] 26)) (w.heap.size) 26 #[.slice A n c] := Bx.new _ _ _
  have B_2 := B0.alloc s0 (.cells #[.slice A n c] 26)
  clear B0
  have cp_3 := p_2.cells
  have fp_3 := p_2.free
  clear cp_3 fp_3
  have p_4 := p_2.same (same_alloc (.cells #[.slice none 0 0] 26) (by simp only [World.size_alloc]; omega))
  clear p_2
  have r_5 : Bx ((w.alloc (.cells #[.slice A n c] 26)).alloc (.cells #[.slice none 0 0] 26)) (w.heap.size + 1) 26 #[.slice none 0 0] := by
    have h := Bx.new (w.alloc (.cells #[.slice A n c] 26)) 26 #[.slice none 0 0]
    simpa only [World.size_alloc] using h
  have B_5 := B_2.alloc (by simp only [World.size_alloc]; omega) (.cells #[.slice none 0 0] 26)
  clear B_2
  have cp_6 := p_4.cells
  have fp_6 := p_4.free
  have cr_7 := r_5.cells
  have fr_7 := r_5.free
  clear cp_6 fp_6
  clear cr_7 fr_7
  have p_8 := p_4.same (same_alloc (.cells #[.slice none 0 0] 26) (by simp only [World.size_alloc]; omega))
  clear p_4
  have r_8 := r_5.same (same_alloc (.cells #[.slice none 0 0] 26) (by simp only [World.size_alloc]; omega))
  clear r_5
  have o_9 : Bx (((w.alloc (.cells #[.slice A n c] 26)).alloc (.cells #[.slice none 0 0] 26)).alloc (.cells #[.slice none 0 0] 26)) (w.heap.size + 1 + 1) 26 #[.slice none 0 0] := by
    have h := Bx.new ((w.alloc (.cells #[.slice A n c] 26)).alloc (.cells #[.slice none 0 0] 26)) 26 #[.slice none 0 0]
    simpa only [World.size_alloc] using h
  have B_9 := B_5.alloc (by simp only [World.size_alloc]; omega) (.cells #[.slice none 0 0] 26)
  clear B_5
  have cp_10 := p_8.cells
  have fp_10 := p_8.free
  have cr_11 := r_8.cells
  have fr_11 := r_8.free
  have co_12 := o_9.cells
  have fo_12 := o_9.free
  go_wp2_with fail
  clear cp_10 fp_10
  clear cr_11 fr_11
  clear co_12 fo_12
  obtain ⟨v13, hv13⟩ : ∃ v13, v13 = (((w.alloc (.cells #[.slice A n c] 26)).alloc (.cells #[.slice none 0 0] 26)).alloc (.cells #[.slice none 0 0] 26)) := ⟨_, rfl⟩
  have zv13 : w.heap.size + 1 + 1 + 1 ≤ v13.heap.size := by rw [hv13]; simp
  rw [← hv13] at p_8 r_8 o_9 B_9 ⊢
  clear hv13
  have HAc := Lib.hid B_9; have HP := Lib.hid p_8; have HR := Lib.hid r_8; have HO := Lib.hid o_9; have lp := p_8.lt; have lr := r_8.lt; have lo_ := o_9.lt
  clear B_9 p_8 r_8 o_9
  go_loopw [4] (fun ii wr => ∃ (k : Nat) (A1 : Option Addr) (c1 : Nat) (g1 : List Hd), k ≤ n ∧ ii = .int .i64 k ∧ OwSS (w.heap.size + 1 + 1 + 1) wr.heap.size wr A1 k c1 g1 (iss (xss.take k)) ∧ Bx wr (w.heap.size + 1 + 1) 26 #[.slice A1 k c1] ∧ Below (w.heap.size + 1 + 1) v13 wr) (fun ii _ => n - (intOf ii).toNat)
  case atStart => exact ⟨0, none, 0, [], Nat.zero_le _, rfl, OwSS.nil _ _ _, HO.out, Below.refl _ _⟩
  case round =>
    obtain ⟨k, A1, c1, g1, hk, rfl, hpar, hbx, hbel⟩ := hrel
    obtain ⟨wo, rfl⟩ : ∃ wo : World, wo = wr := ⟨_, rfl⟩
    have HPar := Lib.hid hpar; have HBx := Lib.hid hbx; have HBel := Lib.hid hbel
    have HW : Hid (Below w.heap.size w wo) := HAc.out.trans (hbel.mono (by omega))
    have hzo := hbel.size
    have hzL : (w.heap.size + 1 + 1 + 1) ≤ wo.heap.size := hbx.lt
    have p0 : wo.cell? ⟨w.heap.size, 0, none⟩ = some (.slice A n c) := (hbel.cell (p := ⟨w.heap.size, 0, none⟩) (show w.heap.size < _ by omega)).trans (HP.out.cells 0)
    clear hpar hbx hbel
    by_cases hlt : k < n
    · obtain ⟨x, vs, hx, hv, hr, hvl⟩ := H.out.get hlt
      obtain ⟨b, off, rfl, hbl, hcell⟩ := H.out.head hlt hx
      obtain ⟨xs, hxs, rfl⟩ := iss_get' hv
      have hxl := HB.out _ xs hxs
      obtain ⟨xa, xn, xc⟩ := x
      simp only [List.length_map] at hvl hcell hr
      have HC : Hid (wo.cell? ⟨b, off + k, none⟩ = some (.slice xa xn xc)) := (HW.out.cell (p := ⟨b, off + k, none⟩) hbl).trans hcell
      have HR1 := Lib.hid (hr.below HW.out (Nat.le_refl _))
      have HTk := Lib.hid (iss_take hxs)
      have HP0 := Lib.hid p0
      have k0 : (0 : Int) ≤ (k : Int) := Int.natCast_nonneg _
      have k1 : (k : Int) < (n : Int) := by omega
      have HKe : Hid (∀ w' : World, Below (w.heap.size + 1 + 1 + 1) wo w' → w'.cell? ⟨(w.heap.size + 1 + 1), 0, none⟩ = some (.slice A1 k c1) ∧ w'.frozen? ⟨(w.heap.size + 1 + 1), 0, none⟩ = false ∧ w'.cell? ⟨w.heap.size, 0, none⟩ = some (.slice (some ⟨b, off, none⟩) n c) ∧ w'.cell? ⟨b, off + k, none⟩ = some (.slice xa xn xc) ∧ Below (w.heap.size + 1 + 1 + 1) wo w') := fun w' hb => ⟨(hb.cell (p := ⟨(w.heap.size + 1 + 1), 0, none⟩) (show (w.heap.size + 1 + 1) < (w.heap.size + 1 + 1 + 1) by omega)).trans (HBx.out.cells 0), (hb.frozen (p := ⟨(w.heap.size + 1 + 1), 0, none⟩) (show (w.heap.size + 1 + 1) < (w.heap.size + 1 + 1 + 1) by omega)).trans (HBx.out.free 0), (hb.cell (p := ⟨w.heap.size, 0, none⟩) (show w.heap.size < (w.heap.size + 1 + 1 + 1) by omega)).trans HP0.out, (hb.cell (p := ⟨b, off + k, none⟩) (show b < (w.heap.size + 1 + 1 + 1) by omega)).trans HC.out, hb⟩
      have HE : Hid ((wo.alloc (.cells #[] 3)).ownsRow wo.heap.size 3 1 (.slice (some ⟨wo.heap.size, 0, none⟩) 0 0) 0 []) := World.ownsRow_lit (base := wo.heap.size) (e := 3) (size := 1) wo #[] 0 (Nat.le_refl _) (by simp [maxLen]) rfl
      have HBE : Hid (Below wo.heap.size wo (wo.alloc (.cells #[] 3)).drew) := ((Below.refl _ _).alloc (Nat.le_refl _) _).drew
      have HRE : Hid (Rd (wo.alloc (.cells #[] 3)).drew xa xn (xs.map (Value.int .i64))) := HR1.out.below HBE.out (Nat.le_refl _)
      have HPE := Lib.hid ((HPar.out.same (same_alloc (.cells #[] 3) (Nat.le_refl _))).same (w' := (wo.alloc (.cells #[] 3)).drew) (fun _ _ _ => rfl))
      clear hcell hr hx hv hxs
      have q0 : wo.cell? ⟨(w.heap.size + 1 + 1), 0, none⟩ = some (.slice A1 k c1) := HBx.out.cells 0
      have q1 : wo.cell? ⟨b, off + k, none⟩ = some (.slice xa xn xc) := HC.out
      have hAl : Below (w.heap.size + 1 + 1 + 1) wo (wo.alloc (.cells #[] 3)) := (Below.refl _ _).alloc hzL _
      obtain ⟨a0, a1, a2, a3, _⟩ := HKe.out _ hAl
      clear hAl
      go_wp2_with fail
      go_region_law
        (first
          | (refine step_append_rd (by rfl) _ _ _ (by rfl) wo.heap.size 3 i1 _ 8 Try.underlying54 HI.out HI0.out HI1.out HI2.out rfl wo.heap.size (by rfl) HE.out.drew xa xn xc (xs.map (Value.int .i64)) (by rfl) HRE.out (i64_one xs) (by unfold maxLen; omega) (by omega) (by show wo.heap.size ≤ (wo.alloc _).heap.size; rw [World.size_alloc]; omega) ?_; intro A2 c2 u3 hown3 hgrow3; have b3 : Below (w.heap.size + 1 + 1 + 1) wo u3 := Below.grown (B := (w.heap.size + 1 + 1 + 1)) (HBE.out.mono hzL) hgrow3 (by have := HBE.out.size; omega) (fun kk hk => by injection hk with hk; omega); have hz3 := hgrow3.size; have hz3' : wo.heap.size + 1 ≤ u3.heap.size := (by have h1 : (wo.alloc (.cells #[] 3)).drew.heap.size = wo.heap.size + 1 := (World.size_alloc _ _); omega); have HP3 := Lib.hid (HPE.out.same (same_only (Only.of_grown (l := wo.heap.size) (h := wo.heap.size + 1) hgrow3 (fun kk hk => by injection hk with hk; omega)) (Or.inl (Nat.le_refl _)) (by have h1 : (wo.alloc (.cells #[] 3)).drew.heap.size = wo.heap.size + 1 := (World.size_alloc _ _); omega))); have HL3 : Hid (Ow 3 wo.heap.size u3.heap.size u3 A2 xn c2 (xs.map (Value.int .i64))) := Ow.of hown3; clear hown3; obtain ⟨s0, s1, s2, s3, _⟩ := HKe.out _ b3; obtain ⟨y0, y1, y2, y3, _⟩ := HKe.out _ (b3.alloc (by omega) (.cells #[.slice A2 xn c2] 54)))
          | (refine step_append_lies _ (by rfl) _ _ _ (by rfl) (w.heap.size + 1 + 1 + 1) 54 i0 _ 1 24 Try.underlying24 HJ.out HJ0.out HJ1.out HJ2.out rfl (by omega) _ k (g1.map hdV) (by rfl) (HP3.out.hd.own.alloc _) ⟨u3.heap.size, 0, none⟩ 1 1 [.slice A2 xn c2] (by rfl) (by rfl) (World.news_of_block (cs := #[.slice A2 xn c2]) (t := 54) (fr := (0, 0)) (heap_alloc_new u3 _)) (by simp [Value.oneCell']) (by omega) (by simp only [maxLen]; omega) (by omega) (by simp only [World.size_alloc]; omega) (u3.heap.size + 1) (by simp) ?_; intro g7 cap7 u6 hown7 hgrow7 hat7 hlt7; have b6 : Below (w.heap.size + 1 + 1 + 1) wo u6 := Below.grown (b3.alloc (by omega) _) hgrow7 (by simp only [World.size_alloc]; omega) (fun kk hk => (HP3.out.hd.own.lt kk hk).1); obtain ⟨o6, fo6, _, _, _⟩ := HKe.out _ b6))
      all_goals
        have HP7 : Hid (OwSS (w.heap.size + 1 + 1 + 1) u6.heap.size u6 (some ⟨g7, 0, none⟩) (k + 1) cap7 (g1 ++ [(A2, xn, c2)]) (iss (xss.take (k + 1)))) := by
          unfold Hid
          rw [← HTk.out]
          refine OwSS.push (w := u3.alloc (.cells #[.slice A2 xn c2] 54)) (x := (A2, xn, c2)) (HP3.out.same (same_alloc _ (by omega))) (HL3.out.same (same_alloc _ (Nat.le_refl _))) hzL (Nat.le_refl _) (by omega) (by simp only [World.size_alloc]; omega) hown7 hgrow7 ?_
          rcases hat7 with h | h
          · exact .inl h
          · exact .inr (by simp only [World.size_alloc]; omega)
        have HP9 := Lib.hid ((HP7.out.same (same_setc (b := (w.heap.size + 1 + 1)) (i := 0) (u := .slice (some ⟨g7, 0, none⟩) (k + 1) cap7) (Nat.lt_succ_self _))).wide (Nat.le_refl _) (show u6.heap.size ≤ (u6.setCell ⟨(w.heap.size + 1 + 1), 0, none⟩ (.slice (some ⟨g7, 0, none⟩) (k + 1) cap7)).heap.size by simp [World.setCell]))
        have HBx6 := HBx.out.same (same_below b6 (Nat.le_refl _))
        have HBx9 := Lib.hid (HBx6.set_ 0 (.slice (some ⟨g7, 0, none⟩) (k + 1) cap7))
        have HB9 : Hid (Below (w.heap.size + 1 + 1) v13 (u6.setCell ⟨(w.heap.size + 1 + 1), 0, none⟩ (.slice (some ⟨g7, 0, none⟩) (k + 1) cap7))) := Below.setCell (p := ⟨(w.heap.size + 1 + 1), 0, none⟩) (HBel.out.trans (b6.mono (by omega))) (Nat.le_refl _) _
        clear hown7 hgrow7 hat7
        go_wp2_with fail
        go_roundw
        case rel => exact ⟨k + 1, _, _, _, by omega, by go_num, HP9.out, HBx9.out, HB9.out⟩
        case measure => simp [intOf]; omega
    · obtain rfl : n = k := by omega
      have htk : xss.take n = xss := List.take_of_length_le (Nat.le_of_eq HXL.out)
      have o0 := HBx.out.cells 0
      have r0 : wo.cell? ⟨w.heap.size + 1, 0, none⟩ = some (.slice none 0 0) := (HBel.out.cell (p := ⟨w.heap.size + 1, 0, none⟩) (show w.heap.size + 1 < _ by omega)).trans (HR.out.cells 0)
      have fr0 : wo.frozen? ⟨w.heap.size + 1, 0, none⟩ = false := (HBel.out.frozen (p := ⟨w.heap.size + 1, 0, none⟩) (show w.heap.size + 1 < _ by omega)).trans (HR.out.free 0)
      simp at o0
      have hfin : ∀ w9, w9 = wo.setCell ⟨w.heap.size + 1, 0, none⟩ (.slice A1 n c1) → OwSS w.heap.size w9.heap.size w9 A1 n c1 g1 (iss xss) ∧ Below w.heap.size w w9 := by
        intro w9 h9
        subst h9
        have h := HPar.out
        rw [htk] at h
        have hsz : (wo.setCell ⟨w.heap.size + 1, 0, none⟩ (.slice A1 n c1)).heap.size = wo.heap.size := by simp [World.setCell]
        rw [hsz]
        exact ⟨(h.same (same_setc (b := w.heap.size + 1) (i := 0) (u := .slice A1 n c1) (by omega))).wide (by omega) (Nat.le_refl _), Below.setCell (p := ⟨w.heap.size + 1, 0, none⟩) HW.out (by show w.heap.size ≤ w.heap.size + 1; omega) _⟩
      have HFin := Lib.hid hfin
      clear hfin HPar htk
      go_wp2_with ((with_reducible refine bodyPost_ret (v := .agg #[.slice A1 n c1]) ?k1 ?k2 ?k3); (case k1 => (simp [results, Try.results37, go_sem, r0, fr0])); (case k2 => rfl); (case k3 => (exact ⟨A1, c1, g1, rfl, (HFin.out _ rfl).1, (HFin.out _ rfl).2⟩)))

end Go.Proofs.Ytnljlehbjdambaa
