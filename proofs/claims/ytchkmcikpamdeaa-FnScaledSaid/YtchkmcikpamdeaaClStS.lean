/-
  l8Copy of spec: a copy of totals and cells.
-/
import Derived.Test.YtchkmcikpamdeaaLast
import Derived.Test.YtchkmcikpamdeaaCopyS
import Derived.Test.YtchkmcikpamdeaaStatW
import Derived.Deep.AppendLies
import Derived.Deep.RegionHeld3
import Derived.BigQuiet
import Derived.Deep.Upon
import Derived.Deep.DeepCutAuto
import Derived.Deep.RegionLaw
namespace Go.Proofs.Ytchkmcikpamdeaa
open Go.RowKit
set_option linter.unusedSimpArgs false
set_option linter.unusedVariables false

theorem wp_append_rd {P : Program} {ops : Array Oper} {o : Oper} {a : Act} {w : World} {K : Act → World → Prop} {Q : Exit → Act → World → Prop} (hgd : o.guard = none) (s x : Operand) (t : TypeId)
    (ho : o.op = .call { callee := .builtin .append, args := #[s, x], argTypes := #[t, t] }) (base : Nat) (e : TypeId) (i : TypeInfo) (z : Value) (bytes : Nat) (ht : P.underlying t = some (.slice e)) (hi : P.info? e = some i) (hz : i.zero = some z)
    (hsize : i.size = 1) (hby : i.bytes = bytes) (hzs : z.cells.size = 1) (g0 : Nat) (hs : a.eval s = .slice (some ⟨g0, 0, none⟩) 0 0) (hown : w.ownsRow base e 1 (.slice (some ⟨g0, 0, none⟩) 0 0) 0 [])
    (A : Option Addr) (m c : Nat) (xs : List Value) (hx : a.eval x = .slice A m c) (hr : Rd w A m xs) (h1 : ∀ u ∈ xs, u.oneCell' = true) (h63 : m ≤ maxLen) (hbytes : m * bytes ≤ 140737488355328) (hbase : base ≤ w.heap.size)
    (h : ∀ A' c' w', w'.ownsRow base e 1 (.slice A' m c') m xs → w.grownBy w' (some g0) → K (a.put o.dst (.slice A' m c')) w') : o.wp P a w K Q := by
  have hh := step_append_rd (ops := ops) (E := True) (Q := Q) (K := K) hgd s x t ho base e i z bytes ht hi hz hsize hby hzs g0 hs hown A m c xs hx hr h1 h63 hbytes hbase h
  have hw : Region.wanted o (yielded ops a.tmps) = true := by simp [Region.wanted, hgd]
  rwa [if_pos hw] at hh

theorem wpList_append_rd {P : Program} {ops : Array Oper} {rest : List Oper} {o : Oper} {a : Act} {w : World} {Q : Exit → Act → World → Prop} (hgd : o.guard = none) (s x : Operand) (t : TypeId)
    (ho : o.op = .call { callee := .builtin .append, args := #[s, x], argTypes := #[t, t] }) (base : Nat) (e : TypeId) (i : TypeInfo) (z : Value) (bytes : Nat) (ht : P.underlying t = some (.slice e)) (hi : P.info? e = some i) (hz : i.zero = some z)
    (hsize : i.size = 1) (hby : i.bytes = bytes) (hzs : z.cells.size = 1) (g0 : Nat) (hs : a.eval s = .slice (some ⟨g0, 0, none⟩) 0 0) (hown : w.ownsRow base e 1 (.slice (some ⟨g0, 0, none⟩) 0 0) 0 [])
    (A : Option Addr) (m c : Nat) (xs : List Value) (hx : a.eval x = .slice A m c) (hr : Rd w A m xs) (h1 : ∀ u ∈ xs, u.oneCell' = true) (h63 : m ≤ maxLen) (hbytes : m * bytes ≤ 140737488355328) (hbase : base ≤ w.heap.size)
    (h : ∀ A' c' w', w'.ownsRow base e 1 (.slice A' m c') m xs → w.grownBy w' (some g0) → wpList P ops Q rest (a.put o.dst (.slice A' m c')) w') : wpList P ops Q (o :: rest) a w :=
  wpList_plain hgd fun K hK => wp_append_rd (ops := ops) hgd s x t ho base e i z bytes ht hi hz hsize hby hzs g0 hs hown A m c xs hx hr h1 h63 hbytes hbase fun A' c' w' h2 h3 => hK _ _ (h A' c' w' h2 h3)

set_option maxRecDepth 20000 in
set_option maxHeartbeats 8000000 in
theorem l8Copy_any (A C : Option Addr) (n c m d : Nat) (gs : List Hd) (ts : List Int) (xss : List (List Int)) (w : World) (r : Sta w A C n m gs ts xss) :
    Calls Try.prog 47 #[.agg #[.slice A n c, .slice C m d]] w fun e w' => ∃ A' c' C' d' mid hs', e = .returned (.agg #[.slice A' n c', .slice C' m d']) ∧ OwSta w.heap.size w'.heap.size w' A' C' n c' m d' mid hs' ts xss ∧ Below w.heap.size w w' := by
  have H := Lib.hid r
  have hn0 : n ≤ 1048576 := r.hq
  have hm0 := r.hp
  have HXL : Hid (xss.length = m) := r.lenX
  have HB : Hid (∀ (k : Nat) (xs : List Int), xss[k]? = some xs → xs.length ≤ 1048576) := by
    intro k xs hk
    have h1 := upto_succ (iss_get hk)
    have h2 := upto_le (iss xss) (k + 1)
    have hb := r.hb
    rw [tot_iss] at h2
    simp only [List.length_map] at h1
    omega
  obtain ⟨i0, hi0, hz0, hz1, hz2⟩ := info_parts info_IntSS
  have HJ := Lib.hid hi0; have HJ0 := Lib.hid hz0; have HJ1 := Lib.hid hz1; have HJ2 := Lib.hid hz2
  clear hi0 hz0 hz1 hz2
  obtain ⟨i1, hi0, hz0, hz1, hz2⟩ := info_parts info_IntS
  have HI := Lib.hid hi0; have HI0 := Lib.hid hz0; have HI1 := Lib.hid hz1; have HI2 := Lib.hid hz2
  clear hi0 hz0 hz1 hz2 r
  have B0 := Below.refl w.heap.size w
  have s0 : w.heap.size ≤ w.heap.size := Nat.le_refl _
  go_enter Try.func47, Try.ntmps47
  have p_2 : Bx (w.alloc (.cells #[.slice A n c, .slice C m d] 35)) (w.heap.size) 35 #[.slice A n c, .slice C m d] := Bx.new _ _ _
  have B_2 := B0.alloc s0 (.cells #[.slice A n c, .slice C m d] 35)
  clear B0
  have cp_3 := p_2.cells
  have fp_3 := p_2.free
  clear cp_3 fp_3
  have p_4 := p_2.same (same_alloc (.cells #[.slice none 0 0, .slice none 0 0] 35) (by simp only [World.size_alloc]; omega))
  clear p_2
  have r_5 : Bx ((w.alloc (.cells #[.slice A n c, .slice C m d] 35)).alloc (.cells #[.slice none 0 0, .slice none 0 0] 35)) (w.heap.size + 1) 35 #[.slice none 0 0, .slice none 0 0] := by
    have h := Bx.new (w.alloc (.cells #[.slice A n c, .slice C m d] 35)) 35 #[.slice none 0 0, .slice none 0 0]
    simpa only [World.size_alloc] using h
  have B_5 := B_2.alloc (by simp only [World.size_alloc]; omega) (.cells #[.slice none 0 0, .slice none 0 0] 35)
  clear B_2
  have cp_6 := p_4.cells
  have fp_6 := p_4.free
  have cr_7 := r_5.cells
  have fr_7 := r_5.free
  go_upto_region 1 with fail
  clear cp_6 fp_6
  clear cr_7 fr_7
  obtain ⟨v8, hv8⟩ : ∃ v8, v8 = ((w.alloc (.cells #[.slice A n c, .slice C m d] 35)).alloc (.cells #[.slice none 0 0, .slice none 0 0] 35)) := ⟨_, rfl⟩
  have zv8 : w.heap.size + 1 + 1 ≤ v8.heap.size := by rw [hv8]; simp
  rw [← hv8] at p_4 r_5 B_5 ⊢
  clear hv8
  have HAc := Lib.hid B_5; have HP := Lib.hid p_4; have HR := Lib.hid r_5; have lp := p_4.lt; have lr := r_5.lt
  have p0 := p_4.cells 0
  simp at p0
  have HE : Hid ((v8.alloc (.cells #[] 3)).ownsRow v8.heap.size 3 1 (.slice (some ⟨v8.heap.size, 0, none⟩) 0 0) 0 []) := World.ownsRow_lit (base := v8.heap.size) (e := 3) (size := 1) v8 #[] 0 (Nat.le_refl _) (by simp [maxLen]) rfl
  have HBE : Hid (Below v8.heap.size v8 (v8.alloc (.cells #[] 3))) := (Below.refl _ _).alloc (Nat.le_refl _) _
  have HRE := Lib.hid (H.out.below (HAc.out.trans (HBE.out.mono (by omega))) (Nat.le_refl _))
  clear B_5 p_4 r_5
  go_cut [3] (fun pp wx => ∃ (b : Nat) (A1 : Option Addr) (c1 : Nat), pp = .pointer (some ⟨b, 0, none⟩) ∧ (w.heap.size + 1 + 1) ≤ b ∧ Ow 3 (w.heap.size + 1 + 1) b wx A1 n c1 (ts.map (Value.int .i64)) ∧ Bx wx b 35 #[.slice A1 n c1, .slice none 0 0] ∧ Below (w.heap.size + 1 + 1) v8 wx)
  case first =>
    have q0 : (v8.alloc (.cells #[] 3)).cell? ⟨w.heap.size, 0, none⟩ = some (.slice A n c) := (World.cell?_alloc_lt _ _ _ (by show w.heap.size < _; omega)).trans p0
    go_wp2_with (at_builtin; refine wpList_append_rd rfl _ _ 26 rfl v8.heap.size 3 i1 _ 8 Try.underlying26 HI.out HI0.out HI1.out HI2.out rfl v8.heap.size rfl HE.out A n c (ts.map (Value.int .i64)) rfl HRE.out.tot (i64_one ts) (by unfold maxLen; omega) (by omega) (by simp only [World.size_alloc]; omega) ?_)
    intro A1 c1 u1 hown1 hgrow1
    have hzg := hgrow1.size
    simp only [World.size_alloc] at hzg
    have hb1 : Below (w.heap.size + 1 + 1) v8 u1 := Below.grown (HBE.out.mono (by omega)) hgrow1 (by simp only [World.size_alloc]; omega) (fun kk hk => by injection hk with hk; omega)
    have HO1 : Hid (Ow 3 (w.heap.size + 1 + 1) u1.heap.size u1 A1 n c1 (ts.map (Value.int .i64))) := (Ow.of hown1).wide (by omega) (Nat.le_refl _)
    have HX2 : Hid (Bx (u1.alloc (.cells #[.slice A1 n c1, .slice none 0 0] 35)) u1.heap.size 35 #[.slice A1 n c1, .slice none 0 0]) := Bx.new _ _ _
    have HB1 : Hid (Below (w.heap.size + 1 + 1) v8 (u1.alloc (.cells #[.slice A1 n c1, .slice none 0 0] 35))) := hb1.alloc (by omega) _
    clear hown1 hgrow1
    go_wp2_with fail
    go_meet
    exact ⟨u1.heap.size, A1, c1, rfl, by omega, (HO1.out.same (same_alloc _ (Nat.le_refl _))), HX2.out, HB1.out⟩
  obtain ⟨b, A1, c1, hpp, hLb, ho1, hx1, hb1⟩ := hcut
  subst hpp
  obtain ⟨V0, rfl⟩ : ∃ V0 : World, V0 = wc := ⟨_, rfl⟩
  have HO1 := Lib.hid ho1; have HX1 := Lib.hid hx1; have HB0 : Hid (Below w.heap.size w V0) := HAc.out.trans (hb1.mono (by omega)); have HB1 := Lib.hid hb1
  have lb := hx1.lt
  have hz1 := hb1.size
  clear ho1 hx1 hb1 p0 HE HBE HRE
  go_wp2_with fail
  go_loopw [4] (fun ii wr => ∃ (k : Nat) (C1 : Option Addr) (d1 : Nat) (g1 : List Hd), k ≤ m ∧ ii = .int .i64 k ∧ OwSS (b + 1) wr.heap.size wr C1 k d1 g1 (iss (xss.take k)) ∧ Bx wr b 35 #[.slice A1 n c1, .slice C1 k d1] ∧ Below b V0 wr) (fun ii _ => m - (intOf ii).toNat)
  case atStart => exact ⟨0, none, 0, [], Nat.zero_le _, rfl, OwSS.nil _ _ _, HX1.out, Below.refl _ _⟩
  case round =>
    obtain ⟨k, C1, d1, g1, hk, rfl, hpar, hbx, hbel⟩ := hrel
    obtain ⟨wo, rfl⟩ : ∃ wo : World, wo = wr := ⟨_, rfl⟩
    have HPar := Lib.hid hpar; have HBx := Lib.hid hbx; have HBel := Lib.hid hbel
    have HW : Hid (Below w.heap.size w wo) := HB0.out.trans (hbel.mono (by omega))
    have hBp : Below (w.heap.size + 1 + 1) v8 wo := HB1.out.trans (hbel.mono (by omega))
    have hzo := hbel.size
    have hzL : b + 1 ≤ wo.heap.size := hbx.lt
    have p0 : wo.cell? ⟨w.heap.size, 1, none⟩ = some (.slice C m d) := (hBp.cell (p := ⟨w.heap.size, 1, none⟩) (show w.heap.size < _ by omega)).trans (HP.out.cells 1)
    have HBp := Lib.hid hBp
    clear hpar hbx hbel hBp
    by_cases hlt : k < m
    · obtain ⟨x, vs, hx, hv, hr, hvl⟩ := H.out.cel.get hlt
      obtain ⟨bb, off, rfl, hbl, hcell⟩ := H.out.cel.head hlt hx
      obtain ⟨xs, hxs, rfl⟩ := iss_get' hv
      have hxl := HB.out _ xs hxs
      obtain ⟨xa, xn, xc⟩ := x
      simp only [List.length_map] at hvl hcell hr
      have HC : Hid (wo.cell? ⟨bb, off + k, none⟩ = some (.slice xa xn xc)) := (HW.out.cell (p := ⟨bb, off + k, none⟩) hbl).trans hcell
      have HR1 := Lib.hid (hr.below HW.out (Nat.le_refl _))
      have HTk := Lib.hid (iss_take hxs)
      have HP0 := Lib.hid p0
      have k0 : (0 : Int) ≤ (k : Int) := Int.natCast_nonneg _
      have k1 : (k : Int) < (m : Int) := by omega
      have HKe : Hid (∀ w' : World, Below (b + 1) wo w' → w'.cell? ⟨b, 1, none⟩ = some (.slice C1 k d1) ∧ w'.frozen? ⟨b, 1, none⟩ = false ∧ w'.cell? ⟨w.heap.size, 1, none⟩ = some (.slice (some ⟨bb, off, none⟩) m d) ∧ w'.cell? ⟨bb, off + k, none⟩ = some (.slice xa xn xc) ∧ Below (b + 1) wo w') := fun w' hb => ⟨(hb.cell (p := ⟨b, 1, none⟩) (show b < b + 1 by omega)).trans (HBx.out.cells 1), (hb.frozen (p := ⟨b, 1, none⟩) (show b < b + 1 by omega)).trans (HBx.out.free 1), (hb.cell (p := ⟨w.heap.size, 1, none⟩) (show w.heap.size < b + 1 by omega)).trans HP0.out, (hb.cell (p := ⟨bb, off + k, none⟩) (show bb < b + 1 by omega)).trans HC.out, hb⟩
      have HEo : Hid ((wo.alloc (.cells #[] 3)).ownsRow wo.heap.size 3 1 (.slice (some ⟨wo.heap.size, 0, none⟩) 0 0) 0 []) := World.ownsRow_lit (base := wo.heap.size) (e := 3) (size := 1) wo #[] 0 (Nat.le_refl _) (by simp [maxLen]) rfl
      have HBo : Hid (Below wo.heap.size wo (wo.alloc (.cells #[] 3)).drew) := ((Below.refl _ _).alloc (Nat.le_refl _) _).drew
      have HRo : Hid (Rd (wo.alloc (.cells #[] 3)).drew xa xn (xs.map (Value.int .i64))) := HR1.out.below HBo.out (Nat.le_refl _)
      have HPo := Lib.hid ((HPar.out.same (same_alloc (.cells #[] 3) (Nat.le_refl _))).same (w' := (wo.alloc (.cells #[] 3)).drew) (fun _ _ _ => rfl))
      clear hcell hr hx hv hxs
      have q0 : wo.cell? ⟨b, 1, none⟩ = some (.slice C1 k d1) := HBx.out.cells 1
      have q1 : wo.cell? ⟨bb, off + k, none⟩ = some (.slice xa xn xc) := HC.out
      go_upto_region 5 with fail
      refine wp_region_last (n := 12) (S := fun w' => w'.cell? ⟨b, 1, none⟩ = some (.slice C1 k d1) ∧ w'.frozen? ⟨b, 1, none⟩ = false ∧ w'.cell? ⟨w.heap.size, 1, none⟩ = some (.slice (some ⟨bb, off, none⟩) m d) ∧ w'.cell? ⟨bb, off + k, none⟩ = some (.slice xa xn xc) ∧ Below (b + 1) wo w') (by kernel_rfl) rfl (by kernel_rfl) (HKe.out _ ((Below.refl _ _).drew)) ?_
      intro hS; (try dsimp only at hS)
      simp only [List.take_succ_cons, List.take_zero, List.getElem_toArray, List.getElem_cons_succ, List.getElem_cons_zero]
      refine wpAnyH_take (i := 0) (v := ?v1x) rfl (by kernel_rfl) (by kernel_rfl) (by kernel_rfl) (fun _ _ _ h => h) (Or.inl ⟨by rfl, ?hy1x⟩) hS ?rest1x
      case hy1x => (intro w' hSw; (try dsimp only at hSw); go_simp; (try (with_reducible rfl)))
      (try simp only [Act.put, List.setIfInBounds_toArray, List.set_cons_zero, List.set_cons_succ, List.getElem_toArray, List.getElem_cons_succ, List.getElem_cons_zero])
      refine wpAnyH_take (i := 1) (v := ?v2x) rfl (by kernel_rfl) (by kernel_rfl) (by kernel_rfl) (fun _ _ _ h => h) (Or.inl ⟨by rfl, ?hy2x⟩) hS ?rest2x
      case hy2x => (intro w' hSw; (try dsimp only at hSw); go_simp; (try (with_reducible rfl)))
      (try simp only [Act.put, List.setIfInBounds_toArray, List.set_cons_zero, List.set_cons_succ, List.getElem_toArray, List.getElem_cons_succ, List.getElem_cons_zero])
      refine wpAnyH_take (i := 3) (v := ?v3x) rfl (by kernel_rfl) (by kernel_rfl) (by kernel_rfl) (fun _ _ _ h => h) (Or.inl ⟨by rfl, ?hy3x⟩) hS ?rest3x
      case hy3x => (intro w' hSw; (try dsimp only at hSw); go_simp; (try (with_reducible rfl)))
      (try simp only [Act.put, List.setIfInBounds_toArray, List.set_cons_zero, List.set_cons_succ, List.getElem_toArray, List.getElem_cons_succ, List.getElem_cons_zero])
      refine wpAnyH_take (i := 4) (v := ?v4x) rfl (by kernel_rfl) (by kernel_rfl) (by kernel_rfl) (fun _ _ _ h => h) (Or.inl ⟨by rfl, ?hy4x⟩) hS ?rest4x
      case hy4x => (intro w' hSw; (try dsimp only at hSw); go_simp; (try (with_reducible rfl)))
      (try simp only [Act.put, List.setIfInBounds_toArray, List.set_cons_zero, List.set_cons_succ, List.getElem_toArray, List.getElem_cons_succ, List.getElem_cons_zero])
      refine wpAnyH_take (i := 5) (v := ?v5x) rfl (by kernel_rfl) (by kernel_rfl) (by kernel_rfl) (fun _ _ _ h => h) (Or.inl ⟨by rfl, ?hy5x⟩) hS ?rest5x
      case hy5x => (intro w' hSw; (try dsimp only at hSw); go_simp; (try (with_reducible rfl)))
      (try simp only [Act.put, List.setIfInBounds_toArray, List.set_cons_zero, List.set_cons_succ, List.getElem_toArray, List.getElem_cons_succ, List.getElem_cons_zero])
      refine wpAnyH_take (i := 6) (v := ?v6x) rfl (by kernel_rfl) (by kernel_rfl) (by kernel_rfl) (fun _ _ _ h => h) (Or.inl ⟨by rfl, ?hy6x⟩) hS ?rest6x
      case hy6x => (intro w' hSw; (try dsimp only at hSw); go_simp; (try (with_reducible rfl)))
      (try simp only [Act.put, List.setIfInBounds_toArray, List.set_cons_zero, List.set_cons_succ, List.getElem_toArray, List.getElem_cons_succ, List.getElem_cons_zero])
      refine wpAnyH_take (i := 7) (v := ?v7x) rfl (by kernel_rfl) (by kernel_rfl) (by kernel_rfl) (fun _ _ _ h => h) (Or.inl ⟨by rfl, ?hy7x⟩) hS ?rest7x
      case hy7x => (intro w' hSw; (try dsimp only at hSw); go_simp; (try (with_reducible rfl)))
      (try simp only [Act.put, List.setIfInBounds_toArray, List.set_cons_zero, List.set_cons_succ, List.getElem_toArray, List.getElem_cons_succ, List.getElem_cons_zero])
      refine wpAnyH_ready (rs := [2]) (by kernel_rfl) (by simp) ?_
      refine AllReadyH.cons rfl (fun K hK => ?_) AllReadyH.nil
      (try dsimp only [List.getElem_toArray, List.getElem_cons_succ, List.getElem_cons_zero])
      go_simp
      refine hK.out _ _ (HKe.out _ ((Below.refl _ _).drew.alloc hzL _)) (fun hS9 => ?_)
      clear hK K hS; have hS := hS9; clear hS9; (try dsimp only at hS)
      (try simp only [Act.put, List.setIfInBounds_toArray, List.set_cons_zero, List.set_cons_succ, List.getElem_toArray, List.getElem_cons_succ, List.getElem_cons_zero])
      refine wpAnyH_ready (rs := [8]) (by kernel_rfl) (by simp) ?_
      refine AllReadyH.cons rfl (fun K hK => ?_) AllReadyH.nil
      (try dsimp only [List.getElem_toArray, List.getElem_cons_succ, List.getElem_cons_zero])
      (rw [if_pos (by rfl)]; refine wp_append_rd (ops := #[]) (by rfl) _ _ _ (by rfl) wo.heap.size 3 i1 _ 8 Try.underlying26 HI.out HI0.out HI1.out HI2.out rfl wo.heap.size (by rfl) HEo.out.drew xa xn xc (xs.map (Value.int .i64)) (by rfl) HRo.out (i64_one xs) (by unfold maxLen; omega) (by omega) (by show wo.heap.size ≤ (wo.alloc _).heap.size; rw [World.size_alloc]; omega) ?_; intro A2 c2 u3 hown3 hgrow3)
      have b3 : Below (b + 1) wo u3 := Below.grown (B := (b + 1)) (HBo.out.mono hzL) hgrow3 (by have := HBo.out.size; omega) (fun kk hk => by injection hk with hk; omega)
      have hz3 := hgrow3.size
      have hz3' : wo.heap.size + 1 ≤ u3.heap.size := (by have h1 : (wo.alloc (.cells #[] 3)).drew.heap.size = wo.heap.size + 1 := (World.size_alloc _ _); omega)
      have HP3 := Lib.hid (HPo.out.same (same_only (Only.of_grown (l := wo.heap.size) (h := wo.heap.size + 1) hgrow3 (fun kk hk => by injection hk with hk; omega)) (Or.inl (Nat.le_refl _)) (by have h1 : (wo.alloc (.cells #[] 3)).drew.heap.size = wo.heap.size + 1 := (World.size_alloc _ _); omega)))
      have HL3 : Hid (Ow 3 wo.heap.size u3.heap.size u3 A2 xn c2 (xs.map (Value.int .i64))) := Ow.of hown3
      clear hown3
      refine hK.out _ _ (HKe.out _ b3) (fun hS9 => ?_)
      clear hK K hS; have hS := hS9; clear hS9; (try dsimp only at hS)
      (try simp only [Act.put, List.setIfInBounds_toArray, List.set_cons_zero, List.set_cons_succ, List.getElem_toArray, List.getElem_cons_succ, List.getElem_cons_zero])
      refine wpAnyH_ready (rs := [9]) (by kernel_rfl) (by simp) ?_
      refine AllReadyH.cons rfl (fun K hK => ?_) AllReadyH.nil
      (try dsimp only [List.getElem_toArray, List.getElem_cons_succ, List.getElem_cons_zero])
      go_simp
      refine hK.out _ _ (HKe.out _ (b3.alloc (by omega) _)) (fun hS9 => ?_)
      clear hK K hS; have hS := hS9; clear hS9; (try dsimp only at hS)
      (try simp only [Act.put, List.setIfInBounds_toArray, List.set_cons_zero, List.set_cons_succ, List.getElem_toArray, List.getElem_cons_succ, List.getElem_cons_zero])
      refine wpAnyH_ready (rs := [10]) (by kernel_rfl) (by simp) ?_
      refine AllReadyH.cons rfl (fun K hK => ?_) AllReadyH.nil
      (try dsimp only [List.getElem_toArray, List.getElem_cons_succ, List.getElem_cons_zero])
      (rw [if_pos (by rfl)]; refine wp_append_lies _ _ _ _ (by rfl) (b + 1) 26 i0 _ 1 24 Try.underlying27 HJ.out HJ0.out HJ1.out HJ2.out rfl (by omega) _ k (g1.map hdV) (by rfl) (HP3.out.hd.own.alloc _) ⟨u3.heap.size, 0, none⟩ 1 1 [.slice A2 xn c2] (by rfl) (by rfl) (World.news_of_block (cs := #[.slice A2 xn c2]) (t := 26) (fr := (0, 0)) (heap_alloc_new u3 _)) (by simp [Value.oneCell']) (by omega) (by simp only [maxLen]; omega) (by omega) (by simp only [World.size_alloc]; omega) (u3.heap.size + 1) (by simp) ?_; intro g7 cap7 u6 hown7 hgrow7 hat7 hlt7)
      have b6 : Below (b + 1) wo u6 := Below.grown (b3.alloc (by omega) _) hgrow7 (by simp only [World.size_alloc]; omega) (fun kk hk => (HP3.out.hd.own.lt kk hk).1)
      refine hK.out _ _ (HKe.out _ b6) (fun hS9 => ?_)
      clear hK K hS; have hS := hS9; clear hS9; (try dsimp only at hS)
      (try simp only [Act.put, List.setIfInBounds_toArray, List.set_cons_zero, List.set_cons_succ, List.getElem_toArray, List.getElem_cons_succ, List.getElem_cons_zero])
      refine wpAnyH_take (i := 11) (v := ?v8x) rfl (by kernel_rfl) (by kernel_rfl) (by kernel_rfl) (fun _ _ _ h => h) (Or.inl ⟨by rfl, ?hy8x⟩) hS ?rest8x
      case hy8x => (intro w' hSw; (try dsimp only at hSw); go_simp; (try (with_reducible rfl)))
      (try simp only [Act.put, List.setIfInBounds_toArray, List.set_cons_zero, List.set_cons_succ, List.getElem_toArray, List.getElem_cons_succ, List.getElem_cons_zero])
      refine wpAnyH_done (by kernel_rfl) ?_ _
      refine fun K hK => ?_
      go_simp
      refine hK.out _ _ ?_
      clear hK K
      have HP7 : Hid (OwSS (b + 1) u6.heap.size u6 (some ⟨g7, 0, none⟩) (k + 1) cap7 (g1 ++ [(A2, xn, c2)]) (iss (xss.take (k + 1)))) := by
        unfold Hid
        rw [← HTk.out]
        refine OwSS.push (w := u3.alloc (.cells #[.slice A2 xn c2] 26)) (x := (A2, xn, c2)) (HP3.out.same (same_alloc _ (by omega))) (HL3.out.same (same_alloc _ (Nat.le_refl _))) hzL (Nat.le_refl _) (by omega) (by simp only [World.size_alloc]; omega) hown7 hgrow7 ?_
        rcases hat7 with h | h
        · exact .inl h
        · exact .inr (by simp only [World.size_alloc]; omega)
      have HP9 := Lib.hid ((HP7.out.same (same_setc (b := b) (i := 1) (u := .slice (some ⟨g7, 0, none⟩) (k + 1) cap7) (Nat.lt_succ_self _))).wide (Nat.le_refl _) (show u6.heap.size ≤ (u6.setCell ⟨b, 1, none⟩ (.slice (some ⟨g7, 0, none⟩) (k + 1) cap7)).heap.size by simp [World.setCell]))
      have HBx6 := HBx.out.same (same_below b6 (Nat.le_refl _))
      have HBx9 := Lib.hid (HBx6.set_ 1 (.slice (some ⟨g7, 0, none⟩) (k + 1) cap7))
      have HB9 : Hid (Below b V0 (u6.setCell ⟨b, 1, none⟩ (.slice (some ⟨g7, 0, none⟩) (k + 1) cap7))) := Below.setCell (p := ⟨b, 1, none⟩) (HBel.out.trans (b6.mono (by omega))) (Nat.le_refl _) _
      clear hown7 hgrow7 hat7
      go_wp2_with fail
      go_roundw
      case rel => exact ⟨k + 1, _, _, _, by omega, by go_num, HP9.out, HBx9.out, HB9.out⟩
      case measure => simp [intOf]; omega
    · obtain rfl : m = k := by omega
      have htk : xss.take m = xss := List.take_of_length_le (Nat.le_of_eq HXL.out)
      have o0 := HBx.out.cells 0
      have o1 := HBx.out.cells 1
      have r0 : wo.cell? ⟨w.heap.size + 1, 0, none⟩ = some (.slice none 0 0) := (HBp.out.cell (p := ⟨w.heap.size + 1, 0, none⟩) (show w.heap.size + 1 < _ by omega)).trans (HR.out.cells 0)
      have fr0 : wo.frozen? ⟨w.heap.size + 1, 0, none⟩ = false := (HBp.out.frozen (p := ⟨w.heap.size + 1, 0, none⟩) (show w.heap.size + 1 < _ by omega)).trans (HR.out.free 0)
      have r1 : wo.cell? ⟨w.heap.size + 1, 1, none⟩ = some (.slice none 0 0) := (HBp.out.cell (p := ⟨w.heap.size + 1, 1, none⟩) (show w.heap.size + 1 < _ by omega)).trans (HR.out.cells 1)
      have fr1 : wo.frozen? ⟨w.heap.size + 1, 1, none⟩ = false := (HBp.out.frozen (p := ⟨w.heap.size + 1, 1, none⟩) (show w.heap.size + 1 < _ by omega)).trans (HR.out.free 1)
      simp at o0 o1
      have HTo := Lib.hid (HO1.out.same (same_below HBel.out (Nat.le_refl _)))
      have hpx := HPar.out
      rw [htk] at hpx
      have HPx := Lib.hid hpx
      have hzz : b ≤ wo.heap.size := by omega
      have HWw := Lib.hid HW.out
      clear hpx HPar htk
      go_wp2_with fail
      refine bodyPost_ret (v := .agg #[.slice A1 n c1, .slice C1 m d1]) (by simp [results, Try.results47, go_sem, r0, r1, fr0, fr1]) rfl ⟨A1, c1, C1, d1, b, g1, rfl, ⟨?_, ?_, ?_⟩, ?_⟩
      · exact (((HTo.out.same (same_set (by omega))).same (same_set (by omega))).wide (by omega) (Nat.le_refl _))
      · have h := ((HPx.out.same (same_set (b := w.heap.size + 1) (off := 0) (u := .slice A1 n c1) (by omega))).same (same_set (b := w.heap.size + 1) (off := 1) (u := .slice C1 m d1) (by omega))).wide (show b ≤ b + 1 by omega) (Nat.le_refl _)
        simpa only [World.size_setCell] using h
      · exact ⟨by omega, by simpa only [World.size_setCell] using hzz⟩
      · have hB := HWw.out
        go_grown

end Go.Proofs.Ytchkmcikpamdeaa
