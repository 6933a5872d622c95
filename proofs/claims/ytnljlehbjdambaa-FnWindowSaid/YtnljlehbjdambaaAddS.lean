/-
  WindowAdd of spec.
-/
import Derived.Test.YtnljlehbjdambaaWinOk
import Derived.Test.YtnljlehbjdambaaAddW
import Derived.Test.YtnljlehbjdambaaLast
import Derived.Deep.RegionHeld3
import Derived.Deep.RegionLaw
import Derived.Deep.DeepCutAuto
import Derived.BigQuiet
namespace Go.Proofs.Ytnljlehbjdambaa
open Go.RowKit
set_option linter.unusedSimpArgs false
set_option linter.unusedVariables false

theorem wp_append_rd {P : Program} {o : Oper} {a : Act} {w : World} {K : Act → World → Prop} {Q : Exit → Act → World → Prop} (s x : Operand) (t : TypeId)
    (ho : o.op = .call { callee := .builtin .append, args := #[s, x], argTypes := #[t, t] }) (base : Nat) (e : TypeId) (i : TypeInfo) (z : Value) (bytes : Nat) (ht : P.underlying t = some (.slice e)) (hi : P.info? e = some i) (hz : i.zero = some z)
    (hsize : i.size = 1) (hby : i.bytes = bytes) (hzs : z.cells.size = 1) (g0 : Nat) (hs : a.eval s = .slice (some ⟨g0, 0, none⟩) 0 0) (hown : w.ownsRow base e 1 (.slice (some ⟨g0, 0, none⟩) 0 0) 0 [])
    (A : Option Addr) (m c : Nat) (xs : List Value) (hx : a.eval x = .slice A m c) (hr : Rd w A m xs) (h1 : ∀ u ∈ xs, u.oneCell' = true) (h63 : m ≤ maxLen) (hbytes : m * bytes ≤ 140737488355328) (hbase : base ≤ w.heap.size)
    (h : ∀ A' c' w', w'.ownsRow base e 1 (.slice A' m c') m xs → w.grownBy w' (some g0) → K (a.put o.dst (.slice A' m c')) w') : Oper.wp P o a w K Q := by
  have hgd : ({ o with guard := none } : Oper).guard = none := rfl
  have h2 := step_append_rd (P := P) (ops := #[]) (o := { o with guard := none }) (a := a) (w := w) (K := K) (Q := Q) (E := True) hgd s x t ho base e i z bytes ht hi hz hsize hby hzs g0 hs hown A m c xs hx hr h1 h63 hbytes hbase h
  rw [if_pos (by simp [Region.wanted])] at h2
  exact h2
theorem rd_dropj {w : World} {g xn : Nat} {xs : List Int} (j : Nat) (h : Rd w (some ⟨g, 0, none⟩) xn (xs.map (Value.int .i64))) (h1 : j ≤ xn) : Rd w (some ⟨g, j, none⟩) (xn - j) ((xs.drop j).map (Value.int .i64)) := by
  have hl := h.len
  rw [List.length_map] at hl
  refine ⟨by rw [List.length_map, List.length_drop]; omega, fun hp => ?_⟩
  obtain ⟨b, off, he, hlt, hc⟩ := h.ex (by omega)
  simp only [Option.some.injEq, Addr.mk.injEq, and_true] at he
  obtain ⟨rfl, rfl⟩ := he
  refine ⟨g, j, rfl, hlt, fun k u hk => ?_⟩
  have := hc (j + k) u (by rw [← hk]; simp [List.getElem?_drop])
  rwa [Nat.zero_add] at this
theorem Win.drew {lo b n c : Nat} {w : World} {A : Option Addr} {hs : List Hd} {yss : List (List Int)} (h : Win lo b w A n c hs yss) : Win lo b w.drew A n c hs yss := ⟨h.ow.same (w' := w.drew) (fun _ _ _ => rfl), h.offA, h.offR, h.bx.same (w' := w.drew) (fun _ _ _ => rfl)⟩

set_option maxRecDepth 20000 in
set_option maxHeartbeats 8000000 in
theorem sWindowAdd_any (A : Option Addr) (n c : Nat) (hs : List Hd) (xss : List (List Int)) (bit : Int) (w : World) (h : RdSS w A n hs (iss xss)) (hb : totI xss ≤ 1048576) (hn : n ≤ 1048576) :
    Calls Try.prog 27 #[.agg #[.slice A n c], .int .i64 bit] w fun e w' => ∃ A' n' c' hs', e = .returned (.tuple #[.agg #[.slice A' n' c'], .bool (addB xss bit)]) ∧ OwSS w.heap.size w'.heap.size w' A' n' c' hs' (iss (addR xss bit)) ∧ Below w.heap.size w w' := by
  have H := Lib.hid h
  have HXL : Hid (xss.length = n) := by have := h.len; rwa [iss_len] at this
  obtain ⟨i0, hi0, hz0, hz1, hz2⟩ := info_parts info_IntSS
  have HJ := Lib.hid hi0; have HJ0 := Lib.hid hz0; have HJ1 := Lib.hid hz1; have HJ2 := Lib.hid hz2
  clear hi0 hz0 hz1 hz2
  obtain ⟨i1, hi0, hz0, hz1, hz2⟩ := info_parts info_IntS
  have HI := Lib.hid hi0; have HI0 := Lib.hid hz0; have HI1 := Lib.hid hz1; have HI2 := Lib.hid hz2
  clear hi0 hz0 hz1 hz2 h
  cases hw : winB xss
  · have HWin := Lib.hid hw
    have HDB : Hid (addB xss bit = false) := by unfold Hid addB; rw [hw]; rfl
    have HDR : Hid (addR xss bit = xss) := by unfold Hid addR; rw [HDB.out]; rfl
    clear hw
    have B0 := Below.refl w.heap.size w
    have s0 : w.heap.size ≤ w.heap.size := Nat.le_refl _
    go_enter Try.func27, Try.ntmps27
    have p_2 : Bx (w.alloc (.cells #[.slice A n c] 26)) (w.heap.size) 26 #[.slice A n c] := Bx.new _ _ _
    have B_2 := B0.alloc s0 (.cells #[.slice A n c] 26)
    clear B0
    have cp_3 := p_2.cells
    have fp_3 := p_2.free
    clear cp_3 fp_3
    have p_4 := p_2.same (same_alloc (.cells #[.slice none 0 0] 26) (by simp only [World.size_alloc]; omega))
    clear p_2
    have r_5 : Bx ((w.alloc (.cells #[.slice A n c] 26)).alloc (.cells #[.slice none 0 0] 26)) (w.heap.size + 1) 26 #[.slice none 0 0] := by
      have h := Bx.new (w.alloc (.cells #[.slice A n c] 26)) 26 #[.slice none 0 0]
      simpa only [World.size_alloc] using h
    have B_5 := B_2.alloc (by simp only [World.size_alloc]; omega) (.cells #[.slice none 0 0] 26)
    clear B_2
    have cp_6 := p_4.cells
    have fp_6 := p_4.free
    have cr_7 := r_5.cells
    have fr_7 := r_5.free
    go_wp2_with fail
    refine (l16Copy_any A n c hs xss _ (H.out.below B_5 (Nat.le_refl _)) hb hn).mono ?_
    rintro e w1 ⟨A1, c1, g1, rfl, o, b⟩
    clear cp_6 fp_6
    clear cr_7 fr_7
    simp only [World.size_alloc] at b o
    have t_8 := b.size
    simp only [World.size_alloc] at t_8
    have z_8 : w.heap.size ≤ w1.heap.size := by omega
    have p_9 := p_4.same (same_below b (by omega))
    clear p_4
    have r_9 := r_5.same (same_below b (by omega))
    clear r_5
    have B_8 := B_5.trans (b.mono (by omega))
    clear B_5 b
    have x_8 := o
    clear o
    have cp_10 := p_9.cells
    have fp_10 := p_9.free
    have cr_11 := r_9.cells
    have fr_11 := r_9.free
    clear cp_10 fp_10
    clear cr_11 fr_11
    have p_12 := p_9.same (same_alloc (.cells #[.slice A1 n c1] 26) (by omega))
    clear p_9
    have r_12 := r_9.same (same_alloc (.cells #[.slice A1 n c1] 26) (by omega))
    clear r_9
    have x_12 := x_8.same (same_alloc (.cells #[.slice A1 n c1] 26) (by omega))
    clear x_8
    have out_13 : Bx (w1.alloc (.cells #[.slice A1 n c1] 26)) (w1.heap.size) 26 #[.slice A1 n c1] := Bx.new _ _ _
    have B_13 := B_8.alloc z_8 (.cells #[.slice A1 n c1] 26)
    clear B_8
    have cp_14 := p_12.cells
    have fp_14 := p_12.free
    have cr_15 := r_12.cells
    have fr_15 := r_12.free
    have cout_16 := out_13.cells
    have fout_16 := out_13.free
    go_wp2_with fail
    refine (sWindowOk_any A n c hs xss _ (H.out.below B_13 (Nat.le_refl _)) hb hn).mono ?_
    rw [HWin.out]
    rintro e w2 ⟨rfl, b⟩
    clear cp_14 fp_14
    clear cr_15 fr_15
    clear cout_16 fout_16
    simp only [World.size_alloc] at b
    have t_17 := b.size
    simp only [World.size_alloc] at t_17
    have z_17 : w.heap.size ≤ w2.heap.size := by omega
    have p_18 := p_12.same (same_below b (by omega))
    clear p_12
    have r_18 := r_12.same (same_below b (by omega))
    clear r_12
    have x_18 := x_12.same (same_below b (by omega))
    clear x_12
    have out_18 := out_13.same (same_below b (by omega))
    clear out_13
    have B_17 := B_13.trans (b.mono (by omega))
    clear B_13 b
    have cp_19 := p_18.cells
    have fp_19 := p_18.free
    have cr_20 := r_18.cells
    have fr_20 := r_18.free
    have cout_21 := out_18.cells
    have fout_21 := out_18.free
    have hfin : ∀ w9, w9 = w2.setCell ⟨w.heap.size + 1, 0, none⟩ (.slice A1 n c1) → OwSS w.heap.size w9.heap.size w9 A1 n c1 g1 (iss (addR xss bit)) ∧ Below w.heap.size w w9 := by
      intro w9 h9
      subst h9
      rw [HDR.out, setc_size]
      exact ⟨(x_18.same (same_setc (by omega))).wide (by omega) (by omega), Below.setCell (p := ⟨w.heap.size + 1, 0, none⟩) B_17 (by show w.heap.size ≤ w.heap.size + 1; omega) _⟩
    have HFin := Lib.hid hfin
    clear hfin
    have r0 := r_18.cells 0; have fr0 := r_18.free 0
    simp at r0
    go_wp2_with ((with_reducible refine bodyPost_ret (v := .tuple #[.agg #[.slice A1 n c1], .bool false]) ?k1 ?k2 ?k3); (case k1 => (simp [results, Try.results27, go_sem, r0, fr0])); (case k2 => rfl); (case k3 => (exact ⟨A1, n, c1, g1, by rw [HDB.out], (HFin.out _ rfl).1, (HFin.out _ rfl).2⟩)))
  · have HWin := Lib.hid hw
    cases hbit : inB bit 0 1
    · have HBit := Lib.hid hbit
      have HDB : Hid (addB xss bit = false) := by unfold Hid addB; rw [hw, hbit]; rfl
      have HDR : Hid (addR xss bit = xss) := by unfold Hid addR; rw [HDB.out]; rfl
      clear hw hbit
      have B0 := Below.refl w.heap.size w
      have s0 : w.heap.size ≤ w.heap.size := Nat.le_refl _
      go_enter Try.func27, Try.ntmps27
      have p_2 : Bx (w.alloc (.cells #[.slice A n c] 26)) (w.heap.size) 26 #[.slice A n c] := Bx.new _ _ _
      have B_2 := B0.alloc s0 (.cells #[.slice A n c] 26)
      clear B0
      have cp_3 := p_2.cells
      have fp_3 := p_2.free
      clear cp_3 fp_3
      have p_4 := p_2.same (same_alloc (.cells #[.slice none 0 0] 26) (by simp only [World.size_alloc]; omega))
      clear p_2
      have r_5 : Bx ((w.alloc (.cells #[.slice A n c] 26)).alloc (.cells #[.slice none 0 0] 26)) (w.heap.size + 1) 26 #[.slice none 0 0] := by
        have h := Bx.new (w.alloc (.cells #[.slice A n c] 26)) 26 #[.slice none 0 0]
        simpa only [World.size_alloc] using h
      have B_5 := B_2.alloc (by simp only [World.size_alloc]; omega) (.cells #[.slice none 0 0] 26)
      clear B_2
      have cp_6 := p_4.cells
      have fp_6 := p_4.free
      have cr_7 := r_5.cells
      have fr_7 := r_5.free
      go_wp2_with fail
      refine (l16Copy_any A n c hs xss _ (H.out.below B_5 (Nat.le_refl _)) hb hn).mono ?_
      rintro e w1 ⟨A1, c1, g1, rfl, o, b⟩
      clear cp_6 fp_6
      clear cr_7 fr_7
      simp only [World.size_alloc] at b o
      have t_8 := b.size
      simp only [World.size_alloc] at t_8
      have z_8 : w.heap.size ≤ w1.heap.size := by omega
      have p_9 := p_4.same (same_below b (by omega))
      clear p_4
      have r_9 := r_5.same (same_below b (by omega))
      clear r_5
      have B_8 := B_5.trans (b.mono (by omega))
      clear B_5 b
      have x_8 := o
      clear o
      have cp_10 := p_9.cells
      have fp_10 := p_9.free
      have cr_11 := r_9.cells
      have fr_11 := r_9.free
      clear cp_10 fp_10
      clear cr_11 fr_11
      have p_12 := p_9.same (same_alloc (.cells #[.slice A1 n c1] 26) (by omega))
      clear p_9
      have r_12 := r_9.same (same_alloc (.cells #[.slice A1 n c1] 26) (by omega))
      clear r_9
      have x_12 := x_8.same (same_alloc (.cells #[.slice A1 n c1] 26) (by omega))
      clear x_8
      have out_13 : Bx (w1.alloc (.cells #[.slice A1 n c1] 26)) (w1.heap.size) 26 #[.slice A1 n c1] := Bx.new _ _ _
      have B_13 := B_8.alloc z_8 (.cells #[.slice A1 n c1] 26)
      clear B_8
      have cp_14 := p_12.cells
      have fp_14 := p_12.free
      have cr_15 := r_12.cells
      have fr_15 := r_12.free
      have cout_16 := out_13.cells
      have fout_16 := out_13.free
      go_wp2_with fail
      refine (sWindowOk_any A n c hs xss _ (H.out.below B_13 (Nat.le_refl _)) hb hn).mono ?_
      rw [HWin.out]
      rintro e w2 ⟨rfl, b⟩
      clear cp_14 fp_14
      clear cr_15 fr_15
      clear cout_16 fout_16
      simp only [World.size_alloc] at b
      have t_17 := b.size
      simp only [World.size_alloc] at t_17
      have z_17 : w.heap.size ≤ w2.heap.size := by omega
      have p_18 := p_12.same (same_below b (by omega))
      clear p_12
      have r_18 := r_12.same (same_below b (by omega))
      clear r_12
      have x_18 := x_12.same (same_below b (by omega))
      clear x_12
      have out_18 := out_13.same (same_below b (by omega))
      clear out_13
      have B_17 := B_13.trans (b.mono (by omega))
      clear B_13 b
      have cp_19 := p_18.cells
      have fp_19 := p_18.free
      have cr_20 := r_18.cells
      have fr_20 := r_18.free
      have cout_21 := out_18.cells
      have fout_21 := out_18.free
      go_wp2_with fail
      refine (l1In_any bit 0 1 _).mono ?_
      rw [HBit.out]
      rintro e w3 ⟨rfl, rfl⟩
      have hfin : ∀ w9, w9 = w2.setCell ⟨w.heap.size + 1, 0, none⟩ (.slice A1 n c1) → OwSS w.heap.size w9.heap.size w9 A1 n c1 g1 (iss (addR xss bit)) ∧ Below w.heap.size w w9 := by
        intro w9 h9
        subst h9
        rw [HDR.out, setc_size]
        exact ⟨(x_18.same (same_setc (by omega))).wide (by omega) (by omega), Below.setCell (p := ⟨w.heap.size + 1, 0, none⟩) B_17 (by show w.heap.size ≤ w.heap.size + 1; omega) _⟩
      have HFin := Lib.hid hfin
      clear hfin
      have r0 := r_18.cells 0; have fr0 := r_18.free 0
      simp at r0
      go_wp2_with ((with_reducible refine bodyPost_ret (v := .tuple #[.agg #[.slice A1 n c1], .bool false]) ?k1 ?k2 ?k3); (case k1 => (simp [results, Try.results27, go_sem, r0, fr0])); (case k2 => rfl); (case k3 => (exact ⟨A1, n, c1, g1, by rw [HDB.out], (HFin.out _ rfl).1, (HFin.out _ rfl).2⟩)))
    · have HBit := Lib.hid hbit
      have HDB : Hid (addB xss bit = true) := by unfold Hid addB; rw [hw, hbit]; rfl
      obtain ⟨hbit0, hbit1⟩ := inB_iff.1 hbit
      clear hw hbit
      have B0 := Below.refl w.heap.size w
      have s0 : w.heap.size ≤ w.heap.size := Nat.le_refl _
      go_enter Try.func27, Try.ntmps27
      have p_2 : Bx (w.alloc (.cells #[.slice A n c] 26)) (w.heap.size) 26 #[.slice A n c] := Bx.new _ _ _
      have B_2 := B0.alloc s0 (.cells #[.slice A n c] 26)
      clear B0
      have cp_3 := p_2.cells
      have fp_3 := p_2.free
      clear cp_3 fp_3
      have p_4 := p_2.same (same_alloc (.cells #[.slice none 0 0] 26) (by simp only [World.size_alloc]; omega))
      clear p_2
      have r_5 : Bx ((w.alloc (.cells #[.slice A n c] 26)).alloc (.cells #[.slice none 0 0] 26)) (w.heap.size + 1) 26 #[.slice none 0 0] := by
        have h := Bx.new (w.alloc (.cells #[.slice A n c] 26)) 26 #[.slice none 0 0]
        simpa only [World.size_alloc] using h
      have B_5 := B_2.alloc (by simp only [World.size_alloc]; omega) (.cells #[.slice none 0 0] 26)
      clear B_2
      have cp_6 := p_4.cells
      have fp_6 := p_4.free
      have cr_7 := r_5.cells
      have fr_7 := r_5.free
      go_wp2_with fail
      refine (l16Copy_any A n c hs xss _ (H.out.below B_5 (Nat.le_refl _)) hb hn).mono ?_
      rintro e w1 ⟨A1, c1, g1, rfl, o, b⟩
      clear cp_6 fp_6
      clear cr_7 fr_7
      simp only [World.size_alloc] at b o
      have t_8 := b.size
      simp only [World.size_alloc] at t_8
      have z_8 : w.heap.size ≤ w1.heap.size := by omega
      have p_9 := p_4.same (same_below b (by omega))
      clear p_4
      have r_9 := r_5.same (same_below b (by omega))
      clear r_5
      have B_8 := B_5.trans (b.mono (by omega))
      clear B_5 b
      have x_8 := o
      clear o
      have cp_10 := p_9.cells
      have fp_10 := p_9.free
      have cr_11 := r_9.cells
      have fr_11 := r_9.free
      clear cp_10 fp_10
      clear cr_11 fr_11
      have p_12 := p_9.same (same_alloc (.cells #[.slice A1 n c1] 26) (by omega))
      clear p_9
      have r_12 := r_9.same (same_alloc (.cells #[.slice A1 n c1] 26) (by omega))
      clear r_9
      have x_12 := x_8.same (same_alloc (.cells #[.slice A1 n c1] 26) (by omega))
      clear x_8
      have out_13 : Bx (w1.alloc (.cells #[.slice A1 n c1] 26)) (w1.heap.size) 26 #[.slice A1 n c1] := Bx.new _ _ _
      have B_13 := B_8.alloc z_8 (.cells #[.slice A1 n c1] 26)
      clear B_8
      have cp_14 := p_12.cells
      have fp_14 := p_12.free
      have cr_15 := r_12.cells
      have fr_15 := r_12.free
      have cout_16 := out_13.cells
      have fout_16 := out_13.free
      go_wp2_with fail
      refine (sWindowOk_any A n c hs xss _ (H.out.below B_13 (Nat.le_refl _)) hb hn).mono ?_
      rw [HWin.out]
      rintro e w2 ⟨rfl, b⟩
      clear cp_14 fp_14
      clear cr_15 fr_15
      clear cout_16 fout_16
      simp only [World.size_alloc] at b
      have t_17 := b.size
      simp only [World.size_alloc] at t_17
      have z_17 : w.heap.size ≤ w2.heap.size := by omega
      have p_18 := p_12.same (same_below b (by omega))
      clear p_12
      have r_18 := r_12.same (same_below b (by omega))
      clear r_12
      have x_18 := x_12.same (same_below b (by omega))
      clear x_12
      have out_18 := out_13.same (same_below b (by omega))
      clear out_13
      have B_17 := B_13.trans (b.mono (by omega))
      clear B_13 b
      have cp_19 := p_18.cells
      have fp_19 := p_18.free
      have cr_20 := r_18.cells
      have fr_20 := r_18.free
      have cout_21 := out_18.cells
      have fout_21 := out_18.free
      go_wp2_with fail
      refine (l1In_any bit 0 1 _).mono ?_
      rw [HBit.out]
      rintro e w3 ⟨rfl, rfl⟩
      have HAc := Lib.hid B_17; have HR0 : Hid (w2.cell? ⟨w.heap.size + 1, 0, none⟩ = some (.slice none 0 0)) := r_18.cells 0; have HR1 : Hid (w2.frozen? ⟨w.heap.size + 1, 0, none⟩ = false) := r_18.free 0
      have lo_ := out_18.lt
      obtain ⟨XLO, hXLO⟩ : ∃ XLO, XLO = w.heap.size + 1 + 1 := ⟨_, rfl⟩
      obtain ⟨BO, hBO⟩ : ∃ BO, BO = w1.heap.size := ⟨_, rfl⟩
      have hw0 : Win XLO BO w2 A1 n c1 g1 xss := by rw [hXLO, hBO]; exact Win.start x_18 (by omega) (by omega) out_18
      rw [← hBO]
      have hXl : w.heap.size + 1 < XLO := by omega
      have hXB : XLO ≤ BO := by omega
      have hXV : XLO ≤ w2.heap.size := by omega
      have HW0 := Lib.hid hw0
      clear hw0 hXLO hBO B_17 p_18 r_18 x_18 out_18 cp_19 fp_19 cr_20 fr_20 cout_21 fout_21
      have hbl := HW0.out.bx.lt
      have o0 := HW0.out.bcell
      have hm0 : moreR xss 0 = if 0 = xss.length then xss ++ [[]] else xss := rfl
      have HM0 := Lib.hid hm0
      have HYL := Lib.hid HW0.out.len
      clear hm0
      go_upto_if 23 with fail
      go_cut [] (fun wx => ∃ (A2 : Option Addr) (n2 c2 : Nat) (g2 : List Hd), Win XLO BO wx A2 n2 c2 g2 (moreR xss 0) ∧ Below XLO w2 wx)
      case first =>
        by_cases hq : n = 0
        · have hqb : ((n : Int) == 0) = true := by simp [hq]
          have hqd : decide ((n : Int) = 0) = true := by simp [hq]
          have HQ := Lib.hid hq; clear hq
          go_wp2_with (at_builtin; refine wpList_append_lies _ rfl _ _ 24 rfl XLO 54 i0 _ 1 24 Try.underlying24 HJ.out HJ0.out HJ1.out HJ2.out rfl (by decide) (.slice A1 n c1) n (g1.map hdV) rfl ((HW0.out.ow.hd.own.alloc _).alloc _) ⟨w2.heap.size + 1, 0, none⟩ 1 1 [.slice (some ⟨w2.heap.size, 0, none⟩) 0 0] rfl rfl (World.news_of_block (cs := #[.slice (some ⟨w2.heap.size, 0, none⟩) 0 0]) (t := 54) (fr := (0, 0)) (by have h7 := heap_alloc_new (w2.alloc (.cells #[] 3)) (.cells #[.slice (some ⟨w2.heap.size, 0, none⟩) 0 0] 54); rwa [World.size_alloc] at h7)) ?c2 (by omega) ?c3 ?c4 ?c5 _ rfl ?_)
          case c2 => intro u hu; simp at hu; subst hu; rfl
          case c3 => unfold maxLen; omega
          case c4 => omega
          case c5 => simp only [World.size_alloc]; omega
          intro g7 cap7 u6 hown7 hgrow7 hat7 hlt7
          have hf6 : u6.frozen? ⟨BO, 0, none⟩ = false := (frozen_grown ((grown_alloc _ _).trans (grown_alloc _ _) |>.trans hgrow7) hbl (fun e => HW0.out.offA e.symm)).trans (HW0.out.bx.free 0)
          have hc6 : u6.cell? ⟨BO, 0, none⟩ = some (.slice A1 n c1) := (cell_grown ((grown_alloc _ _).trans (grown_alloc _ _) |>.trans hgrow7) hbl (fun e => HW0.out.offA e.symm)).trans HW0.out.bcell
          have HP9 := Lib.hid (HW0.out.more_lit (by omega) (by omega) hown7 hgrow7 (hat7.imp id (fun e => e.trans (by simp only [World.size_alloc]))))
          have HP8 : Hid (moreR xss 0 = xss ++ [[]]) := by unfold Hid; rw [HM0.out, if_pos (by rw [HYL.out]; exact HQ.out.symm)]
          clear hown7 hgrow7 hat7
          go_wp2_with fail
          go_meet
          exact ⟨_, _, _, _, by rw [HP8.out]; exact HP9.out.1, HP9.out.2⟩
        · have hqb : ((n : Int) == 0) = false := beq_false_of_ne (by omega)
          have hqd : decide ((n : Int) = 0) = false := decide_eq_false (by omega)
          have HQ := Lib.hid hq; clear hq
          have HP8 : Hid (moreR xss 0 = xss) := by unfold Hid; rw [HM0.out, if_neg (by rw [HYL.out]; exact fun e => HQ.out e.symm)]
          go_wp2_with fail
          go_meet
          exact ⟨A1, n, c1, g1, by rw [HP8.out]; exact HW0.out, Below.refl _ _⟩
      obtain ⟨A2, n2, c2, g2, hwu1, hbu1⟩ := hcut
      obtain ⟨u1, rfl⟩ : ∃ u1 : World, u1 = wc := ⟨_, rfl⟩
      have HWu1 := Lib.hid hwu1; have HBu1 := Lib.hid hbu1
      have hzu1 := hbu1.size
      clear hwu1 hbu1 o0 hbl HM0 HYL
      have hn2 : 0 < n2 := by have := HWu1.out.len; have := moreR_lt (xss := xss) (r := 0) (Nat.zero_le _); omega
      have hq0 := quasi_start HWin.out hbit0 hbit1
      have hl8 := hq0.1; have hl3 := ((hq0.2.2 0 _ (getD_of hq0.2.1)).1)
      have hn8 : n2 ≤ 8 := by have := HWu1.out.len; have := pushR_len (moreR xss 0) 0 bit; omega
      have hrl : ((moreR xss 0).getD 0 []).length ≤ 3 := (more_row (Nat.zero_le _) (fun k xs hk _ => ⟨(rowB_len (winB_row HWin.out hk)).2, fun x hx => rowB_elem (winB_row HWin.out hk) hx⟩)).1
      have HQ0 := Lib.hid hq0
      clear hq0 hl8 hl3
      obtain ⟨ga, xa, xn, xc, hAA, hx, hcell, hfrz, hrow, hlen, hgl, hgb, hlg, hnc, hcm⟩ := HWu1.out.get (q := 0) (by omega)
      (first | subst hAA | (simp only [Option.some.injEq, Addr.mk.injEq, and_true, true_and] at hAA; subst hAA))
      have o0 := HWu1.out.bcell
      have hbl := HWu1.out.bx.lt
      have hxg : some ga ≠ (Value.slice xa xn xc).ownBlock := fun e => HWu1.out.ow.off 0 _ ga hx rfl e.symm
      have hxb : some BO ≠ (Value.slice xa xn xc).ownBlock := fun e => HWu1.out.offR 0 _ hx e.symm
      have HKe : Hid (∀ w' : World, u1.grownBy w' (Value.slice xa xn xc).ownBlock → w'.cell? ⟨BO, 0, none⟩ = some (.slice (some ⟨ga, 0, none⟩) n2 c2) ∧ w'.cell? ⟨ga, 0, none⟩ = some (.slice xa xn xc) ∧ w'.frozen? ⟨ga, 0, none⟩ = false) := fun w' hg => ⟨(cell_grown hg hbl hxb).trans o0, (cell_grown hg hgl hxg).trans hcell, (frozen_grown hg hgl hxg).trans hfrz⟩
      have HX := Lib.hid hx; have HRow := Lib.hid hrow; have HLen := Lib.hid hlen
      have hxn3 : xn ≤ 3 := by omega
      clear hx hrow hlen hxg hxb hcell hfrz o0
      go_upto_region 6 with fail
      go_cut [] (fun wx => ∃ (g7 cap7 xn : Nat), Win XLO BO wx (some ⟨ga, 0, none⟩) n2 c2 (g2.set 0 (some ⟨g7, 0, none⟩, xn + 1, cap7)) (pushR (moreR xss 0) 0 bit) ∧ Below XLO u1 wx)
      case first =>
        refine wp_region_last (n := 10) (S := fun w' => w'.cell? ⟨BO, 0, none⟩ = some (.slice (some ⟨ga, 0, none⟩) n2 c2) ∧ w'.cell? ⟨ga, 0, none⟩ = some (.slice xa xn xc) ∧ w'.frozen? ⟨ga, 0, none⟩ = false) (by kernel_rfl) rfl (by kernel_rfl) (HKe.out _ (grown_drew _)) ?_
        intro hS; (try dsimp only at hS)
        simp only [List.take_succ_cons, List.take_zero, List.getElem_toArray, List.getElem_cons_succ, List.getElem_cons_zero]
        refine wpAnyH_take (i := 0) (v := ?v53x) rfl (by kernel_rfl) (by kernel_rfl) (by kernel_rfl) (fun _ _ _ h => h) (Or.inl ⟨by rfl, ?hy53x⟩) hS ?rest53x
        case hy53x => (intro w' hSw; (try dsimp only at hSw); go_simp; (try (with_reducible rfl)))
        (try simp only [Act.put, List.setIfInBounds_toArray, List.set_cons_zero, List.set_cons_succ, List.getElem_toArray, List.getElem_cons_succ, List.getElem_cons_zero])
        refine wpAnyH_take (i := 1) (v := ?v54x) rfl (by kernel_rfl) (by kernel_rfl) (by kernel_rfl) (fun _ _ _ h => h) (Or.inl ⟨by rfl, ?hy54x⟩) hS ?rest54x
        case hy54x => (intro w' hSw; (try dsimp only at hSw); go_simp; (try (with_reducible rfl)))
        (try simp only [Act.put, List.setIfInBounds_toArray, List.set_cons_zero, List.set_cons_succ, List.getElem_toArray, List.getElem_cons_succ, List.getElem_cons_zero])
        refine wpAnyH_take (i := 2) (v := ?v55x) rfl (by kernel_rfl) (by kernel_rfl) (by kernel_rfl) (fun _ _ _ h => h) (Or.inl ⟨by rfl, ?hy55x⟩) hS ?rest55x
        case hy55x => (intro w' hSw; (try dsimp only at hSw); go_simp; (try (with_reducible rfl)))
        (try simp only [Act.put, List.setIfInBounds_toArray, List.set_cons_zero, List.set_cons_succ, List.getElem_toArray, List.getElem_cons_succ, List.getElem_cons_zero])
        refine wpAnyH_take (i := 3) (v := ?v56x) rfl (by kernel_rfl) (by kernel_rfl) (by kernel_rfl) (fun _ _ _ h => h) (Or.inl ⟨by rfl, ?hy56x⟩) hS ?rest56x
        case hy56x => (intro w' hSw; (try dsimp only at hSw); go_simp; (try (with_reducible rfl)))
        (try simp only [Act.put, List.setIfInBounds_toArray, List.set_cons_zero, List.set_cons_succ, List.getElem_toArray, List.getElem_cons_succ, List.getElem_cons_zero])
        refine wpAnyH_take (i := 4) (v := ?v57x) rfl (by kernel_rfl) (by kernel_rfl) (by kernel_rfl) (fun _ _ _ h => h) (Or.inl ⟨by rfl, ?hy57x⟩) hS ?rest57x
        case hy57x => (intro w' hSw; (try dsimp only at hSw); go_simp; (try (with_reducible rfl)))
        (try simp only [Act.put, List.setIfInBounds_toArray, List.set_cons_zero, List.set_cons_succ, List.getElem_toArray, List.getElem_cons_succ, List.getElem_cons_zero])
        refine wpAnyH_take (i := 5) (v := ?v58x) rfl (by kernel_rfl) (by kernel_rfl) (by kernel_rfl) (fun _ _ _ h => h) (Or.inl ⟨by rfl, ?hy58x⟩) hS ?rest58x
        case hy58x => (intro w' hSw; (try dsimp only at hSw); go_simp; (try (with_reducible rfl)))
        (try simp only [Act.put, List.setIfInBounds_toArray, List.set_cons_zero, List.set_cons_succ, List.getElem_toArray, List.getElem_cons_succ, List.getElem_cons_zero])
        refine wpAnyH_take (i := 6) (v := ?v59x) rfl (by kernel_rfl) (by kernel_rfl) (by kernel_rfl) (fun _ _ _ h => h) (Or.inl ⟨by rfl, ?hy59x⟩) hS ?rest59x
        case hy59x => (intro w' hSw; (try dsimp only at hSw); go_simp; (try (with_reducible rfl)))
        (try simp only [Act.put, List.setIfInBounds_toArray, List.set_cons_zero, List.set_cons_succ, List.getElem_toArray, List.getElem_cons_succ, List.getElem_cons_zero])
        refine wpAnyH_ready (rs := [7]) (by kernel_rfl) (by simp) ?_
        refine AllReadyH.cons rfl (fun K hK => ?_) AllReadyH.nil
        (try dsimp only [List.getElem_toArray, List.getElem_cons_succ, List.getElem_cons_zero])
        go_simp
        refine hK.out _ _ (HKe.out _ ((grown_drew _).trans (grown_alloc _ _))) (fun hS9 => ?_)
        clear hK K hS; have hS := hS9; clear hS9; (try dsimp only at hS)
        (try simp only [Act.put, List.setIfInBounds_toArray, List.set_cons_zero, List.set_cons_succ, List.getElem_toArray, List.getElem_cons_succ, List.getElem_cons_zero])
        refine wpAnyH_ready (rs := [8]) (by kernel_rfl) (by simp) ?_
        refine AllReadyH.cons rfl (fun K hK => ?_) AllReadyH.nil
        (try dsimp only [List.getElem_toArray, List.getElem_cons_succ, List.getElem_cons_zero])
        (rw [if_pos (by rfl)]; refine wp_append_lies _ _ _ _ (by rfl) XLO 3 i1 _ 1 8 Try.underlying54 HI.out HI0.out HI1.out HI2.out rfl (by omega) _ xn (((moreR xss 0).getD 0 []).map (Value.int .i64)) (by rfl) ((HRow.out.alloc _).drew) ⟨u1.heap.size, 0, none⟩ 1 1 [.int .i64 bit] (by rfl) (by rfl) (World.news_of_block (cs := #[.int .i64 bit]) (t := 3) (fr := (0, 0)) (heap_alloc_new u1 _)) (by simp [Value.oneCell']) (by omega) (by simp only [maxLen]; omega) (by omega) (by simp only [World.size_alloc, World.size_drew]; omega) (u1.heap.size + 1) (by simp) ?_; intro g7 cap7 u6 hown7 hgrow7 hat7 hlt7)
        have hg7 : u1.grownBy u6 (Value.slice xa xn xc).ownBlock := ((grown_drew _).trans (grown_alloc _ _)).trans hgrow7
        refine hK.out _ _ (HKe.out _ hg7) (fun hS9 => ?_)
        clear hK K hS; have hS := hS9; clear hS9; (try dsimp only at hS)
        (try simp only [Act.put, List.setIfInBounds_toArray, List.set_cons_zero, List.set_cons_succ, List.getElem_toArray, List.getElem_cons_succ, List.getElem_cons_zero])
        refine wpAnyH_take (i := 9) (v := ?v60x) rfl (by kernel_rfl) (by kernel_rfl) (by kernel_rfl) (fun _ _ _ h => h) (Or.inl ⟨by rfl, ?hy60x⟩) hS ?rest60x
        case hy60x => (intro w' hSw; (try dsimp only at hSw); go_simp; (try (with_reducible rfl)))
        (try simp only [Act.put, List.setIfInBounds_toArray, List.set_cons_zero, List.set_cons_succ, List.getElem_toArray, List.getElem_cons_succ, List.getElem_cons_zero])
        refine wpAnyH_done (by kernel_rfl) ?_ _
        refine fun K hK => ?_
        go_simp
        refine hK.out _ _ ?_
        clear hK K
        have HP9 := Lib.hid (HWu1.out.pushed (v := bit) HX.out hown7 hg7 hat7)
        clear hown7 hgrow7 hat7
        go_wp2_with fail
        go_meet
        exact ⟨g7, cap7, xn, HP9.out.1, HP9.out.2⟩
      obtain ⟨gqu2, cqu2, xqu2, hwu2, hbu2⟩ := hcut
      obtain ⟨u2, rfl⟩ : ∃ u2 : World, u2 = wc := ⟨_, rfl⟩
      have HWu2 := Lib.hid hwu2; have HBu2 := Lib.hid hbu2
      have hzu2 := hbu2.size
      clear hwu2 hbu2 HKe HX HRow HLen hbl
      obtain ⟨A3, hA3⟩ : ∃ A3 : Option Addr, A3 = some ⟨ga, 0, none⟩ := ⟨_, rfl⟩
      obtain ⟨g3, hg3⟩ : ∃ g3, g3 = g2.set 0 (some ⟨gqu2, 0, none⟩, xqu2 + 1, cqu2) := ⟨_, rfl⟩
      have HW3 : Hid (Win XLO BO u2 A3 n2 c2 g3 (pushR (moreR xss 0) 0 bit)) := by rw [hA3, hg3]; exact HWu2.out
      have HB3 : Hid (Below XLO w2 u2) := HBu1.out.trans HBu2.out
      have HAR : Hid (addR xss bit = addGo 8 0 (pushR (moreR xss 0) 0 bit)) := by unfold Hid addR; rw [if_pos HDB.out]
      obtain ⟨zss, hzss⟩ : ∃ zss, zss = addGo 8 0 (pushR (moreR xss 0) 0 bit) := ⟨_, rfl⟩
      rw [← hzss] at HAR
      have HZ0 := Lib.hid hzss.symm
      clear hA3 hg3 HWu2 HWu1 HBu1 HBu2 hzss HW0 hrl hn2 hn8 hzu1 hzu2 hlg hnc hcm hgl hgb
      go_wp2_with fail
      go_loopw [7, 8] (fun rr bb wr => ∃ (r : Nat) (A1 : Option Addr) (n1 c1 : Nat) (g1 : List Hd) (yss : List (List Int)), rr = .int .i64 r ∧ Win XLO BO wr A1 n1 c1 g1 yss ∧ Below XLO w2 wr ∧ quasi r yss ∧ addGo (8 - r) r yss = zss) (fun rr _ _ => 8 - (intOf rr).toNat)
      case atStart => exact ⟨0, A3, n2, c2, g3, _, rfl, HW3.out, HB3.out, HQ0.out, HZ0.out⟩
      case round =>
        obtain ⟨r, A1, n1, c1, g1, yss, rfl, hw, hb, hq, hz⟩ := hrel
        obtain ⟨wo, rfl⟩ : ∃ wo : World, wo = wr := ⟨_, rfl⟩
        clear HW3 HB3 HQ0 HZ0
        have hyl := hw.len
        have hq1 := hq.1; have hq2 := hq.2.1
        have hrn : r < n1 := by omega
        have hn8 : n1 ≤ 8 := by omega
        have hr7 : r ≤ 7 := by omega
        have hzo := hb.size
        have h34 := (hq.2.2 r _ (getD_of hq2)).1
        obtain ⟨ga, xa, xn, xc, rfl, hx, hcell, hfrz, hrow, hlen, hgl, hgb, hlg, hnc, hcm⟩ := hw.get (q := r) hrn
        have hx4 : 1 ≤ xn ∧ xn ≤ 4 := by omega
        have o0 := hw.bcell
        have k0 : (0 : Int) ≤ (r : Int) := Int.natCast_nonneg _
        have k1 : (r : Int) < (n1 : Int) := by omega
        have hLdef : longB yss r = decide (3 < xn) := by unfold longB; rw [decide_eq_true hq2, Bool.true_and, hlen]
        have HWo := Lib.hid hw; have HBo := Lib.hid hb; have HQ := Lib.hid hq; have HZ := Lib.hid hz; have HL := Lib.hid hLdef; have HYL := Lib.hid hyl; have HX := Lib.hid hx; have HRow := Lib.hid hrow; have HLen := Lib.hid hlen
        clear hw hb hq hz hyl hLdef hx hrow hlen h34 hq1 hq2 hfrz
        by_cases hl4 : 3 < xn
        · have hlong : longB yss r = true := by rw [HL.out]; exact decide_eq_true hl4
          have HLong := Lib.hid hlong
          obtain ⟨gr, hxa, hgrl, hgrb, hgra, hlgr, hxnc, hxcm⟩ := HWo.out.blk HX.out HRow.out (by omega)
          subst hxa
          clear hlong
          by_cases h7 : r = 7
          · have HZ7 : Hid (yss.set r ((yss.getD r []).drop 1) = zss) := by
              unfold Hid
              have h := HZ.out
              rw [show 8 - r = 0 + 1 by omega] at h
              unfold addGo at h
              rw [if_pos HLong.out, if_pos h7] at h
              exact h
            have hrb : ((r : Int) == 7) = true := by rw [h7]; rfl
            have hrd : decide ((r : Int) = 7) = true := by rw [h7]; rfl
            have hri : (r : Int) = 7 := by omega
            have hr8 : (r : Int) < 8 := by omega
            have H7 := Lib.hid h7
            clear h7 hri
            obtain ⟨ga, xa, xn, xc, hAA, hx, hcell, hfrz, hrow, hlen, hgl, hgb, hlg, hnc, hcm⟩ := HWo.out.get (q := r) (by omega)
            (first | subst hAA | (simp only [Option.some.injEq, Addr.mk.injEq, and_true, true_and] at hAA; subst hAA))
            have hx4' : 3 ≤ xn ∧ xn ≤ 4 := by have := quasi_long HQ.out HLong.out; omega
            obtain ⟨gr, hxa, hgrl, hgrb, hgra, hlgr, hxnc, hxcm⟩ := HWo.out.blk hx hrow (by omega)
            subst hxa
            have o0 := HWo.out.bcell
            have hbl := HWo.out.bx.lt
            have HX := Lib.hid hx
            have HKe : Hid (∀ w' : World, wo.grownBy w' none → w'.cell? ⟨BO, 0, none⟩ = some (.slice (some ⟨ga, 0, none⟩) n1 c1) ∧ w'.cell? ⟨ga, r, none⟩ = some (.slice (some ⟨gr, 0, none⟩) xn xc) ∧ w'.frozen? ⟨ga, r, none⟩ = false) := fun w' hg => ⟨(cell_grown hg hbl (by simp)).trans o0, (cell_grown hg hgl (by simp)).trans hcell, (frozen_grown hg hgl (by simp)).trans hfrz⟩
            have HE : Hid ((wo.alloc (.cells #[] 3)).ownsRow wo.heap.size 3 1 (.slice (some ⟨wo.heap.size, 0, none⟩) 0 0) 0 []) := World.ownsRow_lit (base := wo.heap.size) (e := 3) (size := 1) wo #[] 0 (Nat.le_refl _) (by simp [maxLen]) rfl
            have HRE : Hid (Rd (wo.alloc (.cells #[] 3)).drew (some ⟨gr, 1, none⟩) (xn - 1) (((yss.getD r []).drop 1).map (Value.int .i64))) := (rd_dropj 1 (Rd.of_own hrow) (by omega)).below (((Below.refl _ _).alloc (Nat.le_refl _) _).drew) (Nat.le_refl _)
            have hcne : ¬ xc = 1 := by omega
            have hcne' : ¬ (xc : Int) = 1 := by omega
            have hj1 : (1 : Int) ≤ (xn : Int) := by omega
            have hj2 : (xn : Int) ≤ (xc : Int) := by omega
            have hj3 : 1 ≤ xn := by omega
            clear hx hrow hlen hcell hfrz o0
            go_upto_region 12 with fail
            go_cut [] (fun wx => ∃ (A2 : Option Addr) (n2 c2 : Nat), Win XLO BO wx (some ⟨ga, 0, none⟩) n1 c1 (g1.set r (A2, n2, c2)) (yss.set r ((yss.getD r []).drop 1)) ∧ Below XLO wo wx)
            case first =>
              refine wp_region_last (n := 12) (S := fun w' => w'.cell? ⟨BO, 0, none⟩ = some (.slice (some ⟨ga, 0, none⟩) n1 c1) ∧ w'.cell? ⟨ga, r, none⟩ = some (.slice (some ⟨gr, 0, none⟩) xn xc) ∧ w'.frozen? ⟨ga, r, none⟩ = false) (by kernel_rfl) rfl (by kernel_rfl) (HKe.out _ (grown_drew _)) ?_
              intro hS; (try dsimp only at hS)
              simp only [List.take_succ_cons, List.take_zero, List.getElem_toArray, List.getElem_cons_succ, List.getElem_cons_zero]
              refine wpAnyH_take (i := 0) (v := ?v61x) rfl (by kernel_rfl) (by kernel_rfl) (by kernel_rfl) (fun _ _ _ h => h) (Or.inl ⟨by rfl, ?hy61x⟩) hS ?rest61x
              case hy61x => (intro w' hSw; (try dsimp only at hSw); go_simp; (try (with_reducible rfl)))
              (try simp only [Act.put, List.setIfInBounds_toArray, List.set_cons_zero, List.set_cons_succ, List.getElem_toArray, List.getElem_cons_succ, List.getElem_cons_zero])
              refine wpAnyH_take (i := 1) (v := ?v62x) rfl (by kernel_rfl) (by kernel_rfl) (by kernel_rfl) (fun _ _ _ h => h) (Or.inl ⟨by rfl, ?hy62x⟩) hS ?rest62x
              case hy62x => (intro w' hSw; (try dsimp only at hSw); go_simp; (try (with_reducible rfl)))
              (try simp only [Act.put, List.setIfInBounds_toArray, List.set_cons_zero, List.set_cons_succ, List.getElem_toArray, List.getElem_cons_succ, List.getElem_cons_zero])
              refine wpAnyH_take (i := 2) (v := ?v63x) rfl (by kernel_rfl) (by kernel_rfl) (by kernel_rfl) (fun _ _ _ h => h) (Or.inl ⟨by rfl, ?hy63x⟩) hS ?rest63x
              case hy63x => (intro w' hSw; (try dsimp only at hSw); go_simp; (try (with_reducible rfl)))
              (try simp only [Act.put, List.setIfInBounds_toArray, List.set_cons_zero, List.set_cons_succ, List.getElem_toArray, List.getElem_cons_succ, List.getElem_cons_zero])
              refine wpAnyH_take (i := 4) (v := ?v64x) rfl (by kernel_rfl) (by kernel_rfl) (by kernel_rfl) (fun _ _ _ h => h) (Or.inl ⟨by rfl, ?hy64x⟩) hS ?rest64x
              case hy64x => (intro w' hSw; (try dsimp only at hSw); go_simp; (try (with_reducible rfl)))
              (try simp only [Act.put, List.setIfInBounds_toArray, List.set_cons_zero, List.set_cons_succ, List.getElem_toArray, List.getElem_cons_succ, List.getElem_cons_zero])
              refine wpAnyH_take (i := 5) (v := ?v65x) rfl (by kernel_rfl) (by kernel_rfl) (by kernel_rfl) (fun _ _ _ h => h) (Or.inl ⟨by rfl, ?hy65x⟩) hS ?rest65x
              case hy65x => (intro w' hSw; (try dsimp only at hSw); go_simp; (try (with_reducible rfl)))
              (try simp only [Act.put, List.setIfInBounds_toArray, List.set_cons_zero, List.set_cons_succ, List.getElem_toArray, List.getElem_cons_succ, List.getElem_cons_zero])
              refine wpAnyH_take (i := 6) (v := ?v66x) rfl (by kernel_rfl) (by kernel_rfl) (by kernel_rfl) (fun _ _ _ h => h) (Or.inl ⟨by rfl, ?hy66x⟩) hS ?rest66x
              case hy66x => (intro w' hSw; (try dsimp only at hSw); go_simp; (try (with_reducible rfl)))
              (try simp only [Act.put, List.setIfInBounds_toArray, List.set_cons_zero, List.set_cons_succ, List.getElem_toArray, List.getElem_cons_succ, List.getElem_cons_zero])
              refine wpAnyH_take (i := 7) (v := ?v67x) rfl (by kernel_rfl) (by kernel_rfl) (by kernel_rfl) (fun _ _ _ h => h) (Or.inl ⟨by rfl, ?hy67x⟩) hS ?rest67x
              case hy67x => (intro w' hSw; (try dsimp only at hSw); go_simp; (try (with_reducible rfl)))
              (try simp only [Act.put, List.setIfInBounds_toArray, List.set_cons_zero, List.set_cons_succ, List.getElem_toArray, List.getElem_cons_succ, List.getElem_cons_zero])
              refine wpAnyH_take (i := 8) (v := ?v68x) rfl (by kernel_rfl) (by kernel_rfl) (by kernel_rfl) (fun _ _ _ h => h) (Or.inl ⟨by rfl, ?hy68x⟩) hS ?rest68x
              case hy68x => (intro w' hSw; (try dsimp only at hSw); go_simp; (try (with_reducible rfl)))
              (try simp only [Act.put, List.setIfInBounds_toArray, List.set_cons_zero, List.set_cons_succ, List.getElem_toArray, List.getElem_cons_succ, List.getElem_cons_zero])
              refine wpAnyH_take (i := 9) (v := ?v69x) rfl (by kernel_rfl) (by kernel_rfl) (by kernel_rfl) (fun _ _ _ h => h) (Or.inl ⟨by rfl, ?hy69x⟩) hS ?rest69x
              case hy69x => (intro w' hSw; (try dsimp only at hSw); go_simp; (try (with_reducible rfl)))
              (try simp only [Act.put, List.setIfInBounds_toArray, List.set_cons_zero, List.set_cons_succ, List.getElem_toArray, List.getElem_cons_succ, List.getElem_cons_zero])
              refine wpAnyH_ready (rs := [3]) (by kernel_rfl) (by simp) ?_
              refine AllReadyH.cons rfl (fun K hK => ?_) AllReadyH.nil
              (try dsimp only [List.getElem_toArray, List.getElem_cons_succ, List.getElem_cons_zero])
              go_simp
              refine hK.out _ _ (HKe.out _ ((grown_drew _).trans (grown_alloc _ _))) (fun hS9 => ?_)
              clear hK K hS; have hS := hS9; clear hS9; (try dsimp only at hS)
              (try simp only [Act.put, List.setIfInBounds_toArray, List.set_cons_zero, List.set_cons_succ, List.getElem_toArray, List.getElem_cons_succ, List.getElem_cons_zero])
              refine wpAnyH_ready (rs := [10]) (by kernel_rfl) (by simp) ?_
              refine AllReadyH.cons rfl (fun K hK => ?_) AllReadyH.nil
              (try dsimp only [List.getElem_toArray, List.getElem_cons_succ, List.getElem_cons_zero])
              (rw [if_pos (by rfl)]; refine wp_append_rd _ _ _ (by rfl) wo.heap.size 3 i1 _ 8 Try.underlying54 HI.out HI0.out HI1.out HI2.out rfl wo.heap.size (by rfl) HE.out.drew (some ⟨gr, 1, none⟩) (xn - 1) _ (((yss.getD r []).drop 1).map (Value.int .i64)) (by rfl) HRE.out (i64_one _) (by unfold maxLen; omega) (by omega) (by show wo.heap.size ≤ (wo.alloc _).heap.size; rw [World.size_alloc]; omega) ?_; intro A2 c2 u3 hown3 hgrow3)
              have hg3 : wo.grownBy u3 none := grown_new ((grown_drew _).trans (grown_alloc _ _)) hgrow3 (Nat.le_refl _)
              refine hK.out _ _ (HKe.out _ hg3) (fun hS9 => ?_)
              clear hK K hS; have hS := hS9; clear hS9; (try dsimp only at hS)
              (try simp only [Act.put, List.setIfInBounds_toArray, List.set_cons_zero, List.set_cons_succ, List.getElem_toArray, List.getElem_cons_succ, List.getElem_cons_zero])
              refine wpAnyH_take (i := 11) (v := ?v70x) rfl (by kernel_rfl) (by kernel_rfl) (by kernel_rfl) (fun _ _ _ h => h) (Or.inl ⟨by rfl, ?hy70x⟩) hS ?rest70x
              case hy70x => (intro w' hSw; (try dsimp only at hSw); go_simp; (try (with_reducible rfl)))
              (try simp only [Act.put, List.setIfInBounds_toArray, List.set_cons_zero, List.set_cons_succ, List.getElem_toArray, List.getElem_cons_succ, List.getElem_cons_zero])
              refine wpAnyH_done (by kernel_rfl) ?_ _
              refine fun K hK => ?_
              go_simp
              refine hK.out _ _ ?_
              clear hK K
              have HY9 := Lib.hid (HWo.out.swapped HX.out hown3 hg3)
              clear hown3 hgrow3
              go_wp2_with fail
              go_meet
              exact ⟨A2, xn - 1, c2, HY9.out.1, HY9.out.2⟩
            obtain ⟨Adu5, ndu5, cdu5, hwu5, hbu5⟩ := hcut
            obtain ⟨u5, rfl⟩ : ∃ u5 : World, u5 = wc := ⟨_, rfl⟩
            have HWu5 := Lib.hid hwu5; have HBu5 := Lib.hid hbu5
            have hzu5 := hbu5.size
            clear hwu5 hbu5 HKe HE HRE hbl HX hcne hcne' hj1 hj2
            have HBu5' : Hid (Below XLO w2 u5) := HBo.out.trans HBu5.out
            have o0 := HWu5.out.bcell
            have r0 : u5.cell? ⟨w.heap.size + 1, 0, none⟩ = some (.slice none 0 0) := (HBu5'.out.cell (p := ⟨w.heap.size + 1, 0, none⟩) (show w.heap.size + 1 < _ by omega)).trans HR0.out
            have fr0 : u5.frozen? ⟨w.heap.size + 1, 0, none⟩ = false := (HBu5'.out.frozen (p := ⟨w.heap.size + 1, 0, none⟩) (show w.heap.size + 1 < _ by omega)).trans HR1.out
            have hfin : ∀ w9, w9 = u5.setCell ⟨w.heap.size + 1, 0, none⟩ (.slice (some ⟨ga, 0, none⟩) n1 c1) → OwSS w.heap.size w9.heap.size w9 (some ⟨ga, 0, none⟩) n1 c1 (g1.set r (Adu5, ndu5, cdu5)) (iss (addR xss bit)) ∧ Below w.heap.size w w9 := by
              intro w9 h9
              subst h9
              rw [HAR.out, ← HZ7.out]
              exact ⟨HWu5.out.fin (by omega) (by omega), Below.setCell (p := ⟨w.heap.size + 1, 0, none⟩) (HAc.out.trans (HBu5'.out.mono (by omega))) (by show w.heap.size ≤ w.heap.size + 1; omega) _⟩
            have HFin := Lib.hid hfin
            clear hfin
            go_wp2_with ((with_reducible refine bodyPost_ret (v := .tuple #[.agg #[.slice (some ⟨ga, 0, none⟩) n1 c1], .bool true]) ?k1 ?k2 ?k3); (case k1 => (simp [results, Try.results27, go_sem, r0, fr0])); (case k2 => rfl); (case k3 => (exact ⟨(some ⟨ga, 0, none⟩), n1, c1, (g1.set r (Adu5, ndu5, cdu5)), by rw [HDB.out], (HFin.out _ rfl).1, (HFin.out _ rfl).2⟩)))
          · have HZ8 : Hid (addGo (8 - (r + 1)) (r + 1) (shiftR yss r) = zss) := by
              unfold Hid
              have h := HZ.out
              rw [show 8 - r = (8 - (r + 1)) + 1 by omega] at h
              unfold addGo at h
              rw [if_pos HLong.out, if_neg h7] at h
              exact h
            have HQ8 := Lib.hid (quasi_step HQ.out HLong.out h7)
            have h4 := quasi_long HQ.out HLong.out
            have hn4 : xn = 4 := by have := HLen.out; omega
            subst hn4
            clear h4
            have hrb : ((r : Int) == 7) = false := beq_false_of_ne (by omega)
            have hrd : decide ((r : Int) = 7) = false := decide_eq_false (by omega)
            have hr8 : (r : Int) < 8 := by omega
            have hr6 : r ≤ 6 := by omega
            obtain ⟨q, hqr⟩ : ∃ q, q = r + 1 := ⟨_, rfl⟩
            have n3 : (r : Int) + 1 = (q : Int) := by omega
            have N2 : Hid (IntKind.i64.wrap ((r : Int) + 1) = (q : Int)) := by unfold Hid; rw [n3]; exact IntWalk.i64_in _ (by omega)
            have hqn : q ≤ n1 := by omega
            have hq7 : q ≤ 7 := by omega
            have hqr' : q ≠ r := by omega
            have HQR := Lib.hid hqr
            rw [← hqr] at HZ8 HQ8
            clear h7 hqr
            have m3 := n3
            clear n3
            obtain ⟨e0, he0⟩ : ∃ e0, e0 = (yss.getD r []).getD 0 0 := ⟨_, rfl⟩
            obtain ⟨e1, he1⟩ : ∃ e1, e1 = (yss.getD r []).getD 1 0 := ⟨_, rfl⟩
            obtain ⟨bo, hbo⟩ : ∃ bo, bo = bothOf (yss.getD r []) := ⟨_, rfl⟩
            have hbe : e0 + e1 = bo := by rw [he0, he1, hbo]; rfl
            have hbb := both_bd HQ.out HLong.out
            have hpb := (pw_bd (r := r + 1) (by omega)).2
            have N3 : IntKind.i64.wrap (e0 + e1) = bo := by rw [hbe]; exact IntWalk.i64_in _ (by rw [hbo]; omega)
            have h2g := two_getD (l := yss.getD r []) (by have := HLen.out; omega)
            have hc0 : wo.cell? ⟨gr, 0, none⟩ = some (.int .i64 e0) := by rw [HRow.out.cellAt 0 (by omega), List.getElem?_map, h2g.1, he0]; rfl
            have hc1 : wo.cell? ⟨gr, 1, none⟩ = some (.int .i64 e1) := by rw [HRow.out.cellAt 1 (by omega), List.getElem?_map, h2g.2, he1]; rfl
            have HBO := Lib.hid hbo
            have HKd : Hid (wo.drew.cell? ⟨BO, 0, none⟩ = some (.slice (some ⟨ga, 0, none⟩) n1 c1) ∧ wo.drew.cell? ⟨ga, r, none⟩ = some (.slice (some ⟨gr, 0, none⟩) 4 xc) ∧ wo.drew.cell? ⟨gr, 0, none⟩ = some (.int .i64 e0) ∧ wo.drew.cell? ⟨gr, 1, none⟩ = some (.int .i64 e1)) := ⟨o0, hcell, hc0, hc1⟩
            clear hbe hbb hpb he0 he1 hbo h2g hc0 hc1
            go_upto_region 13 with fail
            refine wp_region_held_drew (S := fun w' => w'.cell? ⟨BO, 0, none⟩ = some (.slice (some ⟨ga, 0, none⟩) n1 c1) ∧ w'.cell? ⟨ga, r, none⟩ = some (.slice (some ⟨gr, 0, none⟩) 4 xc) ∧ w'.cell? ⟨gr, 0, none⟩ = some (.int .i64 e0) ∧ w'.cell? ⟨gr, 1, none⟩ = some (.int .i64 e1)) (by kernel_rfl) (HKd.out) ?_
            intro hS; (try dsimp only at hS)
            refine wpAnyH_take (i := 0) (v := ?v71x) rfl (by kernel_rfl) (by kernel_rfl) (by kernel_rfl) (fun _ _ _ h => h) (Or.inl ⟨by rfl, ?hy71x⟩) hS ?rest71x
            case hy71x => (intro w' hSw; (try dsimp only at hSw); go_simp; (try (with_reducible rfl)))
            (try simp only [Act.put, List.setIfInBounds_toArray, List.set_cons_zero, List.set_cons_succ, List.getElem_toArray, List.getElem_cons_succ, List.getElem_cons_zero])
            refine wpAnyH_take (i := 1) (v := ?v72x) rfl (by kernel_rfl) (by kernel_rfl) (by kernel_rfl) (fun _ _ _ h => h) (Or.inl ⟨by rfl, ?hy72x⟩) hS ?rest72x
            case hy72x => (intro w' hSw; (try dsimp only at hSw); go_simp; (try (with_reducible rfl)))
            (try simp only [Act.put, List.setIfInBounds_toArray, List.set_cons_zero, List.set_cons_succ, List.getElem_toArray, List.getElem_cons_succ, List.getElem_cons_zero])
            refine wpAnyH_take (i := 2) (v := ?v73x) rfl (by kernel_rfl) (by kernel_rfl) (by kernel_rfl) (fun _ _ _ h => h) (Or.inl ⟨by rfl, ?hy73x⟩) hS ?rest73x
            case hy73x => (intro w' hSw; (try dsimp only at hSw); go_simp; (try (with_reducible rfl)))
            (try simp only [Act.put, List.setIfInBounds_toArray, List.set_cons_zero, List.set_cons_succ, List.getElem_toArray, List.getElem_cons_succ, List.getElem_cons_zero])
            refine wpAnyH_take (i := 3) (v := ?v74x) rfl (by kernel_rfl) (by kernel_rfl) (by kernel_rfl) (fun _ _ _ h => h) (Or.inl ⟨by rfl, ?hy74x⟩) hS ?rest74x
            case hy74x => (intro w' hSw; (try dsimp only at hSw); go_simp; (try (with_reducible rfl)))
            (try simp only [Act.put, List.setIfInBounds_toArray, List.set_cons_zero, List.set_cons_succ, List.getElem_toArray, List.getElem_cons_succ, List.getElem_cons_zero])
            refine wpAnyH_take (i := 4) (v := ?v75x) rfl (by kernel_rfl) (by kernel_rfl) (by kernel_rfl) (fun _ _ _ h => h) (Or.inl ⟨by rfl, ?hy75x⟩) hS ?rest75x
            case hy75x => (intro w' hSw; (try dsimp only at hSw); go_simp; (try (with_reducible rfl)))
            (try simp only [Act.put, List.setIfInBounds_toArray, List.set_cons_zero, List.set_cons_succ, List.getElem_toArray, List.getElem_cons_succ, List.getElem_cons_zero])
            refine wpAnyH_take (i := 5) (v := ?v76x) rfl (by kernel_rfl) (by kernel_rfl) (by kernel_rfl) (fun _ _ _ h => h) (Or.inl ⟨by rfl, ?hy76x⟩) hS ?rest76x
            case hy76x => (intro w' hSw; (try dsimp only at hSw); go_simp; (try (with_reducible rfl)))
            (try simp only [Act.put, List.setIfInBounds_toArray, List.set_cons_zero, List.set_cons_succ, List.getElem_toArray, List.getElem_cons_succ, List.getElem_cons_zero])
            refine wpAnyH_take (i := 6) (v := ?v77x) rfl (by kernel_rfl) (by kernel_rfl) (by kernel_rfl) (fun _ _ _ h => h) (Or.inl ⟨by rfl, ?hy77x⟩) hS ?rest77x
            case hy77x => (intro w' hSw; (try dsimp only at hSw); go_simp; (try (with_reducible rfl)))
            (try simp only [Act.put, List.setIfInBounds_toArray, List.set_cons_zero, List.set_cons_succ, List.getElem_toArray, List.getElem_cons_succ, List.getElem_cons_zero])
            refine wpAnyH_take (i := 7) (v := ?v78x) rfl (by kernel_rfl) (by kernel_rfl) (by kernel_rfl) (fun _ _ _ h => h) (Or.inl ⟨by rfl, ?hy78x⟩) hS ?rest78x
            case hy78x => (intro w' hSw; (try dsimp only at hSw); go_simp; (try (with_reducible rfl)))
            (try simp only [Act.put, List.setIfInBounds_toArray, List.set_cons_zero, List.set_cons_succ, List.getElem_toArray, List.getElem_cons_succ, List.getElem_cons_zero])
            refine wpAnyH_take (i := 8) (v := ?v79x) rfl (by kernel_rfl) (by kernel_rfl) (by kernel_rfl) (fun _ _ _ h => h) (Or.inl ⟨by rfl, ?hy79x⟩) hS ?rest79x
            case hy79x => (intro w' hSw; (try dsimp only at hSw); go_simp; (try (with_reducible rfl)))
            (try simp only [Act.put, List.setIfInBounds_toArray, List.set_cons_zero, List.set_cons_succ, List.getElem_toArray, List.getElem_cons_succ, List.getElem_cons_zero])
            refine wpAnyH_take (i := 9) (v := ?v80x) rfl (by kernel_rfl) (by kernel_rfl) (by kernel_rfl) (fun _ _ _ h => h) (Or.inl ⟨by rfl, ?hy80x⟩) hS ?rest80x
            case hy80x => (intro w' hSw; (try dsimp only at hSw); go_simp; (try (with_reducible rfl)))
            (try simp only [Act.put, List.setIfInBounds_toArray, List.set_cons_zero, List.set_cons_succ, List.getElem_toArray, List.getElem_cons_succ, List.getElem_cons_zero])
            refine wpAnyH_take (i := 10) (v := ?v81x) rfl (by kernel_rfl) (by kernel_rfl) (by kernel_rfl) (fun _ _ _ h => h) (Or.inl ⟨by rfl, ?hy81x⟩) hS ?rest81x
            case hy81x => (intro w' hSw; (try dsimp only at hSw); go_simp; (try (with_reducible rfl)))
            (try simp only [Act.put, List.setIfInBounds_toArray, List.set_cons_zero, List.set_cons_succ, List.getElem_toArray, List.getElem_cons_succ, List.getElem_cons_zero])
            refine wpAnyH_take (i := 11) (v := ?v82x) rfl (by kernel_rfl) (by kernel_rfl) (by kernel_rfl) (fun _ _ _ h => h) (Or.inl ⟨by rfl, ?hy82x⟩) hS ?rest82x
            case hy82x => (intro w' hSw; (try dsimp only at hSw); go_simp; (try (with_reducible rfl)))
            (try simp only [Act.put, List.setIfInBounds_toArray, List.set_cons_zero, List.set_cons_succ, List.getElem_toArray, List.getElem_cons_succ, List.getElem_cons_zero])
            refine wpAnyH_take (i := 12) (v := ?v83x) rfl (by kernel_rfl) (by kernel_rfl) (by kernel_rfl) (fun _ _ _ h => h) (Or.inl ⟨by rfl, ?hy83x⟩) hS ?rest83x
            case hy83x => (intro w' hSw; (try dsimp only at hSw); go_simp; (try (with_reducible rfl)))
            (try simp only [Act.put, List.setIfInBounds_toArray, List.set_cons_zero, List.set_cons_succ, List.getElem_toArray, List.getElem_cons_succ, List.getElem_cons_zero])
            refine wpAnyH_take (i := 13) (v := ?v84x) rfl (by kernel_rfl) (by kernel_rfl) (by kernel_rfl) (fun _ _ _ h => h) (Or.inl ⟨by rfl, ?hy84x⟩) hS ?rest84x
            case hy84x => (intro w' hSw; (try dsimp only at hSw); go_simp; (try (with_reducible rfl)))
            (try simp only [Act.put, List.setIfInBounds_toArray, List.set_cons_zero, List.set_cons_succ, List.getElem_toArray, List.getElem_cons_succ, List.getElem_cons_zero])
            refine wpAnyH_take (i := 14) (v := ?v85x) rfl (by kernel_rfl) (by kernel_rfl) (by kernel_rfl) (fun _ _ _ h => h) (Or.inl ⟨by rfl, ?hy85x⟩) hS ?rest85x
            case hy85x => (intro w' hSw; (try dsimp only at hSw); go_simp; (try (with_reducible rfl)))
            (try simp only [Act.put, List.setIfInBounds_toArray, List.set_cons_zero, List.set_cons_succ, List.getElem_toArray, List.getElem_cons_succ, List.getElem_cons_zero])
            refine wpAnyH_take (i := 15) (v := ?v86x) rfl (by kernel_rfl) (by kernel_rfl) (by kernel_rfl) (fun _ _ _ h => h) (Or.inl ⟨by rfl, ?hy86x⟩) hS ?rest86x
            case hy86x => (intro w' hSw; (try dsimp only at hSw); go_simp; (try (with_reducible rfl)))
            (try simp only [Act.put, List.setIfInBounds_toArray, List.set_cons_zero, List.set_cons_succ, List.getElem_toArray, List.getElem_cons_succ, List.getElem_cons_zero])
            refine wpAnyH_done (by kernel_rfl) ?_ _
            have HWd := Lib.hid HWo.out.drew
            have HBd : Hid (Below XLO w2 wo.drew) := HBo.out.drew
            clear hS HKd hcell o0 N3
            generalize wo.drew = wd at HWd HBd ⊢
            have hzd := HBd.out.size
            obtain ⟨ga, xa, xn, xc, hAA, hx, hcell, hfrz, hrow, hlen, hgl, hgb, hlg, hnc, hcm⟩ := HWd.out.get (q := r) (by omega)
            (first | subst hAA | (simp only [Option.some.injEq, Addr.mk.injEq, and_true, true_and] at hAA; subst hAA))
            have hx4' : 3 ≤ xn ∧ xn ≤ 4 := by have := HLen.out; omega
            obtain ⟨gr, hxa, hgrl, hgrb, hgra, hlgr, hxnc, hxcm⟩ := HWd.out.blk hx hrow (by omega)
            subst hxa
            have o0 := HWd.out.bcell
            have hbl := HWd.out.bx.lt
            have HX := Lib.hid hx
            have HKe : Hid (∀ w' : World, wd.grownBy w' none → w'.cell? ⟨BO, 0, none⟩ = some (.slice (some ⟨ga, 0, none⟩) n1 c1) ∧ w'.cell? ⟨ga, r, none⟩ = some (.slice (some ⟨gr, 0, none⟩) xn xc) ∧ w'.frozen? ⟨ga, r, none⟩ = false) := fun w' hg => ⟨(cell_grown hg hbl (by simp)).trans o0, (cell_grown hg hgl (by simp)).trans hcell, (frozen_grown hg hgl (by simp)).trans hfrz⟩
            have HE : Hid ((wd.alloc (.cells #[] 3)).ownsRow wd.heap.size 3 1 (.slice (some ⟨wd.heap.size, 0, none⟩) 0 0) 0 []) := World.ownsRow_lit (base := wd.heap.size) (e := 3) (size := 1) wd #[] 0 (Nat.le_refl _) (by simp [maxLen]) rfl
            have HRE : Hid (Rd (wd.alloc (.cells #[] 3)).drew (some ⟨gr, 2, none⟩) (xn - 2) (((yss.getD r []).drop 2).map (Value.int .i64))) := (rd_dropj 2 (Rd.of_own hrow) (by omega)).below (((Below.refl _ _).alloc (Nat.le_refl _) _).drew) (Nat.le_refl _)
            have hcne : ¬ xc = 2 := by omega
            have hcne' : ¬ (xc : Int) = 2 := by omega
            have hj1 : (2 : Int) ≤ (xn : Int) := by omega
            have hj2 : (xn : Int) ≤ (xc : Int) := by omega
            have hj3 : 2 ≤ xn := by omega
            clear hx hrow hlen hcell hfrz o0
            go_upto_region 14 with fail
            go_cut [] (fun wx => ∃ (A2 : Option Addr) (n2 c2 : Nat), Win XLO BO wx (some ⟨ga, 0, none⟩) n1 c1 (g1.set r (A2, n2, c2)) (yss.set r ((yss.getD r []).drop 2)) ∧ Below XLO wd wx)
            case first =>
              refine wp_region_last (n := 12) (S := fun w' => w'.cell? ⟨BO, 0, none⟩ = some (.slice (some ⟨ga, 0, none⟩) n1 c1) ∧ w'.cell? ⟨ga, r, none⟩ = some (.slice (some ⟨gr, 0, none⟩) xn xc) ∧ w'.frozen? ⟨ga, r, none⟩ = false) (by kernel_rfl) rfl (by kernel_rfl) (HKe.out _ (grown_drew _)) ?_
              intro hS; (try dsimp only at hS)
              simp only [List.take_succ_cons, List.take_zero, List.getElem_toArray, List.getElem_cons_succ, List.getElem_cons_zero]
              refine wpAnyH_take (i := 0) (v := ?v87x) rfl (by kernel_rfl) (by kernel_rfl) (by kernel_rfl) (fun _ _ _ h => h) (Or.inl ⟨by rfl, ?hy87x⟩) hS ?rest87x
              case hy87x => (intro w' hSw; (try dsimp only at hSw); go_simp; (try (with_reducible rfl)))
              (try simp only [Act.put, List.setIfInBounds_toArray, List.set_cons_zero, List.set_cons_succ, List.getElem_toArray, List.getElem_cons_succ, List.getElem_cons_zero])
              refine wpAnyH_take (i := 1) (v := ?v88x) rfl (by kernel_rfl) (by kernel_rfl) (by kernel_rfl) (fun _ _ _ h => h) (Or.inl ⟨by rfl, ?hy88x⟩) hS ?rest88x
              case hy88x => (intro w' hSw; (try dsimp only at hSw); go_simp; (try (with_reducible rfl)))
              (try simp only [Act.put, List.setIfInBounds_toArray, List.set_cons_zero, List.set_cons_succ, List.getElem_toArray, List.getElem_cons_succ, List.getElem_cons_zero])
              refine wpAnyH_take (i := 2) (v := ?v89x) rfl (by kernel_rfl) (by kernel_rfl) (by kernel_rfl) (fun _ _ _ h => h) (Or.inl ⟨by rfl, ?hy89x⟩) hS ?rest89x
              case hy89x => (intro w' hSw; (try dsimp only at hSw); go_simp; (try (with_reducible rfl)))
              (try simp only [Act.put, List.setIfInBounds_toArray, List.set_cons_zero, List.set_cons_succ, List.getElem_toArray, List.getElem_cons_succ, List.getElem_cons_zero])
              refine wpAnyH_take (i := 4) (v := ?v90x) rfl (by kernel_rfl) (by kernel_rfl) (by kernel_rfl) (fun _ _ _ h => h) (Or.inl ⟨by rfl, ?hy90x⟩) hS ?rest90x
              case hy90x => (intro w' hSw; (try dsimp only at hSw); go_simp; (try (with_reducible rfl)))
              (try simp only [Act.put, List.setIfInBounds_toArray, List.set_cons_zero, List.set_cons_succ, List.getElem_toArray, List.getElem_cons_succ, List.getElem_cons_zero])
              refine wpAnyH_take (i := 5) (v := ?v91x) rfl (by kernel_rfl) (by kernel_rfl) (by kernel_rfl) (fun _ _ _ h => h) (Or.inl ⟨by rfl, ?hy91x⟩) hS ?rest91x
              case hy91x => (intro w' hSw; (try dsimp only at hSw); go_simp; (try (with_reducible rfl)))
              (try simp only [Act.put, List.setIfInBounds_toArray, List.set_cons_zero, List.set_cons_succ, List.getElem_toArray, List.getElem_cons_succ, List.getElem_cons_zero])
              refine wpAnyH_take (i := 6) (v := ?v92x) rfl (by kernel_rfl) (by kernel_rfl) (by kernel_rfl) (fun _ _ _ h => h) (Or.inl ⟨by rfl, ?hy92x⟩) hS ?rest92x
              case hy92x => (intro w' hSw; (try dsimp only at hSw); go_simp; (try (with_reducible rfl)))
              (try simp only [Act.put, List.setIfInBounds_toArray, List.set_cons_zero, List.set_cons_succ, List.getElem_toArray, List.getElem_cons_succ, List.getElem_cons_zero])
              refine wpAnyH_take (i := 7) (v := ?v93x) rfl (by kernel_rfl) (by kernel_rfl) (by kernel_rfl) (fun _ _ _ h => h) (Or.inl ⟨by rfl, ?hy93x⟩) hS ?rest93x
              case hy93x => (intro w' hSw; (try dsimp only at hSw); go_simp; (try (with_reducible rfl)))
              (try simp only [Act.put, List.setIfInBounds_toArray, List.set_cons_zero, List.set_cons_succ, List.getElem_toArray, List.getElem_cons_succ, List.getElem_cons_zero])
              refine wpAnyH_take (i := 8) (v := ?v94x) rfl (by kernel_rfl) (by kernel_rfl) (by kernel_rfl) (fun _ _ _ h => h) (Or.inl ⟨by rfl, ?hy94x⟩) hS ?rest94x
              case hy94x => (intro w' hSw; (try dsimp only at hSw); go_simp; (try (with_reducible rfl)))
              (try simp only [Act.put, List.setIfInBounds_toArray, List.set_cons_zero, List.set_cons_succ, List.getElem_toArray, List.getElem_cons_succ, List.getElem_cons_zero])
              refine wpAnyH_take (i := 9) (v := ?v95x) rfl (by kernel_rfl) (by kernel_rfl) (by kernel_rfl) (fun _ _ _ h => h) (Or.inl ⟨by rfl, ?hy95x⟩) hS ?rest95x
              case hy95x => (intro w' hSw; (try dsimp only at hSw); go_simp; (try (with_reducible rfl)))
              (try simp only [Act.put, List.setIfInBounds_toArray, List.set_cons_zero, List.set_cons_succ, List.getElem_toArray, List.getElem_cons_succ, List.getElem_cons_zero])
              refine wpAnyH_ready (rs := [3]) (by kernel_rfl) (by simp) ?_
              refine AllReadyH.cons rfl (fun K hK => ?_) AllReadyH.nil
              (try dsimp only [List.getElem_toArray, List.getElem_cons_succ, List.getElem_cons_zero])
              go_simp
              refine hK.out _ _ (HKe.out _ ((grown_drew _).trans (grown_alloc _ _))) (fun hS9 => ?_)
              clear hK K hS; have hS := hS9; clear hS9; (try dsimp only at hS)
              (try simp only [Act.put, List.setIfInBounds_toArray, List.set_cons_zero, List.set_cons_succ, List.getElem_toArray, List.getElem_cons_succ, List.getElem_cons_zero])
              refine wpAnyH_ready (rs := [10]) (by kernel_rfl) (by simp) ?_
              refine AllReadyH.cons rfl (fun K hK => ?_) AllReadyH.nil
              (try dsimp only [List.getElem_toArray, List.getElem_cons_succ, List.getElem_cons_zero])
              (rw [if_pos (by rfl)]; refine wp_append_rd _ _ _ (by rfl) wd.heap.size 3 i1 _ 8 Try.underlying54 HI.out HI0.out HI1.out HI2.out rfl wd.heap.size (by rfl) HE.out.drew (some ⟨gr, 2, none⟩) (xn - 2) _ (((yss.getD r []).drop 2).map (Value.int .i64)) (by rfl) HRE.out (i64_one _) (by unfold maxLen; omega) (by omega) (by show wd.heap.size ≤ (wd.alloc _).heap.size; rw [World.size_alloc]; omega) ?_; intro A2 c2 u3 hown3 hgrow3)
              have hg3 : wd.grownBy u3 none := grown_new ((grown_drew _).trans (grown_alloc _ _)) hgrow3 (Nat.le_refl _)
              refine hK.out _ _ (HKe.out _ hg3) (fun hS9 => ?_)
              clear hK K hS; have hS := hS9; clear hS9; (try dsimp only at hS)
              (try simp only [Act.put, List.setIfInBounds_toArray, List.set_cons_zero, List.set_cons_succ, List.getElem_toArray, List.getElem_cons_succ, List.getElem_cons_zero])
              refine wpAnyH_take (i := 11) (v := ?v96x) rfl (by kernel_rfl) (by kernel_rfl) (by kernel_rfl) (fun _ _ _ h => h) (Or.inl ⟨by rfl, ?hy96x⟩) hS ?rest96x
              case hy96x => (intro w' hSw; (try dsimp only at hSw); go_simp; (try (with_reducible rfl)))
              (try simp only [Act.put, List.setIfInBounds_toArray, List.set_cons_zero, List.set_cons_succ, List.getElem_toArray, List.getElem_cons_succ, List.getElem_cons_zero])
              refine wpAnyH_done (by kernel_rfl) ?_ _
              refine fun K hK => ?_
              go_simp
              refine hK.out _ _ ?_
              clear hK K
              have HY9 := Lib.hid (HWd.out.swapped HX.out hown3 hg3)
              clear hown3 hgrow3
              go_wp2_with fail
              go_meet
              exact ⟨A2, xn - 2, c2, HY9.out.1, HY9.out.2⟩
            obtain ⟨Adu4, ndu4, cdu4, hwu4, hbu4⟩ := hcut
            obtain ⟨u4, rfl⟩ : ∃ u4 : World, u4 = wc := ⟨_, rfl⟩
            have HWu4 := Lib.hid hwu4; have HBu4 := Lib.hid hbu4
            have hzu4 := hbu4.size
            clear hwu4 hbu4 HKe HE HRE hbl HX hcne hcne' hj1 hj2
            obtain ⟨zs, hzs⟩ : ∃ zs, zs = yss.set r ((yss.getD r []).drop 2) := ⟨_, rfl⟩
            rw [← hzs] at HWu4
            obtain ⟨g4, hg4⟩ : ∃ g4, g4 = g1.set r (Adu4, ndu4, cdu4) := ⟨_, rfl⟩
            rw [← hg4] at HWu4
            clear hg4
            have HZS := Lib.hid hzs
            have HZk : Hid (∀ (k : Nat) (xs : List Int), zs[k]? = some xs → k = q → xs.length ≤ 3 ∧ ∀ x ∈ xs, 0 ≤ x ∧ x ≤ pw k) := by
              intro k xs hk hkq
              rw [hzs, List.getElem?_set_ne (by omega)] at hk
              obtain ⟨⟨d1, d2⟩, d3⟩ := HQ.out.2.2 k xs hk
              exact ⟨by omega, d3⟩
            clear hzs
            have hbl := HWu4.out.bx.lt
            have o0 := HWu4.out.bcell
            have hm0 : moreR zs q = if q = zs.length then zs ++ [[]] else zs := rfl
            have HM0 := Lib.hid hm0
            have HYL := Lib.hid HWu4.out.len
            clear hm0
            go_upto_if 104 with fail
            go_cut [] (fun wx => ∃ (A2 : Option Addr) (n2 c2 : Nat) (g2 : List Hd), Win XLO BO wx A2 n2 c2 g2 (moreR zs q) ∧ Below XLO u4 wx)
            case first =>
              by_cases hq : q = n1
              · have hqb : ((q : Int) == (n1 : Int)) = true := by simp [hq]
                have hqd : decide ((q : Int) = (n1 : Int)) = true := by simp [hq]
                have hqN := decide_eq_true hq; have HQe := Lib.hid hq; clear hq
                go_wp2_with (at_builtin; refine wpList_append_lies _ rfl _ _ 24 rfl XLO 54 i0 _ 1 24 Try.underlying24 HJ.out HJ0.out HJ1.out HJ2.out rfl (by decide) (.slice (some ⟨ga, 0, none⟩) n1 c1) n1 (g4.map hdV) rfl ((HWu4.out.ow.hd.own.alloc _).alloc _) ⟨u4.heap.size + 1, 0, none⟩ 1 1 [.slice (some ⟨u4.heap.size, 0, none⟩) 0 0] rfl rfl (World.news_of_block (cs := #[.slice (some ⟨u4.heap.size, 0, none⟩) 0 0]) (t := 54) (fr := (0, 0)) (by have h7 := heap_alloc_new (u4.alloc (.cells #[] 3)) (.cells #[.slice (some ⟨u4.heap.size, 0, none⟩) 0 0] 54); rwa [World.size_alloc] at h7)) ?c2 (by omega) ?c3 ?c4 ?c5 _ rfl ?_)
                case c2 => intro u hu; simp at hu; subst hu; rfl
                case c3 => unfold maxLen; omega
                case c4 => omega
                case c5 => simp only [World.size_alloc]; omega
                intro g7 cap7 u6 hown7 hgrow7 hat7 hlt7
                have hf6 : u6.frozen? ⟨BO, 0, none⟩ = false := (frozen_grown ((grown_alloc _ _).trans (grown_alloc _ _) |>.trans hgrow7) hbl (fun e => HWu4.out.offA e.symm)).trans (HWu4.out.bx.free 0)
                have hc6 : u6.cell? ⟨BO, 0, none⟩ = some (.slice (some ⟨ga, 0, none⟩) n1 c1) := (cell_grown ((grown_alloc _ _).trans (grown_alloc _ _) |>.trans hgrow7) hbl (fun e => HWu4.out.offA e.symm)).trans HWu4.out.bcell
                have HP9 := Lib.hid (HWu4.out.more_lit (by omega) (by omega) hown7 hgrow7 (hat7.imp id (fun e => e.trans (by simp only [World.size_alloc]))))
                have HP8 : Hid (moreR zs q = zs ++ [[]]) := by unfold Hid; rw [HM0.out, if_pos (by rw [HYL.out]; exact HQe.out)]
                clear hown7 hgrow7 hat7
                go_wp2_with fail
                go_meet
                exact ⟨_, _, _, _, by rw [HP8.out]; exact HP9.out.1, HP9.out.2⟩
              · have hqb : ((q : Int) == (n1 : Int)) = false := beq_false_of_ne (by omega)
                have hqd : decide ((q : Int) = (n1 : Int)) = false := decide_eq_false (by omega)
                have hqN := decide_eq_false hq; have HQe := Lib.hid hq; clear hq
                have HP8 : Hid (moreR zs q = zs) := by unfold Hid; rw [HM0.out, if_neg (by rw [HYL.out]; exact HQe.out)]
                go_wp2_with fail
                go_meet
                exact ⟨(some ⟨ga, 0, none⟩), n1, c1, g4, by rw [HP8.out]; exact HWu4.out, Below.refl _ _⟩
            obtain ⟨A2, n2, c2, g2, hwu5, hbu5⟩ := hcut
            obtain ⟨u5, rfl⟩ : ∃ u5 : World, u5 = wc := ⟨_, rfl⟩
            have HWu5 := Lib.hid hwu5; have HBu5 := Lib.hid hbu5
            have hzu5 := hbu5.size
            clear hwu5 hbu5 o0 hbl HM0 HYL
            have hm3 : (moreR zs q).length = n2 := HWu5.out.len
            have hyl : zs.length = n1 := HWu4.out.len
            have hml := moreR_len (xss := zs) (r := q) (by omega)
            have hm5 : q < n2 := by have := moreR_lt (xss := zs) (r := q) (by omega); omega
            have hm4 : n1 ≤ n2 := by split at hml <;> omega
            have hm6 : n2 ≤ 8 := by split at hml <;> omega
            have hqy : q ≤ zs.length := by omega
            clear hyl hml hm3
            have hrq : ((moreR zs q).getD q []).length ≤ 3 := (more_row hqy (fun k xs h1 h2 => HZk.out k xs h1 h2)).1
            have N2' : IntKind.i64.wrap (q : Int) = (q : Int) := IntWalk.i64_in _ (by omega)
            have N2'' := N2.out
            have hq0i : (0 : Int) ≤ (q : Int) := Int.natCast_nonneg _
            have hqni : (q : Int) < (n2 : Int) := by omega
            have hrn2 : r < n2 := by omega
            obtain ⟨ga, xa, xn, xc, hAA, hx, hcell, hfrz, hrow, hlen, hgl, hgb, hlg, hnc, hcm⟩ := HWu5.out.get (q := q) (by omega)
            (first | subst hAA | (simp only [Option.some.injEq, Addr.mk.injEq, and_true, true_and] at hAA; subst hAA))
            have o0 := HWu5.out.bcell
            have hbl := HWu5.out.bx.lt
            have hxg : some ga ≠ (Value.slice xa xn xc).ownBlock := fun e => HWu5.out.ow.off q _ ga hx rfl e.symm
            have hxb : some BO ≠ (Value.slice xa xn xc).ownBlock := fun e => HWu5.out.offR q _ hx e.symm
            have HKe : Hid (∀ w' : World, u5.grownBy w' (Value.slice xa xn xc).ownBlock → w'.cell? ⟨BO, 0, none⟩ = some (.slice (some ⟨ga, 0, none⟩) n2 c2) ∧ w'.cell? ⟨ga, q, none⟩ = some (.slice xa xn xc) ∧ w'.frozen? ⟨ga, q, none⟩ = false) := fun w' hg => ⟨(cell_grown hg hbl hxb).trans o0, (cell_grown hg hgl hxg).trans hcell, (frozen_grown hg hgl hxg).trans hfrz⟩
            have HX := Lib.hid hx; have HRow := Lib.hid hrow; have HLen := Lib.hid hlen
            have hxn3 : xn ≤ 3 := by omega
            clear hx hrow hlen hxg hxb hcell hfrz o0
            go_upto_region 17 with fail
            refine wp_region_last (n := 14) (S := fun w' => w'.cell? ⟨BO, 0, none⟩ = some (.slice (some ⟨ga, 0, none⟩) n2 c2) ∧ w'.cell? ⟨ga, q, none⟩ = some (.slice xa xn xc) ∧ w'.frozen? ⟨ga, q, none⟩ = false) (by kernel_rfl) rfl (by kernel_rfl) (HKe.out _ (grown_drew _)) ?_
            intro hS; (try dsimp only at hS)
            simp only [List.take_succ_cons, List.take_zero, List.getElem_toArray, List.getElem_cons_succ, List.getElem_cons_zero]
            refine wpAnyH_take (i := 0) (v := ?v97x) rfl (by kernel_rfl) (by kernel_rfl) (by kernel_rfl) (fun _ _ _ h => h) (Or.inl ⟨by rfl, ?hy97x⟩) hS ?rest97x
            case hy97x => (intro w' hSw; (try dsimp only at hSw); go_simp; (try (with_reducible rfl)))
            (try simp only [Act.put, List.setIfInBounds_toArray, List.set_cons_zero, List.set_cons_succ, List.getElem_toArray, List.getElem_cons_succ, List.getElem_cons_zero])
            refine wpAnyH_take (i := 1) (v := ?v98x) rfl (by kernel_rfl) (by kernel_rfl) (by kernel_rfl) (fun _ _ _ h => h) (Or.inl ⟨by rfl, ?hy98x⟩) hS ?rest98x
            case hy98x => (intro w' hSw; (try dsimp only at hSw); go_simp; (try (with_reducible rfl)))
            (try simp only [Act.put, List.setIfInBounds_toArray, List.set_cons_zero, List.set_cons_succ, List.getElem_toArray, List.getElem_cons_succ, List.getElem_cons_zero])
            refine wpAnyH_take (i := 2) (v := ?v99x) rfl (by kernel_rfl) (by kernel_rfl) (by kernel_rfl) (fun _ _ _ h => h) (Or.inl ⟨by rfl, ?hy99x⟩) hS ?rest99x
            case hy99x => (intro w' hSw; (try dsimp only at hSw); go_simp; (try (with_reducible rfl)))
            (try simp only [Act.put, List.setIfInBounds_toArray, List.set_cons_zero, List.set_cons_succ, List.getElem_toArray, List.getElem_cons_succ, List.getElem_cons_zero])
            refine wpAnyH_take (i := 3) (v := ?v100x) rfl (by kernel_rfl) (by kernel_rfl) (by kernel_rfl) (fun _ _ _ h => h) (Or.inl ⟨by rfl, ?hy100x⟩) hS ?rest100x
            case hy100x => (intro w' hSw; (try dsimp only at hSw); go_simp; (try (with_reducible rfl)))
            (try simp only [Act.put, List.setIfInBounds_toArray, List.set_cons_zero, List.set_cons_succ, List.getElem_toArray, List.getElem_cons_succ, List.getElem_cons_zero])
            refine wpAnyH_take (i := 4) (v := ?v101x) rfl (by kernel_rfl) (by kernel_rfl) (by kernel_rfl) (fun _ _ _ h => h) (Or.inl ⟨by rfl, ?hy101x⟩) hS ?rest101x
            case hy101x => (intro w' hSw; (try dsimp only at hSw); go_simp; (try (with_reducible rfl)))
            (try simp only [Act.put, List.setIfInBounds_toArray, List.set_cons_zero, List.set_cons_succ, List.getElem_toArray, List.getElem_cons_succ, List.getElem_cons_zero])
            refine wpAnyH_take (i := 5) (v := ?v102x) rfl (by kernel_rfl) (by kernel_rfl) (by kernel_rfl) (fun _ _ _ h => h) (Or.inl ⟨by rfl, ?hy102x⟩) hS ?rest102x
            case hy102x => (intro w' hSw; (try dsimp only at hSw); go_simp; (try (with_reducible rfl)))
            (try simp only [Act.put, List.setIfInBounds_toArray, List.set_cons_zero, List.set_cons_succ, List.getElem_toArray, List.getElem_cons_succ, List.getElem_cons_zero])
            refine wpAnyH_take (i := 6) (v := ?v103x) rfl (by kernel_rfl) (by kernel_rfl) (by kernel_rfl) (fun _ _ _ h => h) (Or.inl ⟨by rfl, ?hy103x⟩) hS ?rest103x
            case hy103x => (intro w' hSw; (try dsimp only at hSw); go_simp; (try (with_reducible rfl)))
            (try simp only [Act.put, List.setIfInBounds_toArray, List.set_cons_zero, List.set_cons_succ, List.getElem_toArray, List.getElem_cons_succ, List.getElem_cons_zero])
            refine wpAnyH_take (i := 7) (v := ?v104x) rfl (by kernel_rfl) (by kernel_rfl) (by kernel_rfl) (fun _ _ _ h => h) (Or.inl ⟨by rfl, ?hy104x⟩) hS ?rest104x
            case hy104x => (intro w' hSw; (try dsimp only at hSw); go_simp; (try (with_reducible rfl)))
            (try simp only [Act.put, List.setIfInBounds_toArray, List.set_cons_zero, List.set_cons_succ, List.getElem_toArray, List.getElem_cons_succ, List.getElem_cons_zero])
            refine wpAnyH_take (i := 8) (v := ?v105x) rfl (by kernel_rfl) (by kernel_rfl) (by kernel_rfl) (fun _ _ _ h => h) (Or.inl ⟨by rfl, ?hy105x⟩) hS ?rest105x
            case hy105x => (intro w' hSw; (try dsimp only at hSw); go_simp; (try (with_reducible rfl)))
            (try simp only [Act.put, List.setIfInBounds_toArray, List.set_cons_zero, List.set_cons_succ, List.getElem_toArray, List.getElem_cons_succ, List.getElem_cons_zero])
            refine wpAnyH_take (i := 9) (v := ?v106x) rfl (by kernel_rfl) (by kernel_rfl) (by kernel_rfl) (fun _ _ _ h => h) (Or.inl ⟨by rfl, ?hy106x⟩) hS ?rest106x
            case hy106x => (intro w' hSw; (try dsimp only at hSw); go_simp; (try (with_reducible rfl)))
            (try simp only [Act.put, List.setIfInBounds_toArray, List.set_cons_zero, List.set_cons_succ, List.getElem_toArray, List.getElem_cons_succ, List.getElem_cons_zero])
            refine wpAnyH_take (i := 10) (v := ?v107x) rfl (by kernel_rfl) (by kernel_rfl) (by kernel_rfl) (fun _ _ _ h => h) (Or.inl ⟨by rfl, ?hy107x⟩) hS ?rest107x
            case hy107x => (intro w' hSw; (try dsimp only at hSw); go_simp; (try (with_reducible rfl)))
            (try simp only [Act.put, List.setIfInBounds_toArray, List.set_cons_zero, List.set_cons_succ, List.getElem_toArray, List.getElem_cons_succ, List.getElem_cons_zero])
            refine wpAnyH_ready (rs := [11]) (by kernel_rfl) (by simp) ?_
            refine AllReadyH.cons rfl (fun K hK => ?_) AllReadyH.nil
            (try dsimp only [List.getElem_toArray, List.getElem_cons_succ, List.getElem_cons_zero])
            go_simp
            refine hK.out _ _ (HKe.out _ ((grown_drew _).trans (grown_alloc _ _))) (fun hS9 => ?_)
            clear hK K hS; have hS := hS9; clear hS9; (try dsimp only at hS)
            (try simp only [Act.put, List.setIfInBounds_toArray, List.set_cons_zero, List.set_cons_succ, List.getElem_toArray, List.getElem_cons_succ, List.getElem_cons_zero])
            refine wpAnyH_ready (rs := [12]) (by kernel_rfl) (by simp) ?_
            refine AllReadyH.cons rfl (fun K hK => ?_) AllReadyH.nil
            (try dsimp only [List.getElem_toArray, List.getElem_cons_succ, List.getElem_cons_zero])
            (rw [if_pos (by rfl)]; refine wp_append_lies _ _ _ _ (by rfl) XLO 3 i1 _ 1 8 Try.underlying54 HI.out HI0.out HI1.out HI2.out rfl (by omega) _ xn (((moreR zs q).getD q []).map (Value.int .i64)) (by rfl) ((HRow.out.alloc _).drew) ⟨u5.heap.size, 0, none⟩ 1 1 [.int .i64 bo] (by rfl) (by rfl) (World.news_of_block (cs := #[.int .i64 bo]) (t := 3) (fr := (0, 0)) (heap_alloc_new u5 _)) (by simp [Value.oneCell']) (by omega) (by simp only [maxLen]; omega) (by omega) (by simp only [World.size_alloc, World.size_drew]; omega) (u5.heap.size + 1) (by simp) ?_; intro g7 cap7 u6 hown7 hgrow7 hat7 hlt7)
            have hg7 : u5.grownBy u6 (Value.slice xa xn xc).ownBlock := ((grown_drew _).trans (grown_alloc _ _)).trans hgrow7
            refine hK.out _ _ (HKe.out _ hg7) (fun hS9 => ?_)
            clear hK K hS; have hS := hS9; clear hS9; (try dsimp only at hS)
            (try simp only [Act.put, List.setIfInBounds_toArray, List.set_cons_zero, List.set_cons_succ, List.getElem_toArray, List.getElem_cons_succ, List.getElem_cons_zero])
            refine wpAnyH_take (i := 13) (v := ?v108x) rfl (by kernel_rfl) (by kernel_rfl) (by kernel_rfl) (fun _ _ _ h => h) (Or.inl ⟨by rfl, ?hy108x⟩) hS ?rest108x
            case hy108x => (intro w' hSw; (try dsimp only at hSw); go_simp; (try (with_reducible rfl)))
            (try simp only [Act.put, List.setIfInBounds_toArray, List.set_cons_zero, List.set_cons_succ, List.getElem_toArray, List.getElem_cons_succ, List.getElem_cons_zero])
            refine wpAnyH_done (by kernel_rfl) ?_ _
            refine fun K hK => ?_
            go_simp
            refine hK.out _ _ ?_
            clear hK K
            have HP9 := Lib.hid (HWu5.out.pushed (v := bo) HX.out hown7 hg7 hat7)
            have HWu6 := Lib.hid HP9.out.1; have HBu6 := Lib.hid HP9.out.2
            have hzu6 := HBu6.out.size
            clear HP9 hown7 hgrow7 hat7 HKe HX HRow HLen hbl hg7
            have HS9 : Hid (pushR (moreR zs q) q bo = shiftR yss r) := by
              unfold Hid
              rw [HBO.out, HZS.out, HQR.out]
              exact shiftR_alt (by have := HYL.out; omega)
            have HW9 := HWu6.out
            rw [HS9.out] at HW9
            have HW9 := Lib.hid HW9
            have HB9 := Lib.hid (((HBd.out.trans HBu4.out).trans HBu5.out).trans HBu6.out)
            have hrq9 : r < q := by have := HQR.out; omega
            clear N2' N2'' m3
            go_wp2_with fail
            go_roundw
            case rel => exact ⟨q, _, _, _, _, shiftR yss r, by first | rfl | (have := HQR.out; simp only [Value.int.injEq, true_and]; omega), HW9.out, HB9.out, HQ8.out, HZ8.out⟩
            case measure => simp [intOf]; omega
        · have hshort : longB yss r = false := by rw [HL.out]; exact decide_eq_false hl4
          have HZ9 : Hid (yss = zss) := by
            unfold Hid
            have h := HZ.out
            rw [show 8 - r = (7 - r) + 1 by omega] at h
            unfold addGo at h
            rw [if_neg (by rw [hshort]; simp)] at h
            exact h
          have hr8 : (r : Int) < 8 := by omega
          clear hshort
          clear o0
          have o0 := HWo.out.bcell
          have r0 : wo.cell? ⟨w.heap.size + 1, 0, none⟩ = some (.slice none 0 0) := (HBo.out.cell (p := ⟨w.heap.size + 1, 0, none⟩) (show w.heap.size + 1 < _ by omega)).trans HR0.out
          have fr0 : wo.frozen? ⟨w.heap.size + 1, 0, none⟩ = false := (HBo.out.frozen (p := ⟨w.heap.size + 1, 0, none⟩) (show w.heap.size + 1 < _ by omega)).trans HR1.out
          have hfin : ∀ w9, w9 = wo.setCell ⟨w.heap.size + 1, 0, none⟩ (.slice (some ⟨ga, 0, none⟩) n1 c1) → OwSS w.heap.size w9.heap.size w9 (some ⟨ga, 0, none⟩) n1 c1 g1 (iss (addR xss bit)) ∧ Below w.heap.size w w9 := by
            intro w9 h9
            subst h9
            rw [HAR.out, ← HZ9.out]
            exact ⟨HWo.out.fin (by omega) (by omega), Below.setCell (p := ⟨w.heap.size + 1, 0, none⟩) (HAc.out.trans (HBo.out.mono (by omega))) (by show w.heap.size ≤ w.heap.size + 1; omega) _⟩
          have HFin := Lib.hid hfin
          clear hfin
          go_wp2_with ((with_reducible refine bodyPost_ret (v := .tuple #[.agg #[.slice (some ⟨ga, 0, none⟩) n1 c1], .bool true]) ?k1 ?k2 ?k3); (case k1 => (simp [results, Try.results27, go_sem, r0, fr0])); (case k2 => rfl); (case k3 => (exact ⟨(some ⟨ga, 0, none⟩), n1, c1, g1, by rw [HDB.out], (HFin.out _ rfl).1, (HFin.out _ rfl).2⟩)))

end Go.Proofs.Ytnljlehbjdambaa
