/-
  ExOk of both packages.
-/
import Derived.Test.YtchkmcikpamdeaaStat
import Derived.Test.YtchkmcikpamdeaaFork
import Derived.Test.YtchkmcikpamdeaaSchOk
import Derived.Test.YtchkmcikpamdeaaSS
import Derived.Deep.RegionHeld3
import Derived.Deep.DeepCutAuto
import Derived.BigQuiet
namespace Go.Proofs.Ytchkmcikpamdeaa
open Go.RowKit
set_option linter.unusedSimpArgs false
set_option linter.unusedVariables false

/-- Each bin is one of its attribute's, or unknown. -/
def exRowB : List AD → List Int → Bool
  | a :: al, b :: bl => inB b (-1) (binsI a - 1) && exRowB al bl
  | _, _ => true
def exB (ats : List AD) (cs : List ByteArray) (bs : List Int) (cl : Int) : Bool := schB ats cs && decide (bs.length = ats.length) && inB cl (-1) ((cs.length : Int) - 1) && exRowB ats bs
theorem exB_no1 {ats : List AD} {cs : List ByteArray} {bs : List Int} {cl : Int} (h : schB ats cs = false) : exB ats cs bs cl = false := by unfold exB; rw [h]; rfl
theorem exB_no2 {ats : List AD} {cs : List ByteArray} {bs : List Int} {cl : Int} (h : bs.length ≠ ats.length) : exB ats cs bs cl = false := by unfold exB; rw [decide_eq_false h, Bool.and_false]; rfl
theorem exB_no3 {ats : List AD} {cs : List ByteArray} {bs : List Int} {cl : Int} (h : inB cl (-1) ((cs.length : Int) - 1) = false) : exB ats cs bs cl = false := by unfold exB; rw [h, Bool.and_false]; rfl
theorem exB_at {ats : List AD} {cs : List ByteArray} {bs : List Int} {cl : Int} (h1 : schB ats cs = true) (h2 : bs.length = ats.length) (h3 : inB cl (-1) ((cs.length : Int) - 1) = true) : exB ats cs bs cl = exRowB ats bs := by unfold exB; rw [h1, decide_eq_true h2, h3]; rfl
theorem exRow_no : ∀ {ats : List AD} {bs : List Int} {k : Nat} {a : AD} {b : Int}, ats[k]? = some a → bs[k]? = some b → inB b (-1) (binsI a - 1) = false → exRowB ats bs = false
  | [], _, _, _, _, h, _, _ => by simp at h
  | _ :: _, [], _, _, _, _, h, _ => by simp at h
  | a' :: al, b' :: bl, 0, a, b, h1, h2, h3 => by
    simp only [List.getElem?_cons_zero, Option.some.injEq] at h1 h2
    subst h1 h2
    unfold exRowB; rw [h3]; rfl
  | a' :: al, b' :: bl, k + 1, a, b, h1, h2, h3 => by
    simp only [List.getElem?_cons_succ] at h1 h2
    unfold exRowB; rw [exRow_no h1 h2 h3, Bool.and_false]
theorem exRow_yes : ∀ {ats : List AD} {bs : List Int}, (∀ (k : Nat) (a : AD) (b : Int), ats[k]? = some a → bs[k]? = some b → inB b (-1) (binsI a - 1) = true) → exRowB ats bs = true
  | [], _, _ => by unfold exRowB; rfl
  | _ :: _, [], _ => by unfold exRowB; rfl
  | a' :: al, b' :: bl, h => by
    unfold exRowB
    rw [h 0 a' b' rfl rfl, exRow_yes (fun k a b h1 h2 => h (k + 1) a b (by simpa using h1) (by simpa using h2))]; rfl
theorem exRow_get : ∀ {ats : List AD} {bs : List Int} {k : Nat} {a : AD} {b : Int}, exRowB ats bs = true → ats[k]? = some a → bs[k]? = some b → inB b (-1) (binsI a - 1) = true := by
  intro ats bs k a b h h1 h2
  cases hi : inB b (-1) (binsI a - 1)
  · rw [exRow_no h1 h2 hi] at h; cases h
  · rfl

set_option maxRecDepth 20000 in
set_option maxHeartbeats 8000000 in
theorem iExOk_any (A C : Option Addr) (n c m d : Nat) (hs : List AH) (ats : List AD) (cs : List ByteArray) (E : Option Addr) (q e0 : Nat) (bs : List Int) (cl : Int) (w : World) (r : Sch w A C n m d hs ats cs) (x : Rd w E q (bs.map (Value.int .i64))) (hq : q ≤ 1048576) :
    Calls Try.prog 55 #[.agg #[.slice A n c, .slice C m d], .agg #[.slice E q e0, .int .i64 cl]] w fun e w' => e = .returned (.bool (exB ats cs bs cl)) ∧ Below w.heap.size w w' := by
  have R := Lib.hid r
  have X := Lib.hid x
  have HL := Lib.hid r.lenA; have HC := Lib.hid r.lenC
  have HX : Hid (bs.length = q) := by have := x.len; unfold Hid; simpa using this
  have hn := r.hn
  clear r x
  cases h1 : schB ats cs
  · have H1 := Lib.hid h1
    have HV := Lib.hid (exB_no1 (bs := bs) (cl := cl) h1)
    clear h1
    have B0 := Below.refl w.heap.size w
    have s0 : w.heap.size ≤ w.heap.size := Nat.le_refl _
    go_enter Try.func55, Try.ntmps55
    have p_2 : Bx (w.alloc (.cells #[.slice A n c, .slice C m d] 40)) (w.heap.size) 40 #[.slice A n c, .slice C m d] := Bx.new _ _ _
    have B_2 := B0.alloc s0 (.cells #[.slice A n c, .slice C m d] 40)
    clear B0
    have cp_3 := p_2.cells
    have fp_3 := p_2.free
    clear cp_3 fp_3
    have p_4 := p_2.same (same_alloc (.cells #[.slice E q e0, .int .i64 cl] 43) (by simp only [World.size_alloc]; omega))
    clear p_2
    have x_5 : Bx ((w.alloc (.cells #[.slice A n c, .slice C m d] 40)).alloc (.cells #[.slice E q e0, .int .i64 cl] 43)) (w.heap.size + 1) 43 #[.slice E q e0, .int .i64 cl] := by
      have h := Bx.new (w.alloc (.cells #[.slice A n c, .slice C m d] 40)) 43 #[.slice E q e0, .int .i64 cl]
      simpa only [World.size_alloc] using h
    have B_5 := B_2.alloc (by simp only [World.size_alloc]; omega) (.cells #[.slice E q e0, .int .i64 cl] 43)
    clear B_2
    have cp_6 := p_4.cells
    have fp_6 := p_4.free
    have cx_7 := x_5.cells
    have fx_7 := x_5.free
    go_wp2_with fail
    refine (iSchemaOk_any _ _ _ _ _ _ _ ats cs _ (R.out.below B_5 (Nat.le_refl _))).mono ?_
    rw [H1.out]
    rintro e w1 ⟨rfl, b⟩
    clear cp_6 fp_6
    clear cx_7 fx_7
    simp only [World.size_alloc] at b
    have t_8 := b.size
    simp only [World.size_alloc] at t_8
    have z_8 : w.heap.size ≤ w1.heap.size := by omega
    have p_9 := p_4.same (same_below b (by omega))
    clear p_4
    have x_9 := x_5.same (same_below b (by omega))
    clear x_5
    have B_8 := B_5.trans (b.mono (by omega))
    clear B_5 b
    have cp_10 := p_9.cells
    have fp_10 := p_9.free
    have cx_11 := x_9.cells
    have fx_11 := x_9.free
    go_wp2_with fail
    go_ret
    exact ⟨by rw [HV.out]; rfl, B_8⟩
  · have H1 := Lib.hid h1
    have hm23 := schB_m h1
    rw [HC.out] at hm23
    have hm1 : 1 ≤ m := by omega
    have hm3 : m ≤ 3 := by omega
    clear h1 hm23
    by_cases hqn : q = n
    · subst hqn
      obtain ⟨y, h3⟩ : ∃ y, inB cl (-1) ((m : Int) - 1) = y := ⟨_, rfl⟩
      have H3 := Lib.hid h3
      have hmi : (1 : Int) ≤ (m : Int) := by omega
      cases y
      · have HV : Hid (exB ats cs bs cl = false) := exB_no3 (by rw [HC.out]; exact h3)
        clear h3
        have B0 := Below.refl w.heap.size w
        have s0 : w.heap.size ≤ w.heap.size := Nat.le_refl _
        go_enter Try.func55, Try.ntmps55
        have p_2 : Bx (w.alloc (.cells #[.slice A q c, .slice C m d] 40)) (w.heap.size) 40 #[.slice A q c, .slice C m d] := Bx.new _ _ _
        have B_2 := B0.alloc s0 (.cells #[.slice A q c, .slice C m d] 40)
        clear B0
        have cp_3 := p_2.cells
        have fp_3 := p_2.free
        clear cp_3 fp_3
        have p_4 := p_2.same (same_alloc (.cells #[.slice E q e0, .int .i64 cl] 43) (by simp only [World.size_alloc]; omega))
        clear p_2
        have x_5 : Bx ((w.alloc (.cells #[.slice A q c, .slice C m d] 40)).alloc (.cells #[.slice E q e0, .int .i64 cl] 43)) (w.heap.size + 1) 43 #[.slice E q e0, .int .i64 cl] := by
          have h := Bx.new (w.alloc (.cells #[.slice A q c, .slice C m d] 40)) 43 #[.slice E q e0, .int .i64 cl]
          simpa only [World.size_alloc] using h
        have B_5 := B_2.alloc (by simp only [World.size_alloc]; omega) (.cells #[.slice E q e0, .int .i64 cl] 43)
        clear B_2
        have cp_6 := p_4.cells
        have fp_6 := p_4.free
        have cx_7 := x_5.cells
        have fx_7 := x_5.free
        go_wp2_with fail
        refine (iSchemaOk_any _ _ _ _ _ _ _ ats cs _ (R.out.below B_5 (Nat.le_refl _))).mono ?_
        rw [H1.out]
        rintro e w1 ⟨rfl, b⟩
        clear cp_6 fp_6
        clear cx_7 fx_7
        simp only [World.size_alloc] at b
        have t_8 := b.size
        simp only [World.size_alloc] at t_8
        have z_8 : w.heap.size ≤ w1.heap.size := by omega
        have p_9 := p_4.same (same_below b (by omega))
        clear p_4
        have x_9 := x_5.same (same_below b (by omega))
        clear x_5
        have B_8 := B_5.trans (b.mono (by omega))
        clear B_5 b
        have cp_10 := p_9.cells
        have fp_10 := p_9.free
        have cx_11 := x_9.cells
        have fx_11 := x_9.free
        go_wp2_with fail
        refine (within_any _ _ _ _).mono ?_
        rw [H3.out]
        rintro e w2 ⟨rfl, rfl⟩
        go_wp2_with fail
        go_ret
        exact ⟨by rw [HV.out]; rfl, B_8⟩
      · have HEx : Hid (exB ats cs bs cl = exRowB ats bs) := exB_at H1.out (by rw [HX.out, HL.out]) (by rw [HC.out]; exact h3)
        clear h3
        have B0 := Below.refl w.heap.size w
        have s0 : w.heap.size ≤ w.heap.size := Nat.le_refl _
        go_enter Try.func55, Try.ntmps55
        have p_2 : Bx (w.alloc (.cells #[.slice A q c, .slice C m d] 40)) (w.heap.size) 40 #[.slice A q c, .slice C m d] := Bx.new _ _ _
        have B_2 := B0.alloc s0 (.cells #[.slice A q c, .slice C m d] 40)
        clear B0
        have cp_3 := p_2.cells
        have fp_3 := p_2.free
        clear cp_3 fp_3
        have p_4 := p_2.same (same_alloc (.cells #[.slice E q e0, .int .i64 cl] 43) (by simp only [World.size_alloc]; omega))
        clear p_2
        have x_5 : Bx ((w.alloc (.cells #[.slice A q c, .slice C m d] 40)).alloc (.cells #[.slice E q e0, .int .i64 cl] 43)) (w.heap.size + 1) 43 #[.slice E q e0, .int .i64 cl] := by
          have h := Bx.new (w.alloc (.cells #[.slice A q c, .slice C m d] 40)) 43 #[.slice E q e0, .int .i64 cl]
          simpa only [World.size_alloc] using h
        have B_5 := B_2.alloc (by simp only [World.size_alloc]; omega) (.cells #[.slice E q e0, .int .i64 cl] 43)
        clear B_2
        have cp_6 := p_4.cells
        have fp_6 := p_4.free
        have cx_7 := x_5.cells
        have fx_7 := x_5.free
        go_wp2_with fail
        refine (iSchemaOk_any _ _ _ _ _ _ _ ats cs _ (R.out.below B_5 (Nat.le_refl _))).mono ?_
        rw [H1.out]
        rintro e w1 ⟨rfl, b⟩
        clear cp_6 fp_6
        clear cx_7 fx_7
        simp only [World.size_alloc] at b
        have t_8 := b.size
        simp only [World.size_alloc] at t_8
        have z_8 : w.heap.size ≤ w1.heap.size := by omega
        have p_9 := p_4.same (same_below b (by omega))
        clear p_4
        have x_9 := x_5.same (same_below b (by omega))
        clear x_5
        have B_8 := B_5.trans (b.mono (by omega))
        clear B_5 b
        have cp_10 := p_9.cells
        have fp_10 := p_9.free
        have cx_11 := x_9.cells
        have fx_11 := x_9.free
        go_wp2_with fail
        refine (within_any _ _ _ _).mono ?_
        rw [H3.out]
        rintro e w2 ⟨rfl, rfl⟩
        have HAc := Lib.hid B_8; have HP := Lib.hid p_9; have HXb := Lib.hid x_9; have lp := p_9.lt; have lx := x_9.lt
        have R1 := Lib.hid (R.out.below B_8 (Nat.le_refl _)); have X1 := Lib.hid (X.out.below B_8 (Nat.le_refl _))
        go_wp2_with fail
        clear cp_10 fp_10 cx_11 fx_11
        go_loopw [32] (fun si wr => ∃ k : Nat, k ≤ q ∧ si = .int .i64 k ∧ Hid (∀ (j : Nat) (a : AD) (b : Int), j < k → ats[j]? = some a → bs[j]? = some b → inB b (-1) (binsI a - 1) = true) ∧ Below w1.heap.size w1 wr) (fun si _ => q - (intOf si).toNat)
        case atStart => exact ⟨0, Nat.zero_le _, rfl, (fun j a b hj => absurd hj (by omega)), Below.refl _ _⟩
        case round =>
          obtain ⟨k, hk, rfl, hgood, hbel⟩ := hrel
          obtain ⟨wo, rfl⟩ : ∃ wo : World, wo = wr := ⟨_, rfl⟩
          have HBel := Lib.hid hbel
          clear hbel
          have p0 : wo.cell? ⟨w.heap.size, 0, none⟩ = some (.slice A q c) := (HBel.out.cell (p := ⟨w.heap.size, 0, none⟩) lp).trans (HP.out.cells 0)
          have x0 : wo.cell? ⟨w.heap.size + 1, 0, none⟩ = some (.slice E q e0) := (HBel.out.cell (p := ⟨w.heap.size + 1, 0, none⟩) lx).trans (HXb.out.cells 0)
          by_cases hlt : k < q
          · skip
            obtain ⟨h, a, ba, off, ha, hra, hA, hbl, d0, d1, d2⟩ := R1.out.get hlt
            subst hA
            obtain ⟨be, oe, hE, hbe, hce⟩ := X1.out.ex (by omega)
            subst hE
            obtain ⟨b0, hb0⟩ : ∃ b, bs[k]? = some b := ⟨_, List.getElem?_eq_getElem (by rw [HX.out]; exact hlt)⟩
            have hcb := hce k (.int .i64 b0) (by rw [List.getElem?_map, hb0]; rfl)
            have hab := schB_get H1.out ha
            obtain ⟨nb, hnb, hn2, hn4⟩ := attrB_bins hab
            have f0 : wo.cell? ⟨ba, off + k * 3, none⟩ = some (.string a.nm) := (HBel.out.cell (p := ⟨ba, off + k * 3, none⟩) hbl).trans d0
            have f1 : wo.cell? ⟨ba, off + k * 3 + 1, none⟩ = some (.slice h.1.1 h.1.2.1 h.1.2.2) := (HBel.out.cell (p := ⟨ba, off + k * 3 + 1, none⟩) hbl).trans d1
            have f2 : wo.cell? ⟨ba, off + k * 3 + 2, none⟩ = some (.slice h.2.1 h.2.2.1 h.2.2.2) := (HBel.out.cell (p := ⟨ba, off + k * 3 + 2, none⟩) hbl).trans d2
            have fe : wo.cell? ⟨be, oe + k, none⟩ = some (.int .i64 b0) := (HBel.out.cell (p := ⟨be, oe + k, none⟩) hbe).trans hcb
            have HAC := Lib.hid (hra.below HBel.out (Nat.le_refl _))
            have HA := Lib.hid ha; have HB0 := Lib.hid hb0; have HAB := Lib.hid hab
            have k0 : (0 : Int) ≤ (k : Int) := Int.natCast_nonneg _
            have k1 : (k : Int) < (q : Int) := by omega
            obtain ⟨y, h4⟩ : ∃ y, inB b0 (-1) ((nb : Int) - 1) = y := ⟨_, rfl⟩
            have H4 := Lib.hid h4
            have HY : Hid (inB b0 (-1) (binsI a - 1) = y) := by unfold Hid; rw [hnb]; exact h4
            have HNB := Lib.hid hnb
            have hnbi : (1 : Int) ≤ (nb : Int) := by omega
            clear ha hra d0 d1 d2 hce hb0 hcb hab h4 hnb
            go_wp2_with fail
            refine (ibins_any a h _ HAC.out).mono ?_
            rw [HNB.out]
            rintro e w5 ⟨rfl, b5⟩
            have HB5 := Lib.hid (HBel.out.trans (b5.mono (by have := HBel.out.size; omega)))
            clear b5 p0 x0 f0 f1 f2 fe
            go_wp2_with fail
            refine (within_any _ _ _ _).mono ?_
            rw [H4.out]
            rintro e w6 ⟨rfl, rfl⟩
            cases y
            · have HV : Hid (exB ats cs bs cl = false) := by unfold Hid; rw [HEx.out]; exact exRow_no HA.out HB0.out HY.out
              have HB9 := Lib.hid (HAc.out.trans (HB5.out.mono (by omega)))
              go_wp2_with fail
              go_ret
              exact ⟨by rw [HV.out]; rfl, HB9.out⟩
            · have hg2 : Hid (∀ (j : Nat) (a : AD) (b : Int), j < k + 1 → ats[j]? = some a → bs[j]? = some b → inB b (-1) (binsI a - 1) = true) := by
                intro j a' b' hj h1 h2
                rcases Nat.lt_or_ge j k with h5 | h5
                · exact hgood.out j a' b' h5 h1 h2
                · obtain rfl : j = k := by omega
                  rw [HA.out] at h1; rw [HB0.out] at h2
                  obtain rfl := Option.some.inj h1
                  obtain rfl := Option.some.inj h2
                  exact HY.out
              go_wp2_with fail
              go_roundw
              case rel => exact ⟨k + 1, by omega, by go_num, hg2, HB5.out⟩
              case measure => simp [intOf]; omega
          · obtain rfl : q = k := by omega
            have HV : Hid (exB ats cs bs cl = true) := by
              unfold Hid; rw [HEx.out]
              exact exRow_yes fun j a b h1 h2 => hgood.out j a b (by have := (List.getElem?_eq_some_iff.1 h2).1; rw [HX.out] at this; exact this) h1 h2
            have HB9 := Lib.hid (HAc.out.trans (HBel.out.mono (by omega)))
            go_wp2_with fail
            go_ret
            exact ⟨by rw [HV.out]; rfl, HB9.out⟩
    · have HV : Hid (exB ats cs bs cl = false) := exB_no2 (by rw [HX.out, HL.out]; exact hqn)
      have hqn' : ¬ (q : Int) = (n : Int) := by omega
      have B0 := Below.refl w.heap.size w
      have s0 : w.heap.size ≤ w.heap.size := Nat.le_refl _
      go_enter Try.func55, Try.ntmps55
      have p_2 : Bx (w.alloc (.cells #[.slice A n c, .slice C m d] 40)) (w.heap.size) 40 #[.slice A n c, .slice C m d] := Bx.new _ _ _
      have B_2 := B0.alloc s0 (.cells #[.slice A n c, .slice C m d] 40)
      clear B0
      have cp_3 := p_2.cells
      have fp_3 := p_2.free
      clear cp_3 fp_3
      have p_4 := p_2.same (same_alloc (.cells #[.slice E q e0, .int .i64 cl] 43) (by simp only [World.size_alloc]; omega))
      clear p_2
      have x_5 : Bx ((w.alloc (.cells #[.slice A n c, .slice C m d] 40)).alloc (.cells #[.slice E q e0, .int .i64 cl] 43)) (w.heap.size + 1) 43 #[.slice E q e0, .int .i64 cl] := by
        have h := Bx.new (w.alloc (.cells #[.slice A n c, .slice C m d] 40)) 43 #[.slice E q e0, .int .i64 cl]
        simpa only [World.size_alloc] using h
      have B_5 := B_2.alloc (by simp only [World.size_alloc]; omega) (.cells #[.slice E q e0, .int .i64 cl] 43)
      clear B_2
      have cp_6 := p_4.cells
      have fp_6 := p_4.free
      have cx_7 := x_5.cells
      have fx_7 := x_5.free
      go_wp2_with fail
      refine (iSchemaOk_any _ _ _ _ _ _ _ ats cs _ (R.out.below B_5 (Nat.le_refl _))).mono ?_
      rw [H1.out]
      rintro e w1 ⟨rfl, b⟩
      clear cp_6 fp_6
      clear cx_7 fx_7
      simp only [World.size_alloc] at b
      have t_8 := b.size
      simp only [World.size_alloc] at t_8
      have z_8 : w.heap.size ≤ w1.heap.size := by omega
      have p_9 := p_4.same (same_below b (by omega))
      clear p_4
      have x_9 := x_5.same (same_below b (by omega))
      clear x_5
      have B_8 := B_5.trans (b.mono (by omega))
      clear B_5 b
      have cp_10 := p_9.cells
      have fp_10 := p_9.free
      have cx_11 := x_9.cells
      have fx_11 := x_9.free
      go_wp2_with fail
      go_ret
      exact ⟨by rw [HV.out]; rfl, B_8⟩

set_option maxRecDepth 20000 in
set_option maxHeartbeats 8000000 in
theorem sExOk_any (A C : Option Addr) (n c m d : Nat) (hs : List AH) (ats : List AD) (cs : List ByteArray) (E : Option Addr) (q e0 : Nat) (bs : List Int) (cl : Int) (w : World) (r : Sch w A C n m d hs ats cs) (x : Rd w E q (bs.map (Value.int .i64))) (hq : q ≤ 1048576) :
    Calls Try.prog 48 #[.agg #[.slice A n c, .slice C m d], .agg #[.slice E q e0, .int .i64 cl]] w fun e w' => e = .returned (.bool (exB ats cs bs cl)) ∧ Below w.heap.size w w' := by
  have R := Lib.hid r
  have X := Lib.hid x
  have HL := Lib.hid r.lenA; have HC := Lib.hid r.lenC
  have HX : Hid (bs.length = q) := by have := x.len; unfold Hid; simpa using this
  have hn := r.hn
  clear r x
  cases h1 : schB ats cs
  · have H1 := Lib.hid h1
    have HV := Lib.hid (exB_no1 (bs := bs) (cl := cl) h1)
    clear h1
    have B0 := Below.refl w.heap.size w
    have s0 : w.heap.size ≤ w.heap.size := Nat.le_refl _
    go_enter Try.func48, Try.ntmps48
    have p_2 : Bx (w.alloc (.cells #[.slice A n c, .slice C m d] 40)) (w.heap.size) 40 #[.slice A n c, .slice C m d] := Bx.new _ _ _
    have B_2 := B0.alloc s0 (.cells #[.slice A n c, .slice C m d] 40)
    clear B0
    have cp_3 := p_2.cells
    have fp_3 := p_2.free
    clear cp_3 fp_3
    have p_4 := p_2.same (same_alloc (.cells #[.slice E q e0, .int .i64 cl] 43) (by simp only [World.size_alloc]; omega))
    clear p_2
    have x_5 : Bx ((w.alloc (.cells #[.slice A n c, .slice C m d] 40)).alloc (.cells #[.slice E q e0, .int .i64 cl] 43)) (w.heap.size + 1) 43 #[.slice E q e0, .int .i64 cl] := by
      have h := Bx.new (w.alloc (.cells #[.slice A n c, .slice C m d] 40)) 43 #[.slice E q e0, .int .i64 cl]
      simpa only [World.size_alloc] using h
    have B_5 := B_2.alloc (by simp only [World.size_alloc]; omega) (.cells #[.slice E q e0, .int .i64 cl] 43)
    clear B_2
    have cp_6 := p_4.cells
    have fp_6 := p_4.free
    have cx_7 := x_5.cells
    have fx_7 := x_5.free
    go_wp2_with fail
    refine (sSchemaOk_any _ _ _ _ _ _ _ ats cs _ (R.out.below B_5 (Nat.le_refl _))).mono ?_
    rw [H1.out]
    rintro e w1 ⟨rfl, b⟩
    clear cp_6 fp_6
    clear cx_7 fx_7
    simp only [World.size_alloc] at b
    have t_8 := b.size
    simp only [World.size_alloc] at t_8
    have z_8 : w.heap.size ≤ w1.heap.size := by omega
    have p_9 := p_4.same (same_below b (by omega))
    clear p_4
    have x_9 := x_5.same (same_below b (by omega))
    clear x_5
    have B_8 := B_5.trans (b.mono (by omega))
    clear B_5 b
    have cp_10 := p_9.cells
    have fp_10 := p_9.free
    have cx_11 := x_9.cells
    have fx_11 := x_9.free
    go_wp2_with fail
    go_ret
    exact ⟨by rw [HV.out]; rfl, B_8⟩
  · have H1 := Lib.hid h1
    have hm23 := schB_m h1
    rw [HC.out] at hm23
    have hm1 : 1 ≤ m := by omega
    have hm3 : m ≤ 3 := by omega
    clear h1 hm23
    by_cases hqn : q = n
    · subst hqn
      obtain ⟨y, h3⟩ : ∃ y, inB cl (-1) ((m : Int) - 1) = y := ⟨_, rfl⟩
      have H3 := Lib.hid h3
      have hmi : (1 : Int) ≤ (m : Int) := by omega
      cases y
      · have HV : Hid (exB ats cs bs cl = false) := exB_no3 (by rw [HC.out]; exact h3)
        clear h3
        have B0 := Below.refl w.heap.size w
        have s0 : w.heap.size ≤ w.heap.size := Nat.le_refl _
        go_enter Try.func48, Try.ntmps48
        have p_2 : Bx (w.alloc (.cells #[.slice A q c, .slice C m d] 40)) (w.heap.size) 40 #[.slice A q c, .slice C m d] := Bx.new _ _ _
        have B_2 := B0.alloc s0 (.cells #[.slice A q c, .slice C m d] 40)
        clear B0
        have cp_3 := p_2.cells
        have fp_3 := p_2.free
        clear cp_3 fp_3
        have p_4 := p_2.same (same_alloc (.cells #[.slice E q e0, .int .i64 cl] 43) (by simp only [World.size_alloc]; omega))
        clear p_2
        have x_5 : Bx ((w.alloc (.cells #[.slice A q c, .slice C m d] 40)).alloc (.cells #[.slice E q e0, .int .i64 cl] 43)) (w.heap.size + 1) 43 #[.slice E q e0, .int .i64 cl] := by
          have h := Bx.new (w.alloc (.cells #[.slice A q c, .slice C m d] 40)) 43 #[.slice E q e0, .int .i64 cl]
          simpa only [World.size_alloc] using h
        have B_5 := B_2.alloc (by simp only [World.size_alloc]; omega) (.cells #[.slice E q e0, .int .i64 cl] 43)
        clear B_2
        have cp_6 := p_4.cells
        have fp_6 := p_4.free
        have cx_7 := x_5.cells
        have fx_7 := x_5.free
        go_wp2_with fail
        refine (sSchemaOk_any _ _ _ _ _ _ _ ats cs _ (R.out.below B_5 (Nat.le_refl _))).mono ?_
        rw [H1.out]
        rintro e w1 ⟨rfl, b⟩
        clear cp_6 fp_6
        clear cx_7 fx_7
        simp only [World.size_alloc] at b
        have t_8 := b.size
        simp only [World.size_alloc] at t_8
        have z_8 : w.heap.size ≤ w1.heap.size := by omega
        have p_9 := p_4.same (same_below b (by omega))
        clear p_4
        have x_9 := x_5.same (same_below b (by omega))
        clear x_5
        have B_8 := B_5.trans (b.mono (by omega))
        clear B_5 b
        have cp_10 := p_9.cells
        have fp_10 := p_9.free
        have cx_11 := x_9.cells
        have fx_11 := x_9.free
        go_wp2_with fail
        refine (l1In_any _ _ _ _).mono ?_
        rw [H3.out]
        rintro e w2 ⟨rfl, rfl⟩
        go_wp2_with fail
        go_ret
        exact ⟨by rw [HV.out]; rfl, B_8⟩
      · have HEx : Hid (exB ats cs bs cl = exRowB ats bs) := exB_at H1.out (by rw [HX.out, HL.out]) (by rw [HC.out]; exact h3)
        clear h3
        have B0 := Below.refl w.heap.size w
        have s0 : w.heap.size ≤ w.heap.size := Nat.le_refl _
        go_enter Try.func48, Try.ntmps48
        have p_2 : Bx (w.alloc (.cells #[.slice A q c, .slice C m d] 40)) (w.heap.size) 40 #[.slice A q c, .slice C m d] := Bx.new _ _ _
        have B_2 := B0.alloc s0 (.cells #[.slice A q c, .slice C m d] 40)
        clear B0
        have cp_3 := p_2.cells
        have fp_3 := p_2.free
        clear cp_3 fp_3
        have p_4 := p_2.same (same_alloc (.cells #[.slice E q e0, .int .i64 cl] 43) (by simp only [World.size_alloc]; omega))
        clear p_2
        have x_5 : Bx ((w.alloc (.cells #[.slice A q c, .slice C m d] 40)).alloc (.cells #[.slice E q e0, .int .i64 cl] 43)) (w.heap.size + 1) 43 #[.slice E q e0, .int .i64 cl] := by
          have h := Bx.new (w.alloc (.cells #[.slice A q c, .slice C m d] 40)) 43 #[.slice E q e0, .int .i64 cl]
          simpa only [World.size_alloc] using h
        have B_5 := B_2.alloc (by simp only [World.size_alloc]; omega) (.cells #[.slice E q e0, .int .i64 cl] 43)
        clear B_2
        have cp_6 := p_4.cells
        have fp_6 := p_4.free
        have cx_7 := x_5.cells
        have fx_7 := x_5.free
        go_wp2_with fail
        refine (sSchemaOk_any _ _ _ _ _ _ _ ats cs _ (R.out.below B_5 (Nat.le_refl _))).mono ?_
        rw [H1.out]
        rintro e w1 ⟨rfl, b⟩
        clear cp_6 fp_6
        clear cx_7 fx_7
        simp only [World.size_alloc] at b
        have t_8 := b.size
        simp only [World.size_alloc] at t_8
        have z_8 : w.heap.size ≤ w1.heap.size := by omega
        have p_9 := p_4.same (same_below b (by omega))
        clear p_4
        have x_9 := x_5.same (same_below b (by omega))
        clear x_5
        have B_8 := B_5.trans (b.mono (by omega))
        clear B_5 b
        have cp_10 := p_9.cells
        have fp_10 := p_9.free
        have cx_11 := x_9.cells
        have fx_11 := x_9.free
        go_wp2_with fail
        refine (l1In_any _ _ _ _).mono ?_
        rw [H3.out]
        rintro e w2 ⟨rfl, rfl⟩
        have HAc := Lib.hid B_8; have HP := Lib.hid p_9; have HXb := Lib.hid x_9; have lp := p_9.lt; have lx := x_9.lt
        have R1 := Lib.hid (R.out.below B_8 (Nat.le_refl _)); have X1 := Lib.hid (X.out.below B_8 (Nat.le_refl _))
        go_wp2_with fail
        clear cp_10 fp_10 cx_11 fx_11
        go_loopw [5] (fun si wr => ∃ k : Nat, k ≤ q ∧ si = .int .i64 k ∧ Hid (∀ (j : Nat) (a : AD) (b : Int), j < k → ats[j]? = some a → bs[j]? = some b → inB b (-1) (binsI a - 1) = true) ∧ Below w1.heap.size w1 wr) (fun si _ => q - (intOf si).toNat)
        case atStart => exact ⟨0, Nat.zero_le _, rfl, (fun j a b hj => absurd hj (by omega)), Below.refl _ _⟩
        case round =>
          obtain ⟨k, hk, rfl, hgood, hbel⟩ := hrel
          obtain ⟨wo, rfl⟩ : ∃ wo : World, wo = wr := ⟨_, rfl⟩
          have HBel := Lib.hid hbel
          clear hbel
          have p0 : wo.cell? ⟨w.heap.size, 0, none⟩ = some (.slice A q c) := (HBel.out.cell (p := ⟨w.heap.size, 0, none⟩) lp).trans (HP.out.cells 0)
          have x0 : wo.cell? ⟨w.heap.size + 1, 0, none⟩ = some (.slice E q e0) := (HBel.out.cell (p := ⟨w.heap.size + 1, 0, none⟩) lx).trans (HXb.out.cells 0)
          by_cases hlt : k < q
          · skip
            obtain ⟨h, a, ba, off, ha, hra, hA, hbl, d0, d1, d2⟩ := R1.out.get hlt
            subst hA
            obtain ⟨be, oe, hE, hbe, hce⟩ := X1.out.ex (by omega)
            subst hE
            obtain ⟨b0, hb0⟩ : ∃ b, bs[k]? = some b := ⟨_, List.getElem?_eq_getElem (by rw [HX.out]; exact hlt)⟩
            have hcb := hce k (.int .i64 b0) (by rw [List.getElem?_map, hb0]; rfl)
            have hab := schB_get H1.out ha
            obtain ⟨nb, hnb, hn2, hn4⟩ := attrB_bins hab
            have f0 : wo.cell? ⟨ba, off + k * 3, none⟩ = some (.string a.nm) := (HBel.out.cell (p := ⟨ba, off + k * 3, none⟩) hbl).trans d0
            have f1 : wo.cell? ⟨ba, off + k * 3 + 1, none⟩ = some (.slice h.1.1 h.1.2.1 h.1.2.2) := (HBel.out.cell (p := ⟨ba, off + k * 3 + 1, none⟩) hbl).trans d1
            have f2 : wo.cell? ⟨ba, off + k * 3 + 2, none⟩ = some (.slice h.2.1 h.2.2.1 h.2.2.2) := (HBel.out.cell (p := ⟨ba, off + k * 3 + 2, none⟩) hbl).trans d2
            have fe : wo.cell? ⟨be, oe + k, none⟩ = some (.int .i64 b0) := (HBel.out.cell (p := ⟨be, oe + k, none⟩) hbe).trans hcb
            have HAC := Lib.hid (hra.below HBel.out (Nat.le_refl _))
            have HA := Lib.hid ha; have HB0 := Lib.hid hb0; have HAB := Lib.hid hab
            have k0 : (0 : Int) ≤ (k : Int) := Int.natCast_nonneg _
            have k1 : (k : Int) < (q : Int) := by omega
            obtain ⟨y, h4⟩ : ∃ y, inB b0 (-1) ((nb : Int) - 1) = y := ⟨_, rfl⟩
            have H4 := Lib.hid h4
            have HY : Hid (inB b0 (-1) (binsI a - 1) = y) := by unfold Hid; rw [hnb]; exact h4
            have HNB := Lib.hid hnb
            have hnbi : (1 : Int) ≤ (nb : Int) := by omega
            clear ha hra d0 d1 d2 hce hb0 hcb hab h4 hnb
            have hso := HBel.out.size
            have lp9 : w.heap.size < wo.heap.size := Nat.lt_of_lt_of_le lp hso
            have lx9 : w.heap.size + 1 < wo.heap.size := Nat.lt_of_lt_of_le lx hso
            have lb9 : ba < wo.heap.size := Nat.lt_of_lt_of_le hbl hso
            have le9 : be < wo.heap.size := Nat.lt_of_lt_of_le hbe hso
            have HK : Hid (∀ w' : World, Below wo.heap.size wo w' → w'.cell? ⟨w.heap.size, 0, none⟩ = some (.slice (some ⟨ba, off, none⟩) q c) ∧ w'.cell? ⟨w.heap.size + 1, 0, none⟩ = some (.slice (some ⟨be, oe, none⟩) q e0) ∧ w'.cell? ⟨ba, off + k * 3, none⟩ = some (.string a.nm) ∧ w'.cell? ⟨ba, off + k * 3 + 1, none⟩ = some (.slice h.1.1 h.1.2.1 h.1.2.2) ∧ w'.cell? ⟨ba, off + k * 3 + 2, none⟩ = some (.slice h.2.1 h.2.2.1 h.2.2.2) ∧ w'.cell? ⟨be, oe + k, none⟩ = some (.int .i64 b0) ∧ Below wo.heap.size wo w') := fun w' hb => ⟨(hb.cell (p := ⟨w.heap.size, 0, none⟩) lp9).trans p0, (hb.cell (p := ⟨w.heap.size + 1, 0, none⟩) lx9).trans x0, (hb.cell (p := ⟨ba, off + k * 3, none⟩) lb9).trans f0, (hb.cell (p := ⟨ba, off + k * 3 + 1, none⟩) lb9).trans f1, (hb.cell (p := ⟨ba, off + k * 3 + 2, none⟩) lb9).trans f2, (hb.cell (p := ⟨be, oe + k, none⟩) le9).trans fe, hb⟩
            have e9 : IntKind.i64.wrap ((nb : Int) - 1) = (nb : Int) - 1 := IntWalk.i64_in _ (by omega)
            go_upto_region 6 with fail
            go_cut [48] (fun s48 wx => s48 = .bool (!y) ∧ Below wo.heap.size wo wx)
            case first =>
              go_region_held3 (fun w' => w'.cell? ⟨w.heap.size, 0, none⟩ = some (.slice (some ⟨ba, off, none⟩) q c) ∧ w'.cell? ⟨w.heap.size + 1, 0, none⟩ = some (.slice (some ⟨be, oe, none⟩) q e0) ∧ w'.cell? ⟨ba, off + k * 3, none⟩ = some (.string a.nm) ∧ w'.cell? ⟨ba, off + k * 3 + 1, none⟩ = some (.slice h.1.1 h.1.2.1 h.1.2.2) ∧ w'.cell? ⟨ba, off + k * 3 + 2, none⟩ = some (.slice h.2.1 h.2.2.1 h.2.2.2) ∧ w'.cell? ⟨be, oe + k, none⟩ = some (.int .i64 b0) ∧ Below wo.heap.size wo w')
                ((refine HK.out _ ?_; first | exact (Below.refl _ _).drew | assumption))
                (first
                  | (go_at_call 38; go_split_ands; refine (lift (W0 := wo) (B := wo.heap.size) (sBins_any a h _ (HAC.out.below (by assumption) (Nat.le_refl _)) HAB.out) (by assumption) (Nat.le_refl _)).mono ?_; rw [HNB.out]; rintro e w7 ⟨rfl, b7⟩)
                  | (go_at_call 49; refine (l1In_any _ _ _ _).mono ?_; rw [H4.out]; rintro e w8 ⟨rfl, rfl⟩))
              all_goals (go_wp2_with fail; go_meet)
              all_goals exact ⟨rfl, by assumption⟩
            obtain ⟨rfl, b5⟩ := hcut
            obtain ⟨w5, rfl⟩ : ∃ u : World, u = wc := ⟨_, rfl⟩
            have HB5 := Lib.hid (HBel.out.trans (b5.mono hso))
            clear b5 p0 x0 f0 f1 f2 fe HK e9
            cases y
            · have HV : Hid (exB ats cs bs cl = false) := by unfold Hid; rw [HEx.out]; exact exRow_no HA.out HB0.out HY.out
              have HB9 := Lib.hid (HAc.out.trans (HB5.out.mono (by omega)))
              go_wp2_with fail
              go_ret
              exact ⟨by rw [HV.out]; rfl, HB9.out⟩
            · have hg2 : Hid (∀ (j : Nat) (a : AD) (b : Int), j < k + 1 → ats[j]? = some a → bs[j]? = some b → inB b (-1) (binsI a - 1) = true) := by
                intro j a' b' hj h1 h2
                rcases Nat.lt_or_ge j k with h5 | h5
                · exact hgood.out j a' b' h5 h1 h2
                · obtain rfl : j = k := by omega
                  rw [HA.out] at h1; rw [HB0.out] at h2
                  obtain rfl := Option.some.inj h1
                  obtain rfl := Option.some.inj h2
                  exact HY.out
              go_wp2_with fail
              go_roundw
              case rel => exact ⟨k + 1, by omega, by go_num, hg2, HB5.out⟩
              case measure => simp [intOf]; omega
          · obtain rfl : q = k := by omega
            have HV : Hid (exB ats cs bs cl = true) := by
              unfold Hid; rw [HEx.out]
              exact exRow_yes fun j a b h1 h2 => hgood.out j a b (by have := (List.getElem?_eq_some_iff.1 h2).1; rw [HX.out] at this; exact this) h1 h2
            have HB9 := Lib.hid (HAc.out.trans (HBel.out.mono (by omega)))
            go_wp2_with fail
            go_ret
            exact ⟨by rw [HV.out]; rfl, HB9.out⟩
    · have HV : Hid (exB ats cs bs cl = false) := exB_no2 (by rw [HX.out, HL.out]; exact hqn)
      have hqn' : ¬ (q : Int) = (n : Int) := by omega
      have B0 := Below.refl w.heap.size w
      have s0 : w.heap.size ≤ w.heap.size := Nat.le_refl _
      go_enter Try.func48, Try.ntmps48
      have p_2 : Bx (w.alloc (.cells #[.slice A n c, .slice C m d] 40)) (w.heap.size) 40 #[.slice A n c, .slice C m d] := Bx.new _ _ _
      have B_2 := B0.alloc s0 (.cells #[.slice A n c, .slice C m d] 40)
      clear B0
      have cp_3 := p_2.cells
      have fp_3 := p_2.free
      clear cp_3 fp_3
      have p_4 := p_2.same (same_alloc (.cells #[.slice E q e0, .int .i64 cl] 43) (by simp only [World.size_alloc]; omega))
      clear p_2
      have x_5 : Bx ((w.alloc (.cells #[.slice A n c, .slice C m d] 40)).alloc (.cells #[.slice E q e0, .int .i64 cl] 43)) (w.heap.size + 1) 43 #[.slice E q e0, .int .i64 cl] := by
        have h := Bx.new (w.alloc (.cells #[.slice A n c, .slice C m d] 40)) 43 #[.slice E q e0, .int .i64 cl]
        simpa only [World.size_alloc] using h
      have B_5 := B_2.alloc (by simp only [World.size_alloc]; omega) (.cells #[.slice E q e0, .int .i64 cl] 43)
      clear B_2
      have cp_6 := p_4.cells
      have fp_6 := p_4.free
      have cx_7 := x_5.cells
      have fx_7 := x_5.free
      go_wp2_with fail
      refine (sSchemaOk_any _ _ _ _ _ _ _ ats cs _ (R.out.below B_5 (Nat.le_refl _))).mono ?_
      rw [H1.out]
      rintro e w1 ⟨rfl, b⟩
      clear cp_6 fp_6
      clear cx_7 fx_7
      simp only [World.size_alloc] at b
      have t_8 := b.size
      simp only [World.size_alloc] at t_8
      have z_8 : w.heap.size ≤ w1.heap.size := by omega
      have p_9 := p_4.same (same_below b (by omega))
      clear p_4
      have x_9 := x_5.same (same_below b (by omega))
      clear x_5
      have B_8 := B_5.trans (b.mono (by omega))
      clear B_5 b
      have cp_10 := p_9.cells
      have fp_10 := p_9.free
      have cx_11 := x_9.cells
      have fx_11 := x_9.free
      go_wp2_with fail
      go_ret
      exact ⟨by rw [HV.out]; rfl, B_8⟩

end Go.Proofs.Ytchkmcikpamdeaa
