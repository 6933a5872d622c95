/-
  Totals and cells measured, copied and compared by the law file's helpers.
-/
import Derived.Test.YtchkmcikpamdeaaStat
import Derived.Test.YtchkmcikpamdeaaSSW
namespace Go.Proofs.Ytchkmcikpamdeaa
open Go.RowKit
set_option linter.unusedSimpArgs false
set_option linter.unusedVariables false
/-- Totals and cells that a call owns: the totals below mid, the cells from mid on. -/
structure OwSta (lo hi : Nat) (w : World) (A C : Option Addr) (n c m d mid : Nat) (gs : List Hd) (ts : List Int) (xss : List (List Int)) : Prop where
  tot : Ow 3 lo mid w A n c (ts.map (Value.int .i64))
  cel : OwSS mid hi w C m d gs (iss xss)
  le : lo ≤ mid ∧ mid ≤ hi
theorem OwSta.same {lo hi : Nat} {w w' : World} {A C : Option Addr} {n c m d mid : Nat} {gs : List Hd} {ts : List Int} {xss : List (List Int)} (h : OwSta lo hi w A C n c m d mid gs ts xss) (s : Same lo hi w w') : OwSta lo hi w' A C n c m d mid gs ts xss :=
  ⟨h.tot.same (fun k h1 h2 => s k h1 (Nat.lt_of_lt_of_le h2 h.le.2)), h.cel.same (fun k h1 h2 => s k (Nat.le_trans h.le.1 h1) h2), h.le⟩
theorem OwSta.sta {lo hi : Nat} {w : World} {A C : Option Addr} {n c m d mid : Nat} {gs : List Hd} {ts : List Int} {xss : List (List Int)} (h : OwSta lo hi w A C n c m d mid gs ts xss) (hn : n ≤ 1048576) (hm : m ≤ 1048576) (hb : totI xss ≤ 1048576) : Sta w A C n m gs ts xss :=
  ⟨h.tot.rd, h.cel.rd, hn, hm, hb⟩
theorem toIntS_own2 (A : Option Addr) (n c : Nat) (xs : List Int) (w : World) (h : Rd w A n (xs.map (Value.int .i64))) (hn : n ≤ 1073741824) :
    Calls Try.prog 52 #[.slice A n c] w fun e w' => ∃ g, e = .returned (.slice (some ⟨g, 0, none⟩) n n) ∧ Ow 3 w.heap.size w'.heap.size w' (some ⟨g, 0, none⟩) n n (xs.map (Value.int .i64)) ∧ Below w.heap.size w w' :=
  (toIntS_any A n c xs w h hn).mono fun e w' ⟨h1, h2, h3⟩ => ⟨_, h1, Ow.of_new h2, h3⟩
theorem toIntSS_own2 (A : Option Addr) (n c : Nat) (hs : List Hd) (xss : List (List Int)) (w : World) (h : RdSS w A n hs (iss xss)) (hn : n ≤ 1048576) (hb : totI xss ≤ 1048576) :
    Calls Try.prog 53 #[.slice A n c] w fun e w' => ∃ g hs', e = .returned (.slice (some ⟨g, 0, none⟩) n n) ∧ OwSS w.heap.size w'.heap.size w' (some ⟨g, 0, none⟩) n n hs' (iss xss) ∧ Below w.heap.size w w' :=
  (toIntSS_any A n c hs xss w h hn hb).mono fun e w' ⟨hs', h1, h2, h3⟩ => ⟨_, hs', h1, h2, h3⟩

set_option maxHeartbeats 2000000 in
theorem toStats_any (A C : Option Addr) (n c m d : Nat) (gs : List Hd) (ts : List Int) (xss : List (List Int)) (w : World) (r : Sta w A C n m gs ts xss) :
    Calls Try.prog 14 #[.agg #[.slice A n c, .slice C m d]] w fun e w' => ∃ g1 g2 mid hs', e = .returned (.agg #[.slice (some ⟨g1, 0, none⟩) n n, .slice (some ⟨g2, 0, none⟩) m m]) ∧ OwSta w.heap.size w'.heap.size w' (some ⟨g1, 0, none⟩) (some ⟨g2, 0, none⟩) n n m m mid hs' ts xss ∧ Below w.heap.size w w' := by
  have hb0 : Below w.heap.size w (((w.alloc (.cells #[.slice A n c, .slice C m d] 29)).alloc (.cells #[.slice none 0 0, .slice none 0 0] 35)).alloc (.cells #[.slice none 0 0, .slice none 0 0] 35)) := by go_grown
  have HB0 := Lib.hid hb0
  have R := Lib.hid (r.below hb0 (Nat.le_refl _)); have R0 := Lib.hid r
  have hn := r.hq; have hm := r.hp; have hbb := r.hb
  clear r hb0
  go_enter Try.func14, Try.ntmps14
  go_wp2_with fail
  refine (toIntS_own2 A n c ts _ R.out.tot (by omega)).mono ?_
  rintro e w1 ⟨g1, rfl, o1, b1⟩
  simp only [World.size_alloc] at o1 b1
  have bc : ∀ b o, b < w.heap.size + 1 + 1 + 1 → w1.cell? ⟨b, o, none⟩ = (((w.alloc (.cells #[.slice A n c, .slice C m d] 29)).alloc (.cells #[.slice none 0 0, .slice none 0 0] 35)).alloc (.cells #[.slice none 0 0, .slice none 0 0] 35)).cell? ⟨b, o, none⟩ := fun b o hb => b1.cell (p := ⟨b, o, none⟩) hb
  have bf : ∀ b o, b < w.heap.size + 1 + 1 + 1 → w1.frozen? ⟨b, o, none⟩ = (((w.alloc (.cells #[.slice A n c, .slice C m d] 29)).alloc (.cells #[.slice none 0 0, .slice none 0 0] 35)).alloc (.cells #[.slice none 0 0, .slice none 0 0] 35)).frozen? ⟨b, o, none⟩ := fun b o hb => b1.frozen (p := ⟨b, o, none⟩) hb
  have bz := b1.size
  simp only [World.size_alloc] at bz
  have cc1 : w1.cell? ⟨w.heap.size, 1, none⟩ = some (.slice C m d) := by rw [bc _ _ (by omega)]; simp [go_sem, World.cell?_alloc_past]
  have d10 : w1.cell? ⟨w.heap.size + 1, 0, none⟩ = some (.slice none 0 0) := by rw [bc _ _ (by omega)]; simp [go_sem, World.cell?_alloc_past]
  have d20 : w1.cell? ⟨w.heap.size + 1 + 1, 0, none⟩ = some (.slice none 0 0) := by rw [bc _ _ (by omega)]; simp [go_sem, World.cell?_alloc_past]
  have k10 : w1.frozen? ⟨w.heap.size + 1, 0, none⟩ = false := by rw [bf _ _ (by omega)]; simp [go_sem, World.cell?_alloc_past]
  have k20 : w1.frozen? ⟨w.heap.size + 1 + 1, 0, none⟩ = false := by rw [bf _ _ (by omega)]; simp [go_sem, World.cell?_alloc_past]
  have d11 : w1.cell? ⟨w.heap.size + 1, 1, none⟩ = some (.slice none 0 0) := by rw [bc _ _ (by omega)]; simp [go_sem, World.cell?_alloc_past]
  have d21 : w1.cell? ⟨w.heap.size + 1 + 1, 1, none⟩ = some (.slice none 0 0) := by rw [bc _ _ (by omega)]; simp [go_sem, World.cell?_alloc_past]
  have k11 : w1.frozen? ⟨w.heap.size + 1, 1, none⟩ = false := by rw [bf _ _ (by omega)]; simp [go_sem, World.cell?_alloc_past]
  have k21 : w1.frozen? ⟨w.heap.size + 1 + 1, 1, none⟩ = false := by rw [bf _ _ (by omega)]; simp [go_sem, World.cell?_alloc_past]
  have HO1 := Lib.hid o1; have HB1 := Lib.hid (HB0.out.trans (b1.mono (by omega)))
  clear bc bf o1 b1
  have HBV : Hid (Below w.heap.size w (w1.setCell ⟨w.heap.size + 1 + 1, 0, none⟩ (.slice (some ⟨g1, 0, none⟩) n n))) := by have hb := HB1.out; unfold Hid; go_grown
  have RC1 : Hid (RdSS (w1.setCell ⟨w.heap.size + 1 + 1, 0, none⟩ (.slice (some ⟨g1, 0, none⟩) n n)) C m gs (iss xss)) := R0.out.cel.below HBV.out (Nat.le_refl _)
  go_wp2_with fail
  refine (toIntSS_own2 C m d gs xss (w1.setCell ⟨w.heap.size + 1 + 1, 0, none⟩ (.slice (some ⟨g1, 0, none⟩) n n)) RC1.out hm hbb).mono ?_
  rintro e w2 ⟨g2, hs', rfl, o2, b2⟩
  simp only [World.size_setCell] at o2 b2
  have bc : ∀ b o, b < w1.heap.size → w2.cell? ⟨b, o, none⟩ = (w1.setCell ⟨w.heap.size + 1 + 1, 0, none⟩ (.slice (some ⟨g1, 0, none⟩) n n)).cell? ⟨b, o, none⟩ := fun b o hb => b2.cell (p := ⟨b, o, none⟩) hb
  have bf : ∀ b o, b < w1.heap.size → w2.frozen? ⟨b, o, none⟩ = (w1.setCell ⟨w.heap.size + 1 + 1, 0, none⟩ (.slice (some ⟨g1, 0, none⟩) n n)).frozen? ⟨b, o, none⟩ := fun b o hb => b2.frozen (p := ⟨b, o, none⟩) hb
  have bz2 := b2.size
  simp only [World.size_setCell] at bz2
  have c10 : w2.cell? ⟨w.heap.size + 1, 0, none⟩ = some (.slice none 0 0) := by rw [bc _ _ (by omega)]; simp [go_sem, World.cell?_alloc_past, d10, d11, d20, d21]
  have f10 : w2.frozen? ⟨w.heap.size + 1, 0, none⟩ = false := by rw [bf _ _ (by omega)]; simp [go_sem, World.cell?_alloc_past, k10, k11, k20, k21]
  have f20 : w2.frozen? ⟨w.heap.size + 1 + 1, 0, none⟩ = false := by rw [bf _ _ (by omega)]; simp [go_sem, World.cell?_alloc_past, k10, k11, k20, k21]
  have c11 : w2.cell? ⟨w.heap.size + 1, 1, none⟩ = some (.slice none 0 0) := by rw [bc _ _ (by omega)]; simp [go_sem, World.cell?_alloc_past, d10, d11, d20, d21]
  have f11 : w2.frozen? ⟨w.heap.size + 1, 1, none⟩ = false := by rw [bf _ _ (by omega)]; simp [go_sem, World.cell?_alloc_past, k10, k11, k20, k21]
  have f21 : w2.frozen? ⟨w.heap.size + 1 + 1, 1, none⟩ = false := by rw [bf _ _ (by omega)]; simp [go_sem, World.cell?_alloc_past, k10, k11, k20, k21]
  have c20 : w2.cell? ⟨w.heap.size + 1 + 1, 0, none⟩ = some (.slice (some ⟨g1, 0, none⟩) n n) := by rw [bc _ _ (by omega)]; simp [go_sem, World.cell?_alloc_past, d10, d11, d20, d21]
  have c21 : w2.cell? ⟨w.heap.size + 1 + 1, 1, none⟩ = some (.slice none 0 0) := by rw [bc _ _ (by omega)]; simp [go_sem, World.cell?_alloc_past, d10, d11, d20, d21]
  have HO2 := Lib.hid o2
  have HO3 := Lib.hid ((HO1.out.same (same_set (b := w.heap.size + 1 + 1) (off := 0) (u := .slice (some ⟨g1, 0, none⟩) n n) (by omega))).same (same_below b2 (Nat.le_refl _)))
  have HB2 := Lib.hid (HBV.out.trans (b2.mono (by omega)))
  clear bc bf o2 b2 cc1 d10 d11 d20 d21 k10 k11 k20 k21
  go_wp2_with fail
  refine bodyPost_ret (v := .agg #[.slice (some ⟨g1, 0, none⟩) n n, .slice (some ⟨g2, 0, none⟩) m m]) (by simp [results, Try.results14, go_sem, c10, c11, c20, c21]) rfl ⟨g1, g2, w1.heap.size, hs', rfl, ⟨?_, ?_, ?_⟩, ?_⟩
  · refine Ow.wide (lo := w.heap.size + 1 + 1 + 1) ?_ (by omega) (Nat.le_refl _)
    exact ((HO3.out.same (same_set (by omega))).same (same_set (by omega))).same (same_set (by omega))
  · have h := ((HO2.out.same (same_set (b := w.heap.size + 1 + 1) (off := 1) (u := .slice (some ⟨g2, 0, none⟩) m m) (by omega))).same (same_set (b := w.heap.size + 1) (off := 0) (u := .slice (some ⟨g1, 0, none⟩) n n) (by omega))).same (same_set (b := w.heap.size + 1) (off := 1) (u := .slice (some ⟨g2, 0, none⟩) m m) (by omega))
    simpa only [World.size_setCell] using h
  · exact ⟨by omega, by simpa only [World.size_setCell] using bz2⟩
  · have hB := HB2.out
    go_grown

set_option maxHeartbeats 1000000 in
theorem eqStats_same (A C A' C' : Option Addr) (n c m d c' d' : Nat) (gs hs : List Hd) (ts : List Int) (xss : List (List Int)) (w : World) (r : Sta w A C n m gs ts xss) (r' : Sta w A' C' n m hs ts xss) :
    Calls Try.prog 17 #[.agg #[.slice A n c, .slice C m d], .agg #[.slice A' n c', .slice C' m d']] w fun e w' => e = .returned (.bool true) ∧ Below w.heap.size w w' := by
  have hb0 : Below w.heap.size w ((w.alloc (.cells #[.slice A n c, .slice C m d] 35)).alloc (.cells #[.slice A' n c', .slice C' m d'] 35)) := by go_grown
  have HB0 := Lib.hid hb0
  have R := Lib.hid (r.below hb0 (Nat.le_refl _)); have R' := Lib.hid (r'.below hb0 (Nat.le_refl _))
  have HB := Lib.hid (Below.refl (w.heap.size + 1 + 1) ((w.alloc (.cells #[.slice A n c, .slice C m d] 35)).alloc (.cells #[.slice A' n c', .slice C' m d'] 35)))
  have hn := r.hq; have hm := r.hp; have hbb := r.hb
  clear r r' hb0
  go_enter Try.func17, Try.ntmps17
  go_wp2_with fail
  refine (lift (eqIntS_same A A' n c c' ts _ R.out.tot R'.out.tot (by omega)) HB.out (by simp)).mono ?_
  rintro e w1 ⟨rfl, hb1⟩
  obtain ⟨bc, bf, bz⟩ := bcell hb1
  have c01 : w1.cell? ⟨w.heap.size, 1, none⟩ = some (.slice C m d) := by rw [bc _ _ (by omega)]; simp [go_sem, World.cell?_alloc_past]
  have c11 : w1.cell? ⟨w.heap.size + 1, 1, none⟩ = some (.slice C' m d') := by rw [bc _ _ (by omega)]; simp [go_sem, World.cell?_alloc_past]
  have HB1 := Lib.hid (HB0.out.trans (hb1.mono (by omega)))
  have RC := Lib.hid (R.out.cel.below hb1 (by simp)); have RC' := Lib.hid (R'.out.cel.below hb1 (by simp))
  have hz := HB1.out.size
  clear hb1 bc bf bz
  go_wp2_with fail
  refine (eqIntSS_same C C' m d d' gs hs xss _ RC.out RC'.out hm hbb).mono ?_
  rintro e w2 ⟨rfl, hb2⟩
  have HB2 := Lib.hid (HB1.out.trans (hb2.mono hz))
  clear hb2
  go_wp2_with fail
  go_ret
  exact ⟨rfl, HB2.out⟩

set_option maxHeartbeats 1000000 in
theorem szStats_any (A C : Option Addr) (n c m d : Nat) (gs : List Hd) (xss : List (List Int)) (left : Int) (w : World) (rc : RdSS w C m gs (iss xss)) (hc : ∀ x ∈ gs, x.2.1 ≤ 9223372036854775807) (h0 : 0 ≤ left) (h1 : left ≤ 1048576) (hn : n ≤ 9223372036854775807) (hm : m ≤ 9223372036854775807) :
    Calls Try.prog 10 #[.agg #[.slice A n c, .slice C m d], .int .i64 left] w fun e w' => e = .returned (.int .i64 (szI left ((n : Int) + ((m : Int) + (tot (iss xss) : Int))))) ∧ Below w.heap.size w w' := by
  have hb := below_alloc1 (w := w) (.cells #[.slice A n c, .slice C m d] 29)
  have HB := Lib.hid hb
  have RC := Lib.hid (rc.below hb (Nat.le_refl _)); have HC := Lib.hid hc
  clear rc hb hc
  by_cases c1 : (n : Int) ≤ left
  · have HT := Lib.hid (szI_yes c1)
    by_cases c2 : (m : Int) + (tot (iss xss) : Int) ≤ left - (n : Int)
    · have HT2 := Lib.hid (szI_yes c2)
      have HS : Hid (szI left ((n : Int) + ((m : Int) + (tot (iss xss) : Int))) = left - (n : Int) - ((m : Int) + (tot (iss xss) : Int))) := by unfold Hid; rw [szI_yes (by omega)]; omega
      go_enter Try.func10, Try.ntmps10
      go_wp2_with fail
      refine (szIntS_any A n c left h0 h1 hn _).mono ?_
      rw [HT.out]
      rintro e w1 ⟨rfl, rfl⟩
      go_wp2_with fail
      refine (szIntSS_any C m d gs (iss xss) _ _ (by omega) (by omega) hm RC.out HC.out).mono ?_
      rw [HT2.out]
      rintro e w2 ⟨rfl, rfl⟩
      go_wp2_with fail
      go_ret
      exact ⟨by rw [HS.out]; rfl, HB.out⟩
    · have HT2 := Lib.hid (szI_no (left := left - (n : Int)) (n := (m : Int) + (tot (iss xss) : Int)) (by omega))
      have HS : Hid (szI left ((n : Int) + ((m : Int) + (tot (iss xss) : Int))) = -1) := szI_no (by omega)
      go_enter Try.func10, Try.ntmps10
      go_wp2_with fail
      refine (szIntS_any A n c left h0 h1 hn _).mono ?_
      rw [HT.out]
      rintro e w1 ⟨rfl, rfl⟩
      go_wp2_with fail
      refine (szIntSS_any C m d gs (iss xss) _ _ (by omega) (by omega) hm RC.out HC.out).mono ?_
      rw [HT2.out]
      rintro e w2 ⟨rfl, rfl⟩
      go_wp2_with fail
      go_ret
      exact ⟨by rw [HS.out]; rfl, HB.out⟩
  · have HT := Lib.hid (szI_no (left := left) (n := (n : Int)) (by omega))
    have HS : Hid (szI left ((n : Int) + ((m : Int) + (tot (iss xss) : Int))) = -1) := szI_no (by omega)
    go_enter Try.func10, Try.ntmps10
    go_wp2_with fail
    refine (szIntS_any A n c left h0 h1 hn _).mono ?_
    rw [HT.out]
    rintro e w1 ⟨rfl, rfl⟩
    go_wp2_with fail
    go_ret
    exact ⟨by rw [HS.out]; rfl, HB.out⟩

end Go.Proofs.Ytchkmcikpamdeaa
