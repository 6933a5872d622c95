/-
  Marks in attributes and schemas; what is marked is forgotten.
-/
import Derived.Test.YtchkmcikpamdeaaMarkT
namespace Go.Proofs.Ytchkmcikpamdeaa
open Go.RowKit
set_option linter.unusedSimpArgs false
set_option linter.unusedVariables false
theorem Ow.far {e : TypeId} {lo hi : Nat} {w w' : World} {A : Option Addr} {n c : Nat} {xs : List Value} (h : Ow e lo hi w A n c xs) (hs : ∀ g, (Value.slice A n c).ownBlock = some g → Same g (g + 1) w w') : Ow e lo hi w' A n c xs := by
  refine ⟨⟨h.own.1, ?_⟩, h.top⟩
  rcases h.own.2 with h2 | ⟨g, cap, cur, a, b, c', d⟩
  · exact .inl h2
  · exact .inr ⟨g, cap, cur, a, b, by rw [hs g (by rw [a]; rfl) g (Nat.le_refl _) (Nat.lt_succ_self _)]; exact c', d⟩
theorem OwN.far {sz : Nat} {e : TypeId} {lo hi : Nat} {w w' : World} {A : Option Addr} {n c : Nat} {xs : List Value} (h : OwN sz e lo hi w A n c xs) (hs : ∀ g, (Value.slice A n c).ownBlock = some g → Same g (g + 1) w w') : OwN sz e lo hi w' A n c xs := by
  refine ⟨⟨h.own.1, ?_⟩, h.top⟩
  rcases h.own.2 with h2 | ⟨g, cap, cur, a, b, c', d⟩
  · exact .inl h2
  · exact .inr ⟨g, cap, cur, a, b, by rw [hs g (by rw [a]; rfl) g (Nat.le_refl _) (Nat.lt_succ_self _)]; exact c', d⟩
theorem OwA.far {lo hi : Nat} {w w' : World} {a : AD} {h : AH} (o : OwA lo hi w a h) (hs : ∀ g, hB h g → Same g (g + 1) w w') : OwA lo hi w' a h :=
  ⟨o.cuts.far fun g hg => hs g (.inl hg), o.vals.far fun g hg => hs g (.inr hg), o.two⟩
/-- Within the very block of the slice. -/
theorem ow_tight {e : TypeId} {lo hi : Nat} {w : World} {A : Option Addr} {n c : Nat} {xs : List Value} (h : Ow e lo hi w A n c xs) (hle : lo ≤ hi) :
    ∃ l r, Ow e l r w A n c xs ∧ lo ≤ l ∧ r ≤ hi ∧ ∀ g, (Value.slice A n c).ownBlock ≠ some g → g + 1 ≤ l ∨ r ≤ g := by
  cases hb : (Value.slice A n c).ownBlock with
  | none => exact ⟨lo, lo, ⟨h.own, fun k hk => by rw [hb] at hk; cases hk⟩, Nat.le_refl _, hle, fun g _ => by omega⟩
  | some g =>
    refine ⟨g, g + 1, ⟨own_reown h.own (fun k hk => by rw [hb] at hk; injection hk with hk; omega), fun k hk => by rw [hb] at hk; injection hk with hk; omega⟩, (h.own.lt g hb).1, h.top g hb, fun k hk => ?_⟩
    have : g ≠ k := fun e => hk (by rw [e])
    omega
theorem atot_ge (a : AD) : a.cuts.length + a.vals.length ≤ atot a := by unfold atot; omega

set_option maxRecDepth 20000 in
set_option maxHeartbeats 700000 in
theorem markAttrS_any (lo hi n c k : Nat) (A : Option Addr) (hs : List AH) (ats : List AD) (w : World) (h : OwAS lo hi w A n c hs ats) (hhi : hi ≤ w.heap.size) (hle : lo ≤ hi) (hn : n ≤ 1048576) (hb : asTot ats ≤ 1048576) (hk : k ≤ 1048576) :
    Calls Try.prog 62 #[.slice A n c, .int .i64 (k : Nat)] w fun e w' => (∃ K : Nat, e = .returned (.int .i64 (K : Nat)) ∧ K ≤ k + n + asTot ats) ∧ Only lo hi w w' := by
  have HAp := Lib.hid h.rows.apart
  have HOff := Lib.hid h.off
  have HLn := Lib.hid h.len; have HHl := Lib.hid h.hlen
  have H0 := Lib.hid h.hd
  have HR0 : Hid (∀ (j : Nat) (h : AH) (a : AD), 0 ≤ j → hs[j]? = some h → ats[j]? = some a → OwA lo hi w a h) := fun j x a _ h1 h2 => h.rows.row j x a h1 h2
  have HY0 : Hid (∀ (j : Nat) (x : AH), hs[j]? = some x → (ascells ats hs)[j * 3 + 1]? = some (hdV x.1) ∧ (ascells ats hs)[j * 3 + 2]? = some (hdV x.2)) := fun j x hx => by
    have hj : j < hs.length := (List.getElem?_eq_some_iff.1 hx).1
    have hj2 : j < ats.length := by rw [h.len, ← h.hlen]; exact hj
    have ha : ats[j]? = some ats[j] := List.getElem?_eq_getElem hj2
    exact (ascells_get ha hx).2
  clear h
  go_enter Try.func62, Try.ntmps62
  go_wp2_with fail
  go_loopw [1, 5] (fun kk i wr => ∃ (q K : Nat) (ys : List Value), q ≤ n ∧ i = .int .i64 (q : Nat) ∧ kk = .int .i64 (K : Nat) ∧ K ≤ k + q + asTo ats q ∧ OwN 3 71 lo hi wr A n c ys ∧ Hid (∀ (j : Nat) (x : AH), hs[j]? = some x → ys[j * 3 + 1]? = some (hdV x.1) ∧ ys[j * 3 + 2]? = some (hdV x.2)) ∧ Hid (∀ (j : Nat) (h : AH) (a : AD), q ≤ j → hs[j]? = some h → ats[j]? = some a → OwA lo hi wr a h) ∧ Only lo hi w wr) (fun _ i _ => n - (intOf i).toNat)
  case atStart => exact ⟨0, k, _, Nat.zero_le _, rfl, rfl, by omega, H0.out, HY0.out, HR0.out, Only.refl _ _ _⟩
  case round =>
    obtain ⟨q, K, ys, hq, rfl, rfl, hK, hown, hys, hrows, ho⟩ := hrel
    have HO := Lib.hid ho
    have hsz := ho.size
    clear ho
    have hto : asTo ats q ≤ asTot ats := sum_take_le _ _
    by_cases hlt : q < n
    · obtain ⟨a, ha⟩ : ∃ a, ats[q]? = some a := ⟨_, List.getElem?_eq_getElem (by rw [HLn.out]; exact hlt)⟩
      obtain ⟨x, hx⟩ : ∃ x, hs[q]? = some x := ⟨_, List.getElem?_eq_getElem (by rw [HHl.out]; exact hlt)⟩
      have hto2 : asTo ats (q + 1) = asTo ats q + atot a := asTo_succ ha
      have hto3 : asTo ats (q + 1) ≤ asTot ats := sum_take_le _ _
      have hat := atot_ge a
      obtain ⟨gH, hA⟩ : ∃ gH, A = some ⟨gH, 0, none⟩ := by
        rcases hown.own.2 with ⟨h2, _⟩ | ⟨g, cap, cur, e, _⟩
        · have := hown.own.1; rw [h2] at *; omega
        · injection e with e1; exact ⟨g, e1⟩
      subst hA
      have hblk : (Value.slice (some ⟨gH, 0, none⟩) n c).ownBlock = some gH := rfl
      have hgH := hown.own.lt gH rfl
      have HOwn := Lib.hid hown
      have hrow := hrows.out q x a (Nat.le_refl _) hx ha
      have HRow := Lib.hid hrow
      have n0 : (q : Int) < (n : Int) := by omega
      have n1 : (0 : Int) ≤ (q : Int) := Int.natCast_nonneg _
      have hcl : x.1.2.1 = a.cuts.length := by have := hrow.cuts.own.1; simpa using this.symm
      have hvl : x.2.2.1 = a.vals.length := by have := hrow.vals.own.1; simpa using this.symm
      have hoffx : ∀ (j : Nat) (y : AH), hs[j]? = some y → hB y gH → False := fun j y hy hg => HOff.out j y gH hy hblk hg
      obtain ⟨⟨ca, cn, cc⟩, ⟨va, vn, vc⟩⟩ := x
      simp only at hcl hvl
      have HSum : Hid (K + 1 + cn + vn ≤ k + (q + 1) + asTo ats (q + 1)) := by unfold Hid; omega
      have hcn : cn ≤ 1048576 ∧ vn ≤ 1048576 ∧ K ≤ 4194304 := by omega
      clear hown hrow hcl hvl hto hto2 hto3 hat hK
      go_wp2_with fail
      refine (markText_any K (by omega) wr).mono ?_
      rintro e w2 ⟨⟨s, rfl⟩, b⟩
      have hown2 := HOwn.out.same (same_below b (by omega))
      have hsz2 := b.size
      have hfr : w2.frozen? ⟨gH, q * 3, none⟩ = false := hown2.own.frozenAt (q * 3)
      obtain ⟨old, hold⟩ : ∃ old, w2.cell? ⟨gH, q * 3, none⟩ = some old := ⟨_, by rw [hown2.own.cellAt (q * 3) (by omega)]; exact List.getElem?_eq_getElem (by have := hown2.own.1; omega)⟩
      obtain ⟨hs1, hs2⟩ := hown2.own.stored (q * 3) (Value.string s)
      have hs3 : Only gH (gH + 1) w2 (w2.setCell ⟨gH, q * 3, none⟩ (.string s)) := Only.of_grown hs2 (fun k hk => by have hk' : some gH = some k := hk; injection hk' with hk'; omega)
      have hz3 : (w2.setCell ⟨gH, q * 3, none⟩ (.string s)).heap.size = w2.heap.size := World.size_setCell ..
      obtain ⟨W3, hW3⟩ : ∃ W3, W3 = w2.setCell ⟨gH, q * 3, none⟩ (.string s) := ⟨_, rfl⟩
      rw [← hW3] at hs1 hs3 hz3
      have HN3 := Lib.hid (show OwN 3 71 lo hi W3 (some ⟨gH, 0, none⟩) n c (ys.set (q * 3) (.string s)) from ⟨hs1, hown2.top⟩)
      have HO3 := Lib.hid (HO.out.trans ((Only.of_below (l := lo) (h := hi) b (Nat.le_refl _)).trans (hs3.mono hgH.1 (HOwn.out.top gH hblk))))
      have HY3 : Hid (∀ (j : Nat) (x : AH), hs[j]? = some x → (ys.set (q * 3) (.string s))[j * 3 + 1]? = some (hdV x.1) ∧ (ys.set (q * 3) (.string s))[j * 3 + 2]? = some (hdV x.2)) := fun j y hy => by
        rw [List.getElem?_set_ne (by omega), List.getElem?_set_ne (by omega)]; exact hys.out j y hy
      have HR3 : Hid (∀ (j : Nat) (h : AH) (a : AD), q ≤ j → hs[j]? = some h → ats[j]? = some a → OwA lo hi W3 a h) := fun j y a' hj h1 h2 => by
        have o := (hrows.out j y a' hj h1 h2).same (same_below b (by omega))
        exact o.far fun g hg => same_only hs3 (by have hne : g ≠ gH := fun e => hoffx j y h1 (e ▸ hg); omega) (by have := o.bd hg; omega)
      have hrow3 := HR3.out q _ a (Nat.le_refl _) hx ha
      obtain ⟨l1, r1, t1, hl1, hr1, hf1⟩ := ow_tight hrow3.cuts hle
      have e1 : W3.cell? ⟨gH, q * 3 + 1, none⟩ = some (.slice ca cn cc) := by rw [HN3.out.own.cellAt (q * 3 + 1) (by omega)]; exact (HY3.out q _ hx).1
      have e0 : w2.cell? ⟨gH, q * 3 + 1, none⟩ = some (.slice ca cn cc) := by rw [hown2.own.cellAt (q * 3 + 1) (by omega)]; exact (hys.out q _ hx).1
      obtain ⟨K1, hK1⟩ : ∃ K1 : Nat, (K : Int) + 1 = (K1 : Nat) := ⟨K + 1, by push_cast; rfl⟩
      have HK1 : Hid (K1 = K + 1) := by unfold Hid; omega
      have HT1 := Lib.hid t1; have HF1 := Lib.hid hf1; have HW3 := Lib.hid hW3; have HV3 := Lib.hid hrow3
      clear hs1 hs2 hs3 hown2 HO HOwn b hW3 t1 hf1 hrow3 HRow hrows hys
      have hKb : K1 ≤ 1099511627776 := by have := HK1.out; omega
      go_wp2_with fail
      rw [← HW3.out]
      refine (markIntS_any l1 _ cc K1 ca _ W3 HT1.out.own (by omega) hKb).mono ?_
      rintro e w4 ⟨rfl, o4, g4, z4⟩
      have ho4 := Ow.only HT1.out g4
      have HN4 := Lib.hid (HN3.out.far fun g hg => by
        obtain rfl : gH = g := by have hk' : some gH = some g := hg; injection hk'
        exact same_only ho4 (HF1.out gH fun e => hoffx q _ hx (.inl e)) (by omega))
      have HR4 : Hid (∀ (j : Nat) (h : AH) (a : AD), q + 1 ≤ j → hs[j]? = some h → ats[j]? = some a → OwA lo hi w4 a h) := fun j y a' hj h1 h2 => by
        have o := HR3.out j y a' (by omega) h1 h2
        exact o.far fun g hg => same_only ho4 (HF1.out g fun e => by have := HAp.out q j _ y g hx h1 (.inl e) hg; omega) (by have := o.bd hg; omega)
      have hv4 := HV3.out.vals.far (w' := w4) fun g hg => same_only ho4 (HF1.out g fun e => HV3.out.two g e hg) (by have := HV3.out.bd (.inr hg); omega)
      obtain ⟨l2, r2, t2, hl2, hr2, hf2⟩ := ow_tight hv4 hle
      have e2 : w4.cell? ⟨gH, q * 3 + 2, none⟩ = some (.slice va vn vc) := by rw [HN4.out.own.cellAt (q * 3 + 2) (by omega)]; exact (HY3.out q _ hx).2
      have HO4 := Lib.hid (HO3.out.trans (ho4.mono hl1 hr1))
      have HT2 := Lib.hid t2; have HF2 := Lib.hid hf2
      have hz4 := ho4.size
      clear o4 g4 z4 ho4 HN3 HO3 HR3 hv4 t2 hf2 e1
      clear hK1
      obtain ⟨K2, hK2⟩ : ∃ K2, K1 + cn = K2 := ⟨_, rfl⟩
      rw [hK2]
      have hK2b : K2 ≤ 1099511627776 := by have := HK1.out; omega
      have HK2 := Lib.hid hK2
      clear hK2
      go_wp2_with fail
      refine (markStringS_any l2 r2 vn vc K2 va _ w4 HT2.out (by omega) (by omega) hK2b).mono ?_
      rintro e w5 ⟨rfl, ho5, _⟩
      have HN5 := Lib.hid (HN4.out.far fun g hg => by
        obtain rfl : gH = g := by have hk' : some gH = some g := hg; injection hk'
        exact same_only ho5 (HF2.out gH fun e => hoffx q _ hx (.inr e)) (by omega))
      have HR5 : Hid (∀ (j : Nat) (h : AH) (a : AD), q + 1 ≤ j → hs[j]? = some h → ats[j]? = some a → OwA lo hi w5 a h) := fun j y a' hj h1 h2 => by
        have o := HR4.out j y a' hj h1 h2
        exact o.far fun g hg => same_only ho5 (HF2.out g fun e => by have := HAp.out q j _ y g hx h1 (.inr e) hg; omega) (by have := o.bd hg; omega)
      have HO5 := Lib.hid (HO4.out.trans (ho5.mono hl2 hr2))
      clear ho5 e2 HN4 HR4 HO4
      go_wp2_with fail
      go_roundw
      case rel => exact ⟨q + 1, K2 + vn, _, by omega, by go_num, by go_num, by have := HSum.out; have h1 := HK1.out; have h2 := HK2.out; omega, HN5.out, HY3.out, HR5.out, HO5.out⟩
      case measure => simp [intOf]; omega
    · obtain rfl : q = n := by omega
      go_wp2_with fail
      go_ret
      exact ⟨⟨K, rfl, by omega⟩, HO.out⟩

end Go.Proofs.Ytchkmcikpamdeaa
