/-
  StatsAdd, plain: what it answers; totals and cells behind a box, and the steps on them.
-/
import Derived.Test.YtchkmcikpamdeaaExOk
import Derived.Test.YtchkmcikpamdeaaStatW
import Derived.Test.YtchkmcikpamdeaaProm
namespace Go.Proofs.Ytchkmcikpamdeaa
open Go.RowKit
set_option linter.unusedSimpArgs false
set_option linter.unusedVariables false

def addStB (ats : List AD) (cs : List ByteArray) (ts : List Int) (xss : List (List Int)) (bs : List Int) (cl u : Int) : Bool :=
  statsB ats cs ts xss && exB ats cs bs cl && decide (cl ≠ -1) && inB u 1 7 && decide (ts.sum + u ≤ 999)
def addAt (l : List Int) (j : Nat) (u : Int) : List Int := l.set j (l.getD j 0 + u)
def addRow (m : Nat) (cl u : Int) (xs : List Int) (b : Int) : List Int := if 0 ≤ b then addAt xs (b * m + cl).toNat u else xs
/-- The first k rows are added to. -/
def addK (m : Nat) (cl u : Int) (bs : List Int) (xss : List (List Int)) : Nat → List (List Int)
  | 0 => xss
  | k + 1 => (addK m cl u bs xss k).set k (addRow m cl u (xss.getD k []) (bs.getD k 0))
def addT (ats : List AD) (cs : List ByteArray) (ts : List Int) (xss : List (List Int)) (bs : List Int) (cl u : Int) : List Int := if addStB ats cs ts xss bs cl u then addAt ts cl.toNat u else ts
def addX (ats : List AD) (cs : List ByteArray) (ts : List Int) (xss : List (List Int)) (bs : List Int) (cl u : Int) : List (List Int) := if addStB ats cs ts xss bs cl u then addK cs.length cl u bs xss xss.length else xss
section
variable {m : Nat} {cl u : Int} {bs : List Int} {xss : List (List Int)}
theorem addK_len : ∀ k, (addK m cl u bs xss k).length = xss.length
  | 0 => rfl
  | k + 1 => by unfold addK; rw [List.length_set, addK_len k]
theorem addK_get {j : Nat} : ∀ k, k ≤ j → (addK m cl u bs xss k)[j]? = xss[j]?
  | 0, _ => rfl
  | k + 1, h => by unfold addK; rw [List.getElem?_set_ne (by omega), addK_get k (by omega)]
theorem addK_set {k : Nat} {xs : List Int} (hx : xss[k]? = some xs) {b : Int} (hb : bs[k]? = some b) : addK m cl u bs xss (k + 1) = (addK m cl u bs xss k).set k (addRow m cl u xs b) := by
  have h1 : xss.getD k [] = xs := by simp [List.getD, hx]
  have h2 : bs.getD k 0 = b := by simp [List.getD, hb]
  show (addK m cl u bs xss k).set k (addRow m cl u (xss.getD k []) (bs.getD k 0)) = _
  rw [h1, h2]
theorem set_self {α : Type} {l : List α} {k : Nat} {x : α} (h : l[k]? = some x) : l.set k x = l := by
  apply List.ext_getElem?
  intro j
  by_cases e : k = j
  · subst e
    have := (List.getElem?_eq_some_iff.1 h).1
    rw [List.getElem?_set_self this, h]
  · rw [List.getElem?_set_ne e]
theorem addK_skip {k : Nat} {xs : List Int} (hx : xss[k]? = some xs) {b : Int} (hb : bs[k]? = some b) (h : b < 0) : addK m cl u bs xss (k + 1) = addK m cl u bs xss k := by
  rw [addK_set hx hb]
  have : addRow m cl u xs b = xs := by unfold addRow; rw [if_neg (by omega)]
  rw [this]
  exact set_self (by rw [addK_get k (Nat.le_refl _)]; exact hx)
theorem addK_do {k i : Nat} {xs : List Int} {x : Int} (hx : xss[k]? = some xs) {b : Int} (hb : bs[k]? = some b) (h : 0 ≤ b) (hi : b * m + cl = (i : Nat)) (hxi : xs[i]? = some x) : addK m cl u bs xss (k + 1) = (addK m cl u bs xss k).set k (xs.set i (x + u)) := by
  rw [addK_set hx hb]
  have : addRow m cl u xs b = xs.set i (x + u) := by
    unfold addRow addAt; rw [if_pos h, hi, Int.toNat_natCast]; simp [List.getD, hxi]
  rw [this]
end
theorem statsB_rowlen {ats : List AD} {cs : List ByteArray} {ts : List Int} {xss : List (List Int)} (h : statsB ats cs ts xss = true) {k : Nat} {xs : List Int} (hx : xss[k]? = some xs) :
    ∃ a nb, ats[k]? = some a ∧ binsI a = (nb : Nat) ∧ 2 ≤ nb ∧ nb ≤ 4 ∧ xs.length = nb * cs.length ∧ (∀ x ∈ xs, 0 ≤ x ∧ x ≤ 999) := by
  unfold statsB at h
  simp only [Bool.and_eq_true] at h
  obtain ⟨⟨h1, _⟩, h2⟩ := h
  have hk := (List.getElem?_eq_some_iff.1 hx).1
  unfold rowsB at h2
  simp only [Bool.or_eq_true, Bool.and_eq_true, decide_eq_true_eq] at h2
  rcases h2 with h2 | ⟨h2, h3⟩
  · omega
  · have ha : ats[k]? = some (ats[k]'(by omega)) := List.getElem?_eq_getElem (by omega)
    have h4 := allB_iff.1 h3 k hk
    rw [show xss.getD k [] = xs by simp [List.getD, hx], show ats.getD k noAD = ats[k]'(by omega) by simp [List.getD, ha]] at h4
    obtain ⟨nb, hn, hn2, hn4⟩ := attrB_bins (schB_get h1 ha)
    unfold rowOkB at h4
    simp only [Bool.and_eq_true, decide_eq_true_eq, Bool.not_eq_true'] at h4
    refine ⟨_, nb, ha, hn, hn2, hn4, ?_, fun x hx => badW_get h4.1.2 hx⟩
    have := h4.1.1
    rw [hn] at this
    exact_mod_cast this

structure StB (lo mid b : Nat) (w : World) (A C : Option Addr) (n c m d : Nat) (hs : List Hd) (ts : List Int) (xss : List (List Int)) : Prop where
  ow : OwSta lo b w A C n c m d mid hs ts xss
  bx : Bx w b 35 #[.slice A n c, .slice C m d]
section
variable {lo mid b n c m d : Nat} {w w' : World} {A C : Option Addr} {hs : List Hd} {ts : List Int} {xss : List (List Int)}
theorem StB.same (h : StB lo mid b w A C n c m d hs ts xss) (s : Same lo (b + 1) w w') : StB lo mid b w' A C n c m d hs ts xss :=
  ⟨h.ow.same (fun k h1 h2 => s k h1 (by omega)), h.bx.same (fun k h1 h2 => s k (by have := h.ow.le; omega) h2)⟩
theorem StB.setT {g j : Nat} {v : Int} (h : StB lo mid b w (some ⟨g, 0, none⟩) C n c m d hs ts xss) :
    StB lo mid b (w.setCell ⟨g, j, none⟩ (.int .i64 v)) (some ⟨g, 0, none⟩) C n c m d hs (ts.set j v) xss ∧ Below lo w (w.setCell ⟨g, j, none⟩ (.int .i64 v)) := by
  obtain ⟨s1, s2⟩ := h.ow.tot.own.stored j (.int .i64 v)
  have h1 := h.ow.tot.top g rfl
  have h2 := (h.ow.tot.own.lt g rfl).1
  have h3 := h.ow.le
  exact ⟨⟨⟨⟨by rw [List.map_set]; exact s1, h.ow.tot.top⟩, h.ow.cel.same (same_set (by omega)), h.ow.le⟩, h.bx.same (same_set (by omega))⟩, Below.setCell (p := ⟨g, j, none⟩) (Below.refl _ _) h2 _⟩
theorem StB.setX {g i k xn xc : Nat} {v : Int} {xs : List Int} (h : StB lo mid b w A C n c m d hs ts xss) (hx : hs[k]? = some (some ⟨g, 0, none⟩, xn, xc)) (hv : xss[k]? = some xs) :
    StB lo mid b (w.setCell ⟨g, i, none⟩ (.int .i64 v)) A C n c m d hs ts (xss.set k (xs.set i v)) ∧ Below lo w (w.setCell ⟨g, i, none⟩ (.int .i64 v)) := by
  have row := h.ow.cel.rows.row k _ _ hx (iss_get hv)
  obtain ⟨s1, s2⟩ := row.own.stored i (.int .i64 v)
  have h1 := row.top g rfl
  have h2 := (row.own.lt g rfl).1
  have h3 := h.ow.le
  refine ⟨⟨⟨h.ow.tot.same (same_set (by omega)), (h.ow.cel.put (vs' := (xs.set i v).map (Value.int .i64)) hx s2 ⟨by rw [List.map_set]; exact s1, row.top⟩).cast ?_, h.ow.le⟩, h.bx.same (same_set (by omega))⟩, Below.setCell (p := ⟨g, i, none⟩) (Below.refl _ _) (by show lo ≤ g; omega) _⟩
  unfold iss; simp only [List.map_set]
theorem StB.get {k : Nat} (h : StB lo mid b w A C n c m d hs ts xss) (hk : k < m) (hp : ∀ xs, xss[k]? = some xs → 0 < xs.length) :
    ∃ ga gr xn xc xs, C = some ⟨ga, 0, none⟩ ∧ hs[k]? = some (some ⟨gr, 0, none⟩, xn, xc) ∧ xss[k]? = some xs ∧ xs.length = xn ∧ w.cell? ⟨ga, k, none⟩ = some (.slice (some ⟨gr, 0, none⟩) xn xc) ∧
      (∀ (i : Nat) (x : Int), xs[i]? = some x → w.cell? ⟨gr, i, none⟩ = some (.int .i64 x)) ∧ (∀ i, w.frozen? ⟨gr, i, none⟩ = false) ∧ mid ≤ gr ∧ gr < b ∧ mid ≤ ga ∧ ga < b ∧ gr ≠ ga := by
  obtain ⟨ga, ca, hv, hg1, hg2, hc1, hc2⟩ := own_form h.ow.cel.hd.own (by omega)
  simp only [Value.slice.injEq] at hv
  obtain ⟨rfl, _, rfl⟩ := hv
  obtain ⟨⟨xa, xn, xc⟩, vs, hx, hvs, hrd, hvl⟩ := h.ow.cel.rd.get hk
  obtain ⟨ys, hys, rfl⟩ := iss_get' hvs
  have hrow := h.ow.cel.rows.row k _ _ hx hvs
  have hyl : ys.length = xn := by simpa using hvl
  have hpos := hp ys hys
  obtain ⟨gr, cr, hrv, hgr1, hgr2, hcr1, hcr2⟩ := own_form hrow.own (by show 0 < xn; omega)
  simp only [Value.slice.injEq] at hrv
  obtain ⟨rfl, _, rfl⟩ := hrv
  refine ⟨ga, gr, xn, xc, ys, rfl, hx, hys, hyl, ?_, fun i x hi => ?_, fun i => hrow.own.frozenAt i, hgr1, hrow.top gr rfl, hg1, h.ow.cel.hd.top ga rfl, fun e => h.ow.cel.off k _ ga hx rfl (by rw [← e]; rfl)⟩
  · rw [h.ow.cel.hd.own.cellAt k (by omega)]; simp [hx, hdV]
  · have hil := (List.getElem?_eq_some_iff.1 hi).1
    rw [hrow.own.cellAt i (by show i < xn * 1; omega)]; simp [hi]
end
theorem addStB_no1 {ats : List AD} {cs : List ByteArray} {ts : List Int} {xss : List (List Int)} {bs : List Int} {cl u : Int} (h : statsB ats cs ts xss = false) : addStB ats cs ts xss bs cl u = false := by unfold addStB; rw [h]; rfl
theorem addStB_no2 {ats : List AD} {cs : List ByteArray} {ts : List Int} {xss : List (List Int)} {bs : List Int} {cl u : Int} (h : exB ats cs bs cl = false) : addStB ats cs ts xss bs cl u = false := by unfold addStB; rw [h, Bool.and_false]; rfl
theorem addStB_no3 {ats : List AD} {cs : List ByteArray} {ts : List Int} {xss : List (List Int)} {bs : List Int} {cl u : Int} (h : cl = -1) : addStB ats cs ts xss bs cl u = false := by unfold addStB; rw [decide_eq_false (by simpa using h), Bool.and_false]; rfl
theorem addStB_no4 {ats : List AD} {cs : List ByteArray} {ts : List Int} {xss : List (List Int)} {bs : List Int} {cl u : Int} (h : inB u 1 7 = false) : addStB ats cs ts xss bs cl u = false := by unfold addStB; rw [h, Bool.and_false]; rfl
theorem addStB_no5 {ats : List AD} {cs : List ByteArray} {ts : List Int} {xss : List (List Int)} {bs : List Int} {cl u : Int} (h : ¬ ts.sum + u ≤ 999) : addStB ats cs ts xss bs cl u = false := by unfold addStB; rw [decide_eq_false h, Bool.and_false]
theorem addStB_yes {ats : List AD} {cs : List ByteArray} {ts : List Int} {xss : List (List Int)} {bs : List Int} {cl u : Int} (h1 : statsB ats cs ts xss = true) (h2 : exB ats cs bs cl = true) (h3 : cl ≠ -1) (h4 : inB u 1 7 = true) (h5 : ts.sum + u ≤ 999) : addStB ats cs ts xss bs cl u = true := by
  unfold addStB; rw [h1, h2, h4, decide_eq_true h3, decide_eq_true h5]; rfl
theorem statsB_lenT {ats : List AD} {cs : List ByteArray} {ts : List Int} {xss : List (List Int)} (h : statsB ats cs ts xss = true) : ts.length = cs.length := by
  unfold statsB totB at h
  simp only [Bool.and_eq_true, decide_eq_true_eq] at h
  exact h.1.2.1.1
theorem idx_lt {bn nb m cn : Nat} (h1 : bn < nb) (h2 : cn < m) : bn * m + cn < nb * m := by
  have h := Nat.mul_le_mul_right m (show bn + 1 ≤ nb by omega)
  rw [Nat.add_mul] at h
  omega
theorem StB.start {lo hi b mid n c m d : Nat} {w : World} {A C : Option Addr} {hs : List Hd} {ts : List Int} {xss : List (List Int)} (h : OwSta lo hi w A C n c m d mid hs ts xss) (h1 : hi ≤ b) (hb : Bx w b 35 #[.slice A n c, .slice C m d]) : StB lo mid b w A C n c m d hs ts xss :=
  ⟨⟨h.tot, h.cel.wide (Nat.le_refl _) h1, ⟨h.le.1, Nat.le_trans h.le.2 h1⟩⟩, hb⟩

theorem exB_cl {ats : List AD} {cs : List ByteArray} {bs : List Int} {cl : Int} (h : exB ats cs bs cl = true) : -1 ≤ cl ∧ cl < cs.length ∧ bs.length = ats.length ∧ exRowB ats bs = true := by
  unfold exB at h
  simp only [Bool.and_eq_true, decide_eq_true_eq] at h
  have := inB_iff.1 h.1.2
  exact ⟨by omega, by omega, h.1.1.2, h.2⟩

end Go.Proofs.Ytchkmcikpamdeaa
