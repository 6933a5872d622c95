/-
  RelP and Rng in one text (a claim holds at most 60 files): readings in a range of blocks; counts in another order, or counted twice.
-/
import Derived.Test.YtchkmcikpamdeaaMerB
import Derived.Test.YtchkmcikpamdeaaRdf
namespace Go.Proofs.Ytchkmcikpamdeaa
open Go.RowKit
set_option linter.unusedSimpArgs false
set_option linter.unusedVariables false
section
variable {lo hi : Nat} {w w' : World}
theorem Rdf.same {A : Option Addr} {n : Nat} {xs : List Value} (h : Rdf (fun j => lo ≤ j ∧ j < hi) w A n xs) (s : Same lo hi w w') : Rdf (fun j => lo ≤ j ∧ j < hi) w' A n xs :=
  ⟨⟨h.rd.len, fun hn => by
    obtain ⟨b, off, rfl, hlt, hc⟩ := h.rd.ex hn
    have hb := h.far hn _ rfl
    have e : ∀ o, w'.cell? ⟨b, o, none⟩ = w.cell? ⟨b, o, none⟩ := fun o => World.cell?_of_block (s b hb.1 hb.2)
    have h0 : xs[0]? = some (xs[0]'(by rw [h.rd.len]; exact hn)) := List.getElem?_eq_getElem _
    exact ⟨b, off, rfl, World.block_lt_of_cell? w' ⟨b, off + 0, none⟩ ((e _).trans (hc 0 _ h0)), fun j u hu => (e _).trans (hc j u hu)⟩⟩, h.far⟩
theorem RdAf.same {a : AD} {h : AH} (r : RdAf (fun j => lo ≤ j ∧ j < hi) w a h) (s : Same lo hi w w') : RdAf (fun j => lo ≤ j ∧ j < hi) w' a h := ⟨r.cuts.same s, r.vals.same s⟩
theorem SchF.same {A C : Option Addr} {n m d : Nat} {hs : List AH} {ats : List AD} {cs : List ByteArray} (r : SchF (fun j => lo ≤ j ∧ j < hi) w A C n m d hs ats cs) (s : Same lo hi w w') : SchF (fun j => lo ≤ j ∧ j < hi) w' A C n m d hs ats cs :=
  ⟨r.hd.same s, r.len, ⟨r.rows.len, fun j h a h1 h2 => ⟨(r.rows.row j h a h1 h2).1.same s, (r.rows.row j h a h1 h2).2⟩⟩, r.cl.same s, r.hn, r.hm, r.md, r.strs⟩
theorem StaF.same {T X : Option Addr} {q p : Nat} {gs : List Hd} {ts : List Int} {xss : List (List Int)} (r : StaF (fun j => lo ≤ j ∧ j < hi) w T X q p gs ts xss) (s : Same lo hi w w') : StaF (fun j => lo ≤ j ∧ j < hi) w' T X q p gs ts xss :=
  ⟨r.tot.same s, r.hd.same s, r.len, fun j h xs h1 h2 => (r.row j h xs h1 h2).same s, r.hq, r.hp, r.hx⟩
theorem Rdf.rng {A : Option Addr} {n : Nat} {xs : List Value} (h : Rdf (fun j => lo ≤ j) w A n xs) : Rdf (fun j => lo ≤ j ∧ j < w.heap.size) w A n xs := h.mono fun j h1 h2 => ⟨h1, h2⟩
theorem SchF.rng {A C : Option Addr} {n m d : Nat} {hs : List AH} {ats : List AD} {cs : List ByteArray} (r : SchF (fun j => lo ≤ j) w A C n m d hs ats cs) : SchF (fun j => lo ≤ j ∧ j < w.heap.size) w A C n m d hs ats cs := r.mono fun j h1 h2 => ⟨h1, h2⟩
theorem StaF.rng {T X : Option Addr} {q p : Nat} {gs : List Hd} {ts : List Int} {xss : List (List Int)} (r : StaF (fun j => lo ≤ j) w T X q p gs ts xss) : StaF (fun j => lo ≤ j ∧ j < w.heap.size) w T X q p gs ts xss := r.mono fun j h1 h2 => ⟨h1, h2⟩
end

/-- ts2 and xss2 are ts and xss, every count f times, the classes in the order s. -/
structure RelT (m : Nat) (f : Int) (s : Nat → Nat) (ts ts2 : List Int) (xss xss2 : List (List Int)) : Prop where
  hf : f = 1 ∨ (f = 2 ∧ ts.sum ≤ 499)
  lt : ∀ j, j < m → s j < m
  perm : ∀ g : Nat → Int, ((List.range m).map fun j => g (s j)).sum = ((List.range m).map g).sum
  lenT : ts2.length = ts.length
  tot : ∀ j, j < m → ts2.getD j 0 = f * ts.getD (s j) 0
  lenX : xss2.length = xss.length
  lenR : ∀ r, r < xss.length → (xss2.getD r []).length = (xss.getD r []).length
  row : ∀ r, r < xss.length → ∀ b j, j < m → b * m + j < (xss.getD r []).length → (xss2.getD r []).getD (b * m + j) 0 = f * (xss.getD r []).getD (b * m + s j) 0

theorem sel_all (m : Nat) (row : List Int) : selRow m (fun _ => true) row = row := by
  unfold selRow
  refine List.ext_getElem? fun i => ?_
  rw [List.getElem?_mapIdx]
  cases row[i]? <;> simp
theorem in_row {m b nb k : Nat} (hb : b < nb) (hk : k < m) : b * m + k < nb * m := by
  have := Nat.mul_le_mul_right m (show b + 1 ≤ nb from hb)
  rw [Nat.add_mul] at this; omega
theorem rel_col {m nb : Nat} {f : Int} {s : Nat → Nat} {row row2 : List Int} (lt : ∀ j, j < m → s j < m) (hl : row.length = nb * m) (h : ∀ b j, j < m → b * m + j < row.length → row2.getD (b * m + j) 0 = f * row.getD (b * m + s j) 0) {k : Nat} (hk : k < m) (sel : Nat → Bool) :
    ∀ b, b ≤ nb → colB m k (selRow m sel row2) b = f * colB m (s k) (selRow m sel row) b
  | 0, _ => by simp [colB]
  | b + 1, hb => by
    have h1 := rel_col lt hl h hk sel b (by omega)
    have h2 : b * m + k < row.length := by rw [hl]; exact in_row hb hk
    show colB m k (selRow m sel row2) b + (selRow m sel row2).getD (b * m + k) 0 = f * (colB m (s k) (selRow m sel row) b + (selRow m sel row).getD (b * m + s k) 0)
    rw [sel_getD hk, sel_getD (lt k hk), h1, h b k hk h2, Int.mul_add]
    split <;> simp
theorem rel_col1 {m nb : Nat} {f : Int} {s : Nat → Nat} {row row2 : List Int} (lt : ∀ j, j < m → s j < m) (hl : row.length = nb * m) (h : ∀ b j, j < m → b * m + j < row.length → row2.getD (b * m + j) 0 = f * row.getD (b * m + s j) 0) {k : Nat} (hk : k < m) :
    colB m k row2 nb = f * colB m (s k) row nb := by
  have := rel_col lt hl h hk (fun _ => true) nb (Nat.le_refl _)
  rwa [sel_all, sel_all] at this
theorem getD_bd {row : List Int} (h : badW row = false) (q : Nat) : 0 ≤ row.getD q 0 ∧ row.getD q 0 ≤ 999 := by
  by_cases hl : q < row.length
  · have := badW_get h (List.getElem_mem hl); simpa [List.getD, hl] using this
  · simp [List.getD, List.getElem?_eq_none (Nat.le_of_not_lt hl)]
theorem col_le {m k : Nat} {row : List Int} (h : badW row = false) {b : Nat} : ∀ nb, b < nb → row.getD (b * m + k) 0 ≤ colB m k row nb
  | 0, hb => by omega
  | nb + 1, hb => by
    have h0 := (colB_bd (m := m) (k := k) (fun x hx => badW_get h hx) nb).1
    have h1 := (getD_bd h (nb * m + k)).1
    show _ ≤ colB m k row nb + row.getD (nb * m + k) 0
    rcases Nat.lt_or_ge b nb with h2 | h2
    · have := col_le (m := m) (k := k) h nb h2; omega
    · obtain rfl : b = nb := by omega
      omega
theorem getD_all {l : List Int} {m : Nat} (h : l.length = m) : ((List.range m).map fun j => l.getD j 0) = l := by
  subst h
  apply List.ext_getElem (by simp)
  intro i h1 h2
  simp [List.getD, h2]
theorem mul_sum (f : Int) (g : Nat → Int) : ∀ l : List Nat, (l.map fun j => f * g j).sum = f * (l.map g).sum
  | [] => by simp
  | x :: l => by simp only [List.map_cons, List.sum_cons, mul_sum f g l, Int.mul_add]
section
variable {m : Nat} {f : Int} {s : Nat → Nat} {ts ts2 : List Int} {xss xss2 : List (List Int)}
theorem RelT.pos (R : RelT m f s ts ts2 xss xss2) : 1 ≤ f := by rcases R.hf with h | ⟨h, _⟩ <;> omega
theorem RelT.sumT (R : RelT m f s ts ts2 xss xss2) (hl : ts.length = m) : ts2.sum = f * ts.sum := by
  have h1 := getD_all (l := ts2) (m := m) (by rw [R.lenT, hl])
  have h2 : ((List.range m).map fun j => ts2.getD j 0) = (List.range m).map fun j => f * ts.getD (s j) 0 := List.map_congr_left fun j hj => R.tot j (List.mem_range.1 hj)
  rw [← h1, h2, R.perm (fun j => f * ts.getD j 0), mul_sum, getD_all hl]
theorem RelT.le999 (R : RelT m f s ts ts2 xss xss2) (hb : badW ts = false) {x : Int} (k : Nat) (hx : x ≤ ts.getD k 0) : f * x ≤ 999 := by
  have h1 := (getD_bd hb k).2
  rcases R.hf with h | ⟨h, h2⟩
  · rw [h]; omega
  · have h3 : ts.getD k 0 ≤ 499 := by
      by_cases hl : k < ts.length
      · have h5 := mem_le_sum (xs := ts) (fun x hx => (badW_get hb hx).1) (List.getElem_mem hl)
        have e : ts.getD k 0 = ts[k] := by simp [List.getD, hl]
        omega
      · simp [List.getD, List.getElem?_eq_none (Nat.le_of_not_lt hl)]
    rw [h]; omega
theorem bad_of {m nb : Nat} {row : List Int} (hm : m = 2 ∨ m = 3) (hl : row.length = nb * m) (h : ∀ b j, b < nb → j < m → 0 ≤ row.getD (b * m + j) 0 ∧ row.getD (b * m + j) 0 ≤ 999) : badW row = false := by
  refine badW_no fun q x hx => inB_iff.2 ?_
  have hq := (List.getElem?_eq_some_iff.1 hx).1
  have e : row.getD q 0 = x := by simp [List.getD, hx]
  have h1 : q / m * m + q % m = q := Nat.div_add_mod' q m
  have h2 : q % m < m := Nat.mod_lt _ (by omega)
  have h3 : q / m < nb := by rw [Nat.div_lt_iff_lt_mul (by omega)]; omega
  have := h _ _ h3 h2
  rwa [h1, e] at this
theorem rel_stats {ats : List AD} {cs : List ByteArray} (R : RelT cs.length f s ts ts2 xss xss2) (h : statsB ats cs ts xss = true) (h0 : ¬ xss.length = 0) : statsB ats cs ts2 xss2 = true := by
  have hrow := (statsB_row h h0).2.2
  have hh := h
  unfold statsB at h ⊢
  simp only [Bool.and_eq_true] at h ⊢
  obtain ⟨⟨h1, h2⟩, h3⟩ := h
  have hm := schB_m h1
  unfold totB at h2 ⊢
  simp only [Bool.and_eq_true, decide_eq_true_eq, Bool.not_eq_true'] at h2 ⊢
  obtain ⟨⟨t1, t2⟩, t3⟩ := h2
  have hp := R.pos
  have hsum := R.sumT t1
  refine ⟨⟨h1, ⟨by rw [R.lenT, t1], ?_⟩, ?_⟩, ?_⟩
  · refine bad_of (nb := 1) hm (by rw [R.lenT, t1, Nat.one_mul]) fun b j hb hj => ?_
    obtain rfl : b = 0 := by omega
    rw [Nat.zero_mul, Nat.zero_add, R.tot j hj]
    exact ⟨Int.mul_nonneg (by omega) (getD_bd t2 _).1, R.le999 t2 (s j) (Int.le_refl _)⟩
  · rw [hsum]
    rcases R.hf with h | ⟨h, h2⟩ <;> rw [h] <;> omega
  · unfold rowsB at h3 ⊢
    rw [decide_eq_false h0, Bool.false_or, Bool.and_eq_true, decide_eq_true_eq, allB_iff] at h3
    rw [R.lenX, decide_eq_false h0, Bool.false_or, Bool.and_eq_true, decide_eq_true_eq, allB_iff]
    refine ⟨h3.1, fun r hr => ?_⟩
    have h5 := h3.2 r hr
    have e1 : xss[r]? = some (xss.getD r []) := by simp [List.getD, hr]
    have ha : r < ats.length := by omega
    have e2 : ats[r]? = some (ats.getD r noAD) := by simp [List.getD, ha]
    obtain ⟨nb, b1, b2, b3, b4, b5⟩ := hrow r _ _ e1 e2
    rw [b1] at h5 ⊢
    have hc : ∀ k, k < cs.length → colB cs.length k (xss.getD r []) nb ≤ ts.getD k 0 := by
      unfold rowOkB at h5
      simp only [Bool.and_eq_true, decide_eq_true_eq, Bool.not_eq_true', allB_iff, Int.toNat_natCast] at h5
      exact h5.2
    refine rowOkB_good (by rw [R.lenR r hr, b4]) (bad_of (nb := nb) hm (by rw [R.lenR r hr, b4]) fun b j hb hj => ?_) fun k hk => ?_
    · rw [R.row r hr b j hj (by rw [b4]; exact in_row hb hj)]
      have hs := R.lt j hj
      exact ⟨Int.mul_nonneg (by omega) (getD_bd b5 _).1, R.le999 t2 (s j) (Int.le_trans (col_le b5 nb hb) (hc _ hs))⟩
    · rw [rel_col1 R.lt b4 (R.row r hr) hk, R.tot k hk]
      exact Int.mul_le_mul_of_nonneg_left (hc _ (R.lt k hk)) (by omega)
end

/-- A row, in the order s, every count f times. -/
def rl (m : Nat) (f : Int) (s : Nat → Nat) (l : List Int) : List Int := (List.range m).map fun k => f * l.getD (s k) 0
structure Perm9 (m : Nat) (f : Int) (s : Nat → Nat) : Prop where
  pos : 1 ≤ f
  lt : ∀ j, j < m → s j < m
  perm : ∀ g : Nat → Int, ((List.range m).map fun j => g (s j)).sum = ((List.range m).map g).sum
section
variable {m : Nat} {f : Int} {s : Nat → Nat} (P : Perm9 m f s)
include P
theorem rl_sum {l : List Int} (hl : l.length = m) : (rl m f s l).sum = f * l.sum := by
  unfold rl
  rw [P.perm (fun j => f * l.getD j 0), mul_sum, getD_all hl]
theorem rl_sq {l : List Int} (hl : l.length = m) : sqL (rl m f s l) = f * f * sqL l := by
  unfold sqL rl
  rw [List.map_map]
  have e : ((fun x : Int => x * x) ∘ fun k => f * l.getD (s k) 0) = fun k => (fun j => (f * l.getD j 0) * (f * l.getD j 0)) (s k) := rfl
  rw [e, P.perm (fun j => (f * l.getD j 0) * (f * l.getD j 0))]
  have e2 : ((List.range m).map fun j => (f * l.getD j 0) * (f * l.getD j 0)) = (List.range m).map fun j => (f * f) * (l.getD j 0 * l.getD j 0) := List.map_congr_left fun j _ => by grind
  rw [e2, mul_sum]
  have e3 : ((List.range m).map fun j => l.getD j 0 * l.getD j 0) = l.map fun x => x * x := by
    conv => rhs; rw [← getD_all hl]
    rw [List.map_map]; rfl
  rw [e3]
theorem rl_parts {Ls : List (List Int)} (hl : ∀ l ∈ Ls, l.length = m) : partsL (Ls.map (rl m f s)) = (partsL Ls).map (rl m f s) := by
  unfold partsL
  rw [List.filter_map]
  congr 1
  refine List.filter_congr fun l h => ?_
  show decide (0 < (rl m f s l).sum) = decide (0 < l.sum)
  rw [rl_sum P (hl l h)]
  have hp := P.pos
  rcases Int.lt_or_le 0 l.sum with h1 | h1
  · rw [decide_eq_true h1, decide_eq_true (Int.mul_pos (by omega) h1)]
  · rw [decide_eq_false (show ¬ 0 < f * l.sum by have := Int.mul_le_mul_of_nonneg_left h1 (show 0 ≤ f by omega); omega), decide_eq_false (show ¬ 0 < l.sum by omega)]
omit P in
theorem rl_aF (Ls : List (List Int)) {j : Nat} (hj : j < m) : aF (Ls.map (rl m f s)) j = f * aF Ls (s j) := by
  induction Ls with
  | nil => simp [aF]
  | cons l Ls ih =>
    unfold aF at ih ⊢
    simp only [List.map_cons, List.sum_cons, ih, Int.mul_add]
    unfold rl
    rw [getD_range hj]
theorem rl_all (Ls : List (List Int)) : allI m (Ls.map (rl m f s)) = rl m f s (allI m Ls) := by
  unfold allI rl
  refine List.map_congr_left fun j hj => ?_
  have hj := List.mem_range.1 hj
  rw [getD_range (P.lt j hj)]
  exact rl_aF Ls hj
theorem rl_prod : ∀ {ps : List (List Int)}, (∀ l ∈ ps, l.length = m) → ∃ K : Int, 1 ≤ K ∧ prodL ((ps.map (rl m f s)).map List.sum) = K * prodL (ps.map List.sum)
  | [], _ => ⟨1, by omega, by simp [prodL]⟩
  | l :: ps, h => by
    obtain ⟨K, h1, h2⟩ := rl_prod (ps := ps) fun x hx => h x (by simp [hx])
    refine ⟨f * K, ?_, ?_⟩
    · have := Int.mul_le_mul P.pos h1 (by omega) (by have := P.pos; omega); omega
    · simp only [List.map_cons, prodL, h2, rl_sum P (h l (by simp))]
      grind
end
theorem sh_rel {f n K P sm q sm2 q2 : Int} (e1 : sm2 = f * sm) (e2 : q2 = f * f * q) (hf : 1 ≤ f) (hs : 1 ≤ sm) (hd : sm ∣ P) (hd2 : sm2 ∣ K * P) :
    q2 * (f * n) * (K * P / sm2) = (f * f * K) * (q * n * (P / sm)) := by
  subst e1 e2
  obtain ⟨d, rfl⟩ := hd
  obtain ⟨e, he⟩ := hd2
  have hfs : f * sm ≠ 0 := by have := Int.mul_pos (show 0 < f by omega) (show 0 < sm by omega); omega
  rw [he, Int.mul_ediv_cancel_left _ (by omega : sm ≠ 0), Int.mul_ediv_cancel_left _ hfs]
  have h1 : sm * (K * d) = sm * (f * e) := by grind
  have h2 := Int.eq_of_mul_eq_mul_left (show sm ≠ 0 by omega) h1
  have e3 : f * f * q * (f * n) * e = f * f * q * n * (f * e) := by grind
  rw [e3, ← h2]; grind
theorem mul_sumL (M : Int) {A B : List Int → Int} : ∀ {ps : List (List Int)}, (∀ l ∈ ps, A l = M * B l) → (ps.map A).sum = M * (ps.map B).sum
  | [], _ => by simp
  | l :: ps, h => by
    simp only [List.map_cons, List.sum_cons, h l (by simp), mul_sumL M (ps := ps) fun x hx => h x (by simp [hx]), Int.mul_add]
theorem rl_frac {m : Nat} {f : Int} {s : Nat → Nat} (P : Perm9 m f s) {Ls : List (List Int)} (H : MOk m Ls) : ∃ M : Int, 1 ≤ M ∧ numI m (Ls.map (rl m f s)) = M * numI m Ls ∧ denI m (Ls.map (rl m f s)) = M * denI m Ls := by
  have hp := P.pos
  obtain ⟨K, hK, hpr⟩ := rl_prod P (ps := partsL Ls) fun l hl => H.len l (H.parts hl).1
  have hpr2 : prI (Ls.map (rl m f s)) = K * prI Ls := by unfold prI; rw [rl_parts P H.len, hpr]
  have hn : (allI m (Ls.map (rl m f s))).sum = f * (allI m Ls).sum := by rw [rl_all P, rl_sum P allI_len]
  have hq : sqL (allI m (Ls.map (rl m f s))) = f * f * sqL (allI m Ls) := by rw [rl_all P, rl_sq P allI_len]
  have h1 : 1 ≤ f * f := by have := Int.mul_le_mul hp hp (by omega) (by omega); omega
  refine ⟨f * f * K, by have := Int.mul_le_mul h1 hK (by omega) (by omega); omega, ?_, ?_⟩
  · unfold numI
    rw [hpr2, hn, hq, rl_parts P H.len, List.map_map]
    have := mul_sumL (f * f * K) (A := shS (f * (allI m Ls).sum) (K * prI Ls) ∘ rl m f s) (B := shS (allI m Ls).sum (prI Ls)) (ps := partsL Ls) fun l hl => by
      obtain ⟨g1, g2, g3⟩ := H.parts hl
      have hl2 := H.len l g1
      refine sh_rel (rl_sum P hl2) (rl_sq P hl2) hp g2 g3 ?_
      rw [← hpr2]
      unfold prI
      rw [rl_parts P H.len]
      exact prod_dvd (List.mem_map_of_mem (f := List.sum) (List.mem_map_of_mem (f := rl m f s) hl))
    rw [this]; grind
  · unfold denI
    rw [hpr2, hn]; grind

/-- The shares of one class against its count. -/
def colA (P : Int) (j : Nat) (ps : List (List Int)) : Int := (ps.map fun l => l.getD j 0 * l.getD j 0 * (P / l.sum)).sum
theorem cauchy_step {S A X sm x r P : Int} (hS : 0 ≤ S) (hA : 0 ≤ A) (hs : 1 ≤ sm) (hr : 0 ≤ r) (hP : P = sm * r) (h : P * (X * X) ≤ S * A) (h0 : S = 0 → X = 0) : P * ((X + x) * (X + x)) ≤ (S + sm) * (A + x * x * r) := by
  subst hP
  have e : (S + sm) * (A + x * x * r) = S * A + (S * (x * x * r) + sm * A) + sm * r * (x * x) := by grind
  have e2 : sm * r * ((X + x) * (X + x)) = sm * r * (X * X) + 2 * (sm * r * (X * x)) + sm * r * (x * x) := by grind
  have h9 : 2 * (sm * r * (X * x)) ≤ S * (x * x * r) + sm * A := by
    rcases Int.lt_or_le 0 S with h1 | h1
    · refine Int.le_of_mul_le_mul_left ?_ h1
      have e3 : S * (S * (x * x * r) + sm * A) = r * ((S * x) * (S * x)) + sm * (S * A) := by grind
      have g1 : sm * (sm * r * (X * X)) ≤ sm * (S * A) := Int.mul_le_mul_of_nonneg_left h (by omega)
      have g2 : 0 ≤ r * ((S * x - sm * X) * (S * x - sm * X)) := Int.mul_nonneg hr (by rcases Int.le_total 0 (S * x - sm * X) with h | h; exact Int.mul_nonneg h h; exact Int.mul_nonneg_of_nonpos_of_nonpos h h)
      have e4 : r * ((S * x - sm * X) * (S * x - sm * X)) = r * ((S * x) * (S * x)) - S * (2 * (sm * r * (X * x))) + sm * (sm * r * (X * X)) := by grind
      omega
    · have hX := h0 (by omega)
      obtain rfl : S = 0 := by omega
      subst hX
      have := Int.mul_nonneg (show 0 ≤ sm by omega) hA
      simp; exact this
  omega
theorem cauchy {P : Int} (hP : 1 ≤ P) (j : Nat) : ∀ {ps : List (List Int)}, (∀ l ∈ ps, 1 ≤ l.sum ∧ l.sum ∣ P) →
    0 ≤ (ps.map List.sum).sum ∧ 0 ≤ colA P j ps ∧ ((ps.map List.sum).sum = 0 → aF ps j = 0) ∧ P * (aF ps j * aF ps j) ≤ (ps.map List.sum).sum * colA P j ps
  | [], _ => by simp [colA, aF]
  | l :: ps, h => by
    obtain ⟨h1, h2, h3, h4⟩ := cauchy hP j (ps := ps) fun x hx => h x (by simp [hx])
    obtain ⟨h5, d, hd⟩ := h l (by simp)
    have hd0 : 0 ≤ d := by
      rcases Int.lt_or_le d 0 with h | h
      · have := Int.mul_le_mul_of_nonneg_left (show d ≤ -1 by omega) (show 0 ≤ l.sum by omega); omega
      · exact h
    have e : P / l.sum = d := by rw [hd, Int.mul_ediv_cancel_left _ (by omega : l.sum ≠ 0)]
    have e1 : ((l :: ps).map List.sum).sum = (ps.map List.sum).sum + l.sum := by simp only [List.map_cons, List.sum_cons]; omega
    have e2 : colA P j (l :: ps) = colA P j ps + l.getD j 0 * l.getD j 0 * d := by unfold colA; simp only [List.map_cons, List.sum_cons, e]; omega
    have e3 : aF (l :: ps) j = aF ps j + l.getD j 0 := by unfold aF; simp only [List.map_cons, List.sum_cons]; omega
    rw [e1, e2, e3]
    have hx : 0 ≤ l.getD j 0 * l.getD j 0 := by rcases Int.le_total 0 (l.getD j 0) with h | h; exact Int.mul_nonneg h h; exact Int.mul_nonneg_of_nonpos_of_nonpos h h
    have hxd := Int.mul_nonneg hx hd0
    exact ⟨by omega, by omega, fun h => by omega, cauchy_step h1 h2 h5 hd0 hd h4 h3⟩
theorem parts_at {m : Nat} {Ls : List (List Int)} (H : MOk m Ls) (j : Nat) : aF (partsL Ls) j = aF Ls j := by
  have h : ∀ l ∈ Ls, 0 ≤ l.sum ∧ l.sum ≤ 999 ∧ ∀ x ∈ l, 0 ≤ x ∧ x ≤ 999 := fun l hl => H.row hl
  clear H
  induction Ls with
  | nil => rfl
  | cons l Ls ih =>
    have h1 := ih fun x hx => h x (List.mem_cons_of_mem _ hx)
    obtain ⟨h2, _, h3⟩ := h l List.mem_cons_self
    unfold partsL at h1 ⊢
    rw [List.filter_cons]
    unfold aF at h1 ⊢
    split
    · simp only [List.map_cons, List.sum_cons, h1]
    · rename_i h4
      have h5 : ¬ 0 < l.sum := fun h6 => h4 (decide_eq_true h6)
      have h7 : l.getD j 0 = 0 := by
        by_cases hl : j < l.length
        · have g1 := mem_le_sum (xs := l) (fun x hx => (h3 x hx).1) (List.getElem_mem hl)
          have g2 := (h3 _ (List.getElem_mem hl)).1
          have e : l.getD j 0 = l[j] := by simp [List.getD, hl]
          omega
        · simp [List.getD, List.getElem?_eq_none (Nat.le_of_not_lt hl)]
      simp only [List.map_cons, List.sum_cons, h1, h7]; omega
theorem sh_cols2 {n P : Int} : ∀ {ps : List (List Int)}, (∀ l ∈ ps, l.length = 2) → (ps.map (shS n P)).sum = n * colA P 0 ps + n * colA P 1 ps
  | [], _ => by simp [colA]
  | l :: ps, h => by
    have h1 := sh_cols2 (n := n) (P := P) (ps := ps) fun x hx => h x (by simp [hx])
    have hl := h l (by simp)
    match l, hl with
    | [a, b], _ =>
      have e : ∀ g : List Int → Int, (([a, b] :: ps).map g).sum = g [a, b] + (ps.map g).sum := fun g => by rw [List.map_cons, List.sum_cons]
      unfold colA at h1 ⊢
      simp only [e]
      rw [h1]
      unfold shS
      generalize P / ([a, b] : List Int).sum = r
      clear h1 e
      have e0 : ([a, b] : List Int).getD 0 0 = a := rfl
      have e1 : ([a, b] : List Int).getD 1 0 = b := rfl
      have e2 : sqL [a, b] = a * a + b * b := by simp [sqL]
      rw [e0, e1, e2]
      grind
theorem sh_cols3 {n P : Int} : ∀ {ps : List (List Int)}, (∀ l ∈ ps, l.length = 3) → (ps.map (shS n P)).sum = n * colA P 0 ps + n * colA P 1 ps + n * colA P 2 ps
  | [], _ => by simp [colA]
  | l :: ps, h => by
    have h1 := sh_cols3 (n := n) (P := P) (ps := ps) fun x hx => h x (by simp [hx])
    have hl := h l (by simp)
    match l, hl with
    | [a, b, c], _ =>
      have e : ∀ g : List Int → Int, (([a, b, c] :: ps).map g).sum = g [a, b, c] + (ps.map g).sum := fun g => by rw [List.map_cons, List.sum_cons]
      unfold colA at h1 ⊢
      simp only [e]
      rw [h1]
      unfold shS
      generalize P / ([a, b, c] : List Int).sum = r
      clear h1 e
      have e0 : ([a, b, c] : List Int).getD 0 0 = a := rfl
      have e1 : ([a, b, c] : List Int).getD 1 0 = b := rfl
      have e3 : ([a, b, c] : List Int).getD 2 0 = c := rfl
      have e2 : sqL [a, b, c] = a * a + (b * b + c * c) := by simp [sqL]
      rw [e0, e1, e2, e3]
      grind
theorem num_pos {m : Nat} {Ls : List (List Int)} (H : MOk m Ls) : 0 ≤ numI m Ls := by
  have hn : (allI m Ls).sum = ((partsL Ls).map List.sum).sum := by rw [all_sum H, parts_sum fun l hl => (H.row hl).1]
  have hc : ∀ j, prI Ls * (aF Ls j * aF Ls j) ≤ (allI m Ls).sum * colA (prI Ls) j (partsL Ls) := fun j => by
    have := (cauchy H.pr.1 j (ps := partsL Ls) fun l hl => (H.parts hl).2).2.2.2
    rwa [parts_at H, ← hn] at this
  have hl : ∀ l ∈ partsL Ls, l.length = m := fun l hl => H.len l (H.parts hl).1
  unfold numI
  generalize (allI m Ls).sum = n at hc ⊢
  rcases H.hm with rfl | rfl
  · rw [sh_cols2 hl]
    have c0 := hc 0; have c1 := hc 1
    have e : sqL (allI 2 Ls) * prI Ls = prI Ls * (aF Ls 0 * aF Ls 0) + prI Ls * (aF Ls 1 * aF Ls 1) := by
      simp only [allI, sqL, List.range_succ, List.range_zero, List.map_append, List.map_cons, List.map_nil, List.nil_append, List.cons_append, List.sum_cons, List.sum_nil]; grind
    omega
  · rw [sh_cols3 hl]
    have c0 := hc 0; have c1 := hc 1; have c2 := hc 2
    have e : sqL (allI 3 Ls) * prI Ls = prI Ls * (aF Ls 0 * aF Ls 0) + prI Ls * (aF Ls 1 * aF Ls 1) + prI Ls * (aF Ls 2 * aF Ls 2) := by
      simp only [allI, sqL, List.range_succ, List.range_zero, List.map_append, List.map_cons, List.map_nil, List.nil_append, List.cons_append, List.sum_cons, List.sum_nil]; grind
    omega
theorem num_le {m : Nat} {Ls : List (List Int)} (H : MOk m Ls) : numI m Ls ≤ denI m Ls := by
  have h := num_impl H
  have h1 : 0 ≤ ((partsL Ls).map (shI (allI m Ls).sum (prI Ls))).sum := by
    refine (sum4 (C := 994014980014994001) fun l hl => ?_).1
    obtain ⟨g1, g2, g3⟩ := H.parts hl
    have hn := sum_pos fun x hx => (all_bd H x hx).1
    have hn2 : (allI m Ls).sum ≤ 999 := by rw [all_sum H]; exact H.tot
    have hq := sq_le H.hm (H.len l g1) fun x hx => ((H.row g1).2.2 x hx).1
    have := share_bd ⟨hn, hn2⟩ H.pr ⟨g2, (H.row g1).2.1⟩ g3 (q := l.sum * l.sum - sqL l) ⟨by omega, by omega⟩
    exact ⟨this.2.2.2.2.1, this.2.2.2.2.2⟩
  have h2 : 0 ≤ sqL (allI m Ls) := (sq_le H.hm allI_len fun x hx => (all_bd H x hx).1).1
  have h3 := Int.mul_nonneg h2 (show 0 ≤ prI Ls by have := H.pr.1; omega)
  unfold denI
  have e : ((allI m Ls).sum * (allI m Ls).sum - sqL (allI m Ls)) * prI Ls = (allI m Ls).sum * (allI m Ls).sum * prI Ls - sqL (allI m Ls) * prI Ls := by grind
  omega
theorem amgm {x y t : Int} (hx : 0 ≤ x) (hy : 0 ≤ y) (h : x + y ≤ t) : 4 * (x * y) ≤ t * t := by
  have h1 : 0 ≤ (x - y) * (x - y) := by rcases Int.le_total 0 (x - y) with h | h; exact Int.mul_nonneg h h; exact Int.mul_nonneg_of_nonpos_of_nonpos h h
  have h2 : (x + y) * (x + y) ≤ t * t := Int.mul_le_mul h h (by omega) (by omega)
  have e : (x + y) * (x + y) = (x - y) * (x - y) + 4 * (x * y) := by grind
  omega
theorem prod4 : ∀ (xs : List Int), xs.length ≤ 4 → (∀ x ∈ xs, 0 ≤ x) → xs.sum ≤ 999 → prodL xs ≤ 3890640625
  | [], _, _, _ => by simp [prodL]
  | [a], _, h, hs => by simp only [prodL, List.sum_cons, List.sum_nil] at hs ⊢; omega
  | [a, b], _, h, hs => by
    have ha := h a (by simp); have hb := h b (by simp)
    simp [prodL] at hs ⊢
    have := amgm ha hb (t := 999) (by omega)
    omega
  | [a, b, c], _, h, hs => by
    have ha := h a (by simp); have hb := h b (by simp); have hc := h c (by simp)
    simp [prodL] at hs ⊢
    have h1 := amgm hb hc (t := 999) (by omega)
    have h2 : a * (b * c) ≤ 999 * 249500 := Int.mul_le_mul (by omega) (by omega) (Int.mul_nonneg hb hc) (by omega)
    omega
  | [a, b, c, d], _, h, hs => by
    have ha := h a (by simp); have hb := h b (by simp); have hc := h c (by simp); have hd := h d (by simp)
    simp [prodL] at hs ⊢
    have h1 := amgm ha hb (t := a + b) (by omega)
    have h2 := amgm hc hd (t := c + d) (by omega)
    have h3 := amgm (show 0 ≤ a + b by omega) (show 0 ≤ c + d by omega) (t := 999) (by omega)
    have n1 := Int.mul_nonneg ha hb; have n2 := Int.mul_nonneg hc hd
    have h4 : 4 * (a * b) * (4 * (c * d)) ≤ (a + b) * (a + b) * ((c + d) * (c + d)) := Int.mul_le_mul h1 h2 (by omega) (by have := Int.mul_nonneg (show 0 ≤ a + b by omega) (show 0 ≤ a + b by omega); omega)
    have n3 := Int.mul_nonneg (show 0 ≤ a + b by omega) (show 0 ≤ c + d by omega)
    have h5 : (a + b) * (c + d) * ((a + b) * (c + d)) ≤ 249500 * 249500 := Int.mul_le_mul (by omega) (by omega) n3 (by omega)
    have e1 : 4 * (a * b) * (4 * (c * d)) = 16 * (a * (b * (c * d))) := by grind
    have e2 : (a + b) * (a + b) * ((c + d) * (c + d)) = (a + b) * (c + d) * ((a + b) * (c + d)) := by grind
    omega
  | _ :: _ :: _ :: _ :: _ :: _, hl, _, _ => by simp at hl
theorem mer_frac {m : Nat} {Ls : List (List Int)} (H : MOk m Ls) (h0 : ¬ (allI m Ls).sum = 0) : fracB (numI m Ls) (denI m Ls) = true := by
  have hn := sum_pos fun x hx => (all_bd H x hx).1
  have hn2 : (allI m Ls).sum ≤ 999 := by rw [all_sum H]; exact H.tot
  have h1 := num_pos H; have h2 := num_le H
  have hp := H.pr.1
  have h3 : prI Ls ≤ 3890640625 := by
    unfold prI
    refine prod4 _ ?_ (fun x hx => ?_) ?_
    · have := H.cnt; unfold partsL; rw [List.length_map]; exact Nat.le_trans (List.length_filter_le _ _) this
    · obtain ⟨l, hl, rfl⟩ := List.mem_map.1 hx; have := (H.parts hl).2.1; omega
    · rw [parts_sum fun l hl => (H.row hl).1]; exact H.tot
  have h4 : denI m Ls ≤ 998001 * 3890640625 := by
    unfold denI
    have := Int.mul_le_mul hn2 hn2 hn (by omega)
    exact Int.mul_le_mul (by omega) h3 (by omega) (by omega)
  have h5 : 1 ≤ denI m Ls := by
    unfold denI
    have := Int.mul_pos (Int.mul_pos (show 0 < (allI m Ls).sum by omega) (show 0 < (allI m Ls).sum by omega)) (show 0 < prI Ls by omega)
    omega
  unfold fracB
  rw [inB_yes h1 (by omega), inB_yes h5 (by omega)]; rfl
theorem low_mul {M a b : Int} (hM : 1 ≤ M) (h1 : fracB a b = true) (h2 : fracB (M * a) (M * b) = true) : lowN (M * a) (M * b) = lowN a b ∧ lowD (M * a) (M * b) = lowD a b := by
  unfold lowN lowD
  rw [if_pos h1, if_pos h2, if_pos h1, if_pos h2]
  have hh := h1
  unfold fracB at hh
  simp only [Bool.and_eq_true] at hh
  have ha := inB_iff.1 hh.1; have hb := inB_iff.1 hh.2
  have e : Nat.gcd (M * a).toNat (M * b).toNat = M.toNat * Nat.gcd a.toNat b.toNat := by
    rw [Int.toNat_mul (by omega) ha.1, Int.toNat_mul (by omega) (by omega), Nat.gcd_mul_left]
  rw [e, Int.natCast_mul, Int.toNat_of_nonneg (by omega)]
  exact ⟨Int.mul_ediv_mul_of_pos _ _ (by omega), Int.mul_ediv_mul_of_pos _ _ (by omega)⟩
theorem low_pos {a b : Int} (h : fracB a b = true) : 1 ≤ lowD a b := by
  unfold lowD
  rw [if_pos h]
  unfold fracB at h
  simp only [Bool.and_eq_true] at h
  have hb := inB_iff.1 h.2
  have h1 : 0 < Nat.gcd a.toNat b.toNat := Nat.gcd_pos_of_pos_right _ (by omega)
  have h2 : Nat.gcd a.toNat b.toNat ≤ b.toNat := Nat.gcd_le_right _ (by omega)
  have := (Int.le_ediv_iff_mul_le (a := 1) (b := b) (c := ((Nat.gcd a.toNat b.toNat : Nat) : Int)) (by omega)).2 (by omega)
  omega

section
variable {f : Int} {s : Nat → Nat} {ats : List AD} {cs : List ByteArray} {ts ts2 : List Int} {xss xss2 : List (List Int)} {fa ft : Int}
theorem rel_br (R : RelT cs.length f s ts ts2 xss xss2) (h : merB ats cs ts xss fa ft = true) : brLs ats cs xss2 fa ft = (brLs ats cs xss fa ft).map (rl cs.length f s) := by
  obtain ⟨h1, h2, hf, hm, htl, hts, k, row, a, nb, rfl, ha, hr, hnb, _, _, hl, hb⟩ := mer_row h
  have hk := (List.getElem?_eq_some_iff.1 hr).1
  have e : xss.getD ((k : Int)).toNat [] = row := by simp [List.getD, hr]
  have ek : xss.getD k [] = row := by simp [List.getD, hr]
  have hl2 := R.lenR k hk
  have hrow := R.row k hk
  rw [ek] at hl2 hrow
  obtain ⟨row2, e2⟩ : ∃ r2, xss2.getD k [] = r2 := ⟨_, rfl⟩
  rw [e2] at hl2 hrow
  unfold brLs
  rw [List.map_map]
  refine List.map_congr_left fun i _ => ?_
  show btI ats cs xss2 (k : Nat) ft (i : Nat) = rl cs.length f s (btI ats cs xss (k : Nat) ft (i : Nat))
  unfold btI rl
  rw [e, show xss2.getD ((k : Int)).toNat [] = row2 from e2]
  refine List.map_congr_left fun j hj => ?_
  have hj := List.mem_range.1 hj
  rw [getD_range (R.lt j hj), hl2, hl]
  unfold runC
  rw [cntC_all hm hj, cntC_all hm (R.lt j hj)]
  exact rel_col R.lt hl hrow hj _ nb (Nat.le_refl _)
theorem rel_merB (R : RelT cs.length f s ts ts2 xss xss2) (h : merB ats cs ts xss fa ft = true) : merB ats cs ts2 xss2 fa ft = true := by
  unfold merB at h ⊢
  simp only [Bool.and_eq_true, decide_eq_true_eq] at h ⊢
  exact ⟨⟨rel_stats R h.1.1 h.1.2, by rw [R.lenX]; exact h.1.2⟩, h.2⟩
theorem merD_pos (h : merB ats cs ts xss fa ft = true) : 1 ≤ merD ats cs ts xss fa ft := by
  unfold merD
  rw [if_pos h]
  split
  · exact Int.le_refl _
  · exact low_pos (mer_frac (mer_ok h) (by assumption))
/-- The same fraction. -/
theorem rel_mer (R : RelT cs.length f s ts ts2 xss xss2) (h : merB ats cs ts xss fa ft = true) : merN ats cs ts2 xss2 fa ft = merN ats cs ts xss fa ft ∧ merD ats cs ts2 xss2 fa ft = merD ats cs ts xss fa ft := by
  have h2 := rel_merB R h
  have P : Perm9 cs.length f s := ⟨R.pos, R.lt, R.perm⟩
  have H := mer_ok h; have H2 := mer_ok h2
  rw [rel_br R h] at H2
  obtain ⟨M, hM, e1, e2⟩ := rl_frac P H
  have hn : (allI cs.length ((brLs ats cs xss fa ft).map (rl cs.length f s))).sum = f * (allI cs.length (brLs ats cs xss fa ft)).sum := by rw [rl_all P, rl_sum P allI_len]
  unfold merN merD
  rw [if_pos h, if_pos h2, if_pos h, if_pos h2, rel_br R h, hn, e1, e2]
  have hp := R.pos
  by_cases h0 : (allI cs.length (brLs ats cs xss fa ft)).sum = 0
  · rw [h0, Int.mul_zero]; simp
  · have h9 : ¬ f * (allI cs.length (brLs ats cs xss fa ft)).sum = 0 := by
      intro h; rcases Int.mul_eq_zero.1 h with h | h <;> omega
    rw [if_neg h0, if_neg h9, if_neg h0, if_neg h9]
    have g1 := mer_frac H h0
    have g2 := mer_frac H2 (by rw [hn]; exact h9)
    rw [e1, e2] at g2
    exact low_mul hM g1 g2
end

end Go.Proofs.Ytchkmcikpamdeaa
