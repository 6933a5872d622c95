/-
  The rows of all branches of a fork: every bin is in just one branch, so they add up to no more than the totals.
-/
import Derived.Test.YtchkmcikpamdeaaMerP
import Derived.Test.YtchkmcikpamdeaaBTotI
import Derived.Test.YtchkmcikpamdeaaFracM
namespace Go.Proofs.Ytchkmcikpamdeaa
open Go.RowKit
set_option linter.unusedSimpArgs false
set_option linter.unusedVariables false

def btI (ats : List AD) (cs : List ByteArray) (xss : List (List Int)) (fa ft i : Int) : List Int := (List.range cs.length).map fun k => runC cs.length (xss.getD fa.toNat []).length k (selRow cs.length (brSel ats cs fa ft i) (xss.getD fa.toNat []))
theorem btL_int (ats : List AD) (cs : List ByteArray) (xss : List (List Int)) (fa ft i : Int) : btL ats cs xss fa ft i = (btI ats cs xss fa ft i).map (Value.int .i64) := by
  unfold btL btI runL; rw [List.map_map]; rfl
def brLs (ats : List AD) (cs : List ByteArray) (xss : List (List Int)) (fa ft : Int) : List (List Int) := (List.range (brI ats cs fa ft).toNat).map fun i => btI ats cs xss fa ft (i : Nat)
def merB (ats : List AD) (cs : List ByteArray) (ts : List Int) (xss : List (List Int)) (fa ft : Int) : Bool := statsB ats cs ts xss && decide (¬ xss.length = 0) && forkB ats cs fa ft
theorem brLs_len (ats : List AD) (cs : List ByteArray) (xss : List (List Int)) (fa ft : Int) : (brLs ats cs xss fa ft).length = (brI ats cs fa ft).toNat := by simp [brLs]
theorem brLs_get {ats : List AD} {cs : List ByteArray} {xss : List (List Int)} {fa ft : Int} {i : Nat} (h : i < (brI ats cs fa ft).toNat) : (brLs ats cs xss fa ft)[i]? = some (btI ats cs xss fa ft (i : Nat)) := by
  unfold brLs; rw [List.getElem?_map, List.getElem?_range h, Option.map_some]
theorem boI_in {ats : List AD} {cs : List ByteArray} {k b nb : Nat} {ft : Int} {a : AD} (hf : forkB ats cs (k : Nat) ft = true) (ha : ats[k]? = some a) (hnb : binsI a = nb) (hb : b < nb) : 0 ≤ boI ats cs (k : Nat) ft (b : Nat) ∧ boI ats cs (k : Nat) ft (b : Nat) < brI ats cs (k : Nat) ft := by
  have h1 : boB ats cs (k : Nat) ft (b : Nat) = true := by
    unfold boB; rw [hf, atA_get ha, hnb, Bool.true_and, inB_iff]; omega
  unfold boI brI sideI
  rw [h1, hf, atA_get ha, hnb, if_pos rfl, if_pos rfl]
  split
  · omega
  · split <;> split <;> omega
theorem hot (x : Int) {z : Int} (h0 : 0 ≤ z) : ∀ (N : Nat), ((List.range N).map fun (i : Nat) => if decide (z = (i : Int)) = true then x else 0).sum = if z < N then x else 0
  | 0 => by simp; omega
  | N + 1 => by
    rw [List.range_succ, List.map_append, List.sum_append, hot x h0 N]
    simp only [List.map_cons, List.map_nil, List.sum_cons, List.sum_nil, decide_eq_true_eq]
    rcases Int.lt_trichotomy z N with h | h | h
    · rw [if_pos h, if_neg (by omega), if_pos (by omega)]; omega
    · rw [if_neg (by omega), if_pos h, if_pos (by omega)]; omega
    · rw [if_neg (by omega), if_neg (by omega), if_neg (by omega)]; rfl
theorem sel_getD {m b k : Nat} {sel : Nat → Bool} {row : List Int} (hk : k < m) : (selRow m sel row).getD (b * m + k) 0 = if sel b = true then row.getD (b * m + k) 0 else 0 := by
  have hd : (b * m + k) / m = b := by rw [Nat.mul_comm, Nat.mul_add_div (by omega), Nat.div_eq_of_lt hk, Nat.add_zero]
  by_cases h : b * m + k < row.length
  · have hx : row[b * m + k]? = some row[b * m + k] := List.getElem?_eq_getElem h
    rw [List.getD, selRow_get hx, hd, List.getD, hx]; rfl
  · rw [List.getD, List.getElem?_eq_none (by simp [selRow]; omega), List.getD, List.getElem?_eq_none (by omega)]; simp
theorem sum_add (f g : Nat → Int) : ∀ l : List Nat, (l.map fun i => f i + g i).sum = (l.map f).sum + (l.map g).sum
  | [] => rfl
  | x :: l => by simp only [List.map_cons, List.sum_cons, sum_add f g l]; omega
theorem col_sum {m k nb N : Nat} {row : List Int} {f : Nat → Int} (hk : k < m) (hf : ∀ b, b < nb → 0 ≤ f b ∧ f b < N) : ∀ b, b ≤ nb → ((List.range N).map fun (i : Nat) => colB m k (selRow m (fun b' => decide (f b' = (i : Int))) row) b).sum = colB m k row b
  | 0, _ => by
    have : ∀ l : List Nat, (l.map fun (i : Nat) => colB m k (selRow m (fun b' => decide (f b' = (i : Int))) row) 0).sum = 0 := by
      intro l
      induction l with
      | nil => rfl
      | cons x l ih => rw [List.map_cons, List.sum_cons, ih]; rfl
    exact this _
  | b + 1, h => by
    have e : ∀ i : Nat, colB m k (selRow m (fun b' => decide (f b' = (i : Int))) row) (b + 1) = colB m k (selRow m (fun b' => decide (f b' = (i : Int))) row) b + (if decide (f b = (i : Int)) = true then row.getD (b * m + k) 0 else 0) := by
      intro i
      show colB m k _ b + (selRow m _ row).getD (b * m + k) 0 = _
      rw [sel_getD hk]
    rw [List.map_congr_left (fun i _ => e i), sum_add, col_sum hk hf b (by omega)]
    obtain ⟨h1, h2⟩ := hf b (by omega)
    rw [hot _ h1, if_pos h2]
    rfl
theorem getD_range {m k : Nat} {f : Nat → Int} (hk : k < m) : ((List.range m).map f).getD k 0 = f k := by
  rw [List.getD, List.getElem?_map, List.getElem?_range hk]; rfl
theorem stats_col {ats : List AD} {cs : List ByteArray} {ts : List Int} {xss : List (List Int)} (h : statsB ats cs ts xss = true) (h0 : ¬ xss.length = 0) {k j nb : Nat} {row : List Int} {a : AD} (hr : xss[k]? = some row) (ha : ats[k]? = some a) (hnb : binsI a = nb) (hj : j < cs.length) : colB cs.length j row nb ≤ ts.getD j 0 := by
  unfold statsB at h
  simp only [Bool.and_eq_true] at h
  obtain ⟨_, h3⟩ := h
  unfold rowsB at h3
  rw [decide_eq_false h0, Bool.false_or, Bool.and_eq_true, decide_eq_true_eq, allB_iff] at h3
  have h4 := h3.2 k (List.getElem?_eq_some_iff.1 hr).1
  rw [show xss.getD k [] = row by simp [List.getD, hr], show ats.getD k noAD = a by simp [List.getD, ha], hnb] at h4
  unfold rowOkB at h4
  simp only [Bool.and_eq_true, decide_eq_true_eq, Bool.not_eq_true', allB_iff] at h4
  exact h4.2 j hj
/-- What a fork that may be weighed has. -/
theorem mer_row {ats : List AD} {cs : List ByteArray} {ts : List Int} {xss : List (List Int)} {fa ft : Int} (h : merB ats cs ts xss fa ft = true) : statsB ats cs ts xss = true ∧ ¬ xss.length = 0 ∧ forkB ats cs fa ft = true ∧ (cs.length = 2 ∨ cs.length = 3) ∧ ts.length = cs.length ∧ ts.sum ≤ 999 ∧
    ∃ (k : Nat) (row : List Int) (a : AD) (nb : Nat), fa = k ∧ ats[k]? = some a ∧ xss[k]? = some row ∧ binsI a = nb ∧ 2 ≤ nb ∧ nb ≤ 4 ∧ row.length = nb * cs.length ∧ badW row = false := by
  unfold merB at h
  simp only [Bool.and_eq_true, decide_eq_true_eq] at h
  obtain ⟨⟨h1, h2⟩, hf⟩ := h
  obtain ⟨g1, k, a, rfl, ha, hk, _⟩ := forkB_yes hf
  obtain ⟨s1, s2, s3⟩ := statsB_row h1 h2
  have hr : xss[k]? = some xss[k] := List.getElem?_eq_getElem (by omega)
  obtain ⟨nb, b1, b2, b3, b4, b5⟩ := s3 k _ a hr ha
  have ht := h1
  unfold statsB totB at ht
  simp only [Bool.and_eq_true, decide_eq_true_eq] at ht
  exact ⟨h1, h2, hf, schB_m g1, ht.1.2.1.1, ht.1.2.2, k, _, a, nb, rfl, ha, hr, b1, b2, b3, b4, b5⟩
theorem aF_br {ats : List AD} {cs : List ByteArray} {xss : List (List Int)} {k nb j : Nat} {ft : Int} {row : List Int} {a : AD} (hf : forkB ats cs (k : Nat) ft = true) (ha : ats[k]? = some a) (hr : xss[k]? = some row) (hnb : binsI a = nb) (hl : row.length = nb * cs.length) (hm : cs.length = 2 ∨ cs.length = 3) (hj : j < cs.length) :
    aF (brLs ats cs xss (k : Nat) ft) j = colB cs.length j row nb := by
  have hx : xss.getD ((k : Int)).toNat [] = row := by simp [List.getD, hr]
  unfold aF brLs
  rw [List.map_map]
  have e : ∀ i : Nat, ((fun l : List Int => l.getD j 0) ∘ fun (i : Nat) => btI ats cs xss (k : Nat) ft (i : Nat)) i = colB cs.length j (selRow cs.length (fun b => decide (boI ats cs (k : Nat) ft (b : Nat) = (i : Int))) row) nb := by
    intro i
    show (btI ats cs xss (k : Nat) ft (i : Nat)).getD j 0 = _
    unfold btI
    rw [getD_range hj, hx, hl]
    unfold runC
    rw [cntC_all hm hj]
    rfl
  rw [List.map_congr_left (fun i _ => e i)]
  have hN := brI_bd ats cs (k : Nat) ft
  refine col_sum hj (fun b hb => ?_) nb (Nat.le_refl _)
  have := boI_in hf ha hnb hb
  omega
theorem mer_ok {ats : List AD} {cs : List ByteArray} {ts : List Int} {xss : List (List Int)} {fa ft : Int} (h : merB ats cs ts xss fa ft = true) : MOk cs.length (brLs ats cs xss fa ft) := by
  obtain ⟨h1, h2, hf, hm, htl, hts, k, row, a, nb, rfl, ha, hr, hnb, _, _, hl, hb⟩ := mer_row h
  have hlen : ∀ l ∈ brLs ats cs xss (k : Nat) ft, l.length = cs.length := fun l hl => by
    obtain ⟨i, _, rfl⟩ := List.mem_map.1 hl
    simp [btI]
  refine ⟨hm, ?_, hlen, fun l hl x hx => ?_, ?_⟩
  · have := brI_bd ats cs (k : Nat) ft
    rw [brLs_len]; omega
  · obtain ⟨i, _, rfl⟩ := List.mem_map.1 hl
    obtain ⟨j, _, rfl⟩ := List.mem_map.1 hx
    have hx : xss.getD ((k : Int)).toNat [] = row := by simp [List.getD, hr]
    rw [hx]
    exact (colB_bd (fun x hx => badW_get (selRow_bad hb) hx) _).1
  · rw [← all_sum2 hm hlen]
    have e : allI cs.length (brLs ats cs xss (k : Nat) ft) = (List.range cs.length).map fun j => colB cs.length j row nb := by
      unfold allI; exact List.map_congr_left fun j hj => aF_br hf ha hr hnb hl hm (List.mem_range.1 hj)
    rw [e]
    have hc : ∀ j, j < cs.length → colB cs.length j row nb ≤ ts.getD j 0 := fun j hj => stats_col h1 h2 hr ha hnb hj
    rcases hm with hm | hm
    · rw [hm] at hc htl ⊢
      have c0 := hc 0 (by omega); have c1 := hc 1 (by omega)
      match ts, htl with
      | [x, y], _ => simp [List.range_succ] at c0 c1 hts ⊢; omega
    · rw [hm] at hc htl ⊢
      have c0 := hc 0 (by omega); have c1 := hc 1 (by omega); have c2 := hc 2 (by omega)
      match ts, htl with
      | [x, y, z], _ => simp [List.range_succ] at c0 c1 c2 hts ⊢; omega

/-- What Merit answers. -/
def merN (ats : List AD) (cs : List ByteArray) (ts : List Int) (xss : List (List Int)) (fa ft : Int) : Int :=
  if merB ats cs ts xss fa ft = true then (if (allI cs.length (brLs ats cs xss fa ft)).sum = 0 then 0 else lowN (numI cs.length (brLs ats cs xss fa ft)) (denI cs.length (brLs ats cs xss fa ft))) else 0
def merD (ats : List AD) (cs : List ByteArray) (ts : List Int) (xss : List (List Int)) (fa ft : Int) : Int :=
  if merB ats cs ts xss fa ft = true then (if (allI cs.length (brLs ats cs xss fa ft)).sum = 0 then 1 else lowD (numI cs.length (brLs ats cs xss fa ft)) (denI cs.length (brLs ats cs xss fa ft))) else 0

end Go.Proofs.Ytchkmcikpamdeaa
