/-
  Windows in the midst of a draw: the cursor's block turns too.
-/
import Derived.Test.YtnljlehbjdambaaDrawL
import Derived.Test.YtnljlehbjdambaaAddW
namespace Go.Proofs.Ytnljlehbjdambaa
open Go.RowKit
set_option linter.unusedSimpArgs false
set_option linter.unusedVariables false

def bdR (xss : List (List Int)) : Prop := ∀ xs ∈ xss, xs.length ≤ 4 ∧ ∀ x ∈ xs, -1000 ≤ x ∧ x ≤ 1000
theorem bdR_nil : bdR [] := by intro xs h; cases h
theorem bdR_snoc {xss : List (List Int)} {ys : List Int} (h : bdR xss) (h1 : ys.length ≤ 4) (h2 : ∀ x ∈ ys, -1000 ≤ x ∧ x ≤ 1000) : bdR (xss ++ [ys]) := by
  intro xs hx
  rcases List.mem_append.1 hx with hx | hx
  · exact h xs hx
  · obtain rfl : xs = ys := by simpa using hx
    exact ⟨h1, h2⟩
theorem bdR_win {xss : List (List Int)} (h : winB xss = true) : bdR xss ∧ xss.length ≤ 8 := by
  have h8 := winB_len h
  refine ⟨fun xs hx => ?_, h8⟩
  obtain ⟨j, hj⟩ := List.getElem?_of_mem hx
  have hl := (List.getElem?_eq_some_iff.1 hj).1
  have hr := winB_row h hj
  refine ⟨by have := rowB_len hr; omega, fun x hx => ?_⟩
  have := rowB_elem hr hx
  have := (pw_bd (r := j) (by omega)).2
  omega
theorem bdR_set {xss : List (List Int)} {q : Nat} {ys : List Int} (h : bdR xss) (h1 : ys.length ≤ 4) (h2 : ∀ x ∈ ys, -1000 ≤ x ∧ x ≤ 1000) : bdR (xss.set q ys) := by
  intro xs hx
  rcases List.mem_or_eq_of_mem_set hx with hx | rfl
  · exact h xs hx
  · exact ⟨h1, h2⟩
theorem bdR_tot {xss : List (List Int)} (h : bdR xss) : totI xss ≤ 4 * xss.length := by
  induction xss with
  | nil => simp [totI]
  | cons a l ih =>
    have h1 := ih fun x hx => h x (by simp [hx])
    have h2 := (h a (by simp)).1
    simp only [totI, List.map_cons, List.sum_cons, List.length_cons] at h1 ⊢; omega
theorem bdR_wf {xss : List (List Int)} (h : bdR xss) : ∀ xs ∈ xss, ∀ x ∈ xs, -9223372036854775808 ≤ x ∧ x ≤ 9223372036854775807 := fun xs hx x h2 => by have := (h xs hx).2 x h2; omega

/-- The bounds of a drawn window. -/
def bdQ (xss : List (List Int)) : Prop := ∀ xs ∈ xss, xs.length ≤ 5 ∧ ∀ x ∈ xs, -1000 ≤ x ∧ x ≤ 1000
theorem bdQ_of {xss : List (List Int)} (h : bdR xss) : bdQ xss := fun xs hx => ⟨Nat.le_succ_of_le (h xs hx).1, (h xs hx).2⟩
theorem bdQ_snoc {xss : List (List Int)} {ys : List Int} (h : bdQ xss) (h1 : ys.length ≤ 5) (h2 : ∀ x ∈ ys, -1000 ≤ x ∧ x ≤ 1000) : bdQ (xss ++ [ys]) := by
  intro xs hx
  rcases List.mem_append.1 hx with hx | hx
  · exact h xs hx
  · obtain rfl : xs = ys := by simpa using hx
    exact ⟨h1, h2⟩
theorem bdQ_push {xss : List (List Int)} {q : Nat} {y : Int} (h : bdR xss) (hq : q < xss.length) (h2 : -1000 ≤ y ∧ y ≤ 1000) : bdQ (pushR xss q y) := by
  intro xs hx
  have h4 := h _ (List.mem_of_getElem? (getD_of hq))
  rcases List.mem_or_eq_of_mem_set hx with hx | rfl
  · exact bdQ_of h xs hx
  · refine ⟨by rw [List.length_append, List.length_singleton]; exact Nat.succ_le_succ h4.1, fun x hx => ?_⟩
    rcases List.mem_append.1 hx with hx | hx
    · exact h4.2 x hx
    · obtain rfl : x = y := by simpa using hx
      exact h2
theorem bdQ_tot {xss : List (List Int)} (h : bdQ xss) : totI xss ≤ 5 * xss.length := by
  induction xss with
  | nil => simp [totI]
  | cons a l ih =>
    have h1 := ih fun x hx => h x (by simp [hx])
    have h2 := (h a (by simp)).1
    simp only [totI, List.map_cons, List.sum_cons, List.length_cons] at h1 ⊢; omega
theorem bdQ_wf {xss : List (List Int)} (h : bdQ xss) : ∀ xs ∈ xss, ∀ x ∈ xs, -9223372036854775808 ≤ x ∧ x ≤ 9223372036854775807 := fun xs hx x h2 => by have := (h xs hx).2 x h2; omega

/-- All blocks below lo but the cursor's are as they were. -/
structure KeptB (lo g : Nat) (w w' : World) : Prop where
  os : w'.os = w.os
  tape : w'.tape = w.tape
  output : w'.output = w.output
  size : w.heap.size ≤ w'.heap.size
  block : ∀ k, k < lo → k ≠ g → w'.heap[k]? = w.heap[k]?
section
variable {lo g : Nat} {w w' w2 w0 : World}
theorem KeptB.refl (lo g : Nat) (w : World) : KeptB lo g w w := ⟨rfl, rfl, rfl, Nat.le_refl _, fun _ _ _ => rfl⟩
theorem KeptB.trans (h : KeptB lo g w w') (h2 : KeptB lo g w' w2) : KeptB lo g w w2 := ⟨h2.os.trans h.os, h2.tape.trans h.tape, h2.output.trans h.output, Nat.le_trans h.size h2.size, fun k a b => (h2.block k a b).trans (h.block k a b)⟩
theorem KeptB.of_only (h : Only g (g + 1) w w') (hl : lo ≤ w.heap.size) : KeptB lo g w w' := ⟨h.os, h.tape, h.output, h.size, fun k a b => h.block k (by omega) (by omega)⟩
theorem KeptB.of_below {B : Nat} (h : Below B w w') (hl : lo ≤ B) : KeptB lo g w w' := ⟨h.os, h.tape, h.output, h.size, fun k a _ => h.block k (by omega)⟩
theorem KeptB.only (h : KeptB lo g w w') (h0 : Only g (g + 1) w0 w) (hl : w0.heap.size ≤ lo) : Only g (g + 1) w0 w' :=
  ⟨h.os.trans h0.os, h.tape.trans h0.tape, h.output.trans h0.output, Nat.le_trans h0.size h.size, fun k a b => (h.block k (by omega) (by omega)).trans (h0.block k a b)⟩
theorem KeptB.bx {b : Nat} {t : TypeId} {cs : Array Value} (h : KeptB lo g w w') (hb : Bx w b t cs) (hl : b < lo) (hn : b ≠ g) : Bx w' b t cs := (h.block b hl hn).trans hb
end
section
variable {lo b n c : Nat} {w w1 : World} {A : Option Addr} {hs : List Hd} {yss : List (List Int)}
theorem Win.nil (lo b : Nat) (w : World) (hx : Bx w b 26 #[.slice none 0 0]) : Win lo b w none 0 0 [] [] := ⟨OwSS.nil _ _ _, by simp [Value.ownBlock], by simp, hx⟩
/-- All rows are new: their header is stored into the box. -/
theorem Win.fresh {B : Nat} {z : Value} (o : OwSS lo w1.heap.size w1 A n c hs (iss yss)) (hB : B < lo) (hx : Bx w1 B 26 #[z]) : Win lo B (w1.setCell ⟨B, 0, none⟩ (.slice A n c)) A n c hs yss := by
  refine ⟨?_, fun e => ?_, fun j x hj e => ?_, ?_⟩
  · rw [setc_size]; exact o.same (same_setc hB)
  · have := (o.hd.own.lt B e).1; omega
  · have := (o.rows.top j x B hj e).1; omega
  · simpa using hx.set_ 0 (.slice A n c)
theorem Win.low {lo' : Nat} (h : Win lo b w A n c hs yss) (hl : lo' ≤ lo) : Win lo' b w A n c hs yss := ⟨h.ow.wide hl (Nat.le_refl _), h.offA, h.offR, h.bx⟩
/-- The cursor turns. -/
theorem Win.cur {g : Nat} (h : Win lo b w A n c hs yss) (hn : Only g (g + 1) w w1) (hg : g < lo) (hb : g ≠ b) : Win lo b w1 A n c hs yss :=
  ⟨(h.ow.same (same_only hn (.inr (by omega)) (Nat.le_refl _))).wide (Nat.le_refl _) hn.size, h.offA, h.offR, h.bx.same (same_only hn (by omega) (Nat.succ_le_of_lt h.bx.lt))⟩
/-- A row in new blocks is laid behind the last one. -/
theorem Win.moreO {g g7 cap7 : Nat} {w2 : World} {y : Hd} {ys : List Int} (h : Win lo b w A n c hs yss) (hlo : lo ≤ w.heap.size) (hb : lo ≤ b) (hn : Only g (g + 1) w w2) (hgl : g < lo) (hy : Ow 3 w.heap.size w2.heap.size w2 y.1 y.2.1 y.2.2 (ys.map (Value.int .i64)))
    (hown : w1.ownsRow lo 54 1 (.slice (some ⟨g7, 0, none⟩) (n + 1) cap7) (n + 1) (hs.map hdV ++ [hdV y])) (hg : w2.grownBy w1 (Value.slice A n c).ownBlock) (hat : (Value.slice A n c).ownBlock = some g7 ∨ w2.heap.size ≤ g7) :
    Win lo b (w1.setCell ⟨b, 0, none⟩ (.slice (some ⟨g7, 0, none⟩) (n + 1) cap7)) (some ⟨g7, 0, none⟩) (n + 1) cap7 (hs ++ [y]) (yss ++ [ys]) ∧ Below lo w2 (w1.setCell ⟨b, 0, none⟩ (.slice (some ⟨g7, 0, none⟩) (n + 1) cap7)) := by
  have hbl := h.bx.lt
  have hz := hn.size
  have h2 : OwSS lo w.heap.size w2 A n c hs (iss yss) := h.ow.same (same_only hn (.inr (by omega)) (Nat.le_refl _))
  have h3 : OwSS lo w1.heap.size w1 (some ⟨g7, 0, none⟩) (n + 1) cap7 (hs ++ [y]) (iss yss ++ [ys.map (Value.int .i64)]) := h2.push hy hlo (Nat.le_refl _) hz (Nat.le_refl _) hown hg hat
  have hgb : g7 ≠ b := fun e => by
    subst e
    rcases hat with e | e
    · exact h.offA e
    · omega
  have hyb : ∀ k, (hdV y).ownBlock = some k → w.heap.size ≤ k := fun k hk => (hy.own.lt k hk).1
  have hor : ∀ (j : Nat) (x : Hd), (hs ++ [y])[j]? = some x → (hdV x).ownBlock ≠ some b := by
    intro j x hj e
    rcases snoc_get hj with e2 | ⟨rfl, rfl⟩
    · exact h.offR j x e2 e
    · have := hyb b e; omega
  refine ⟨⟨?_, by simpa [Value.ownBlock] using hgb, hor, ?_⟩, ?_⟩
  · have e : iss (yss ++ [ys]) = iss yss ++ [ys.map (Value.int .i64)] := by unfold iss; rw [List.map_append]; rfl
    rw [setc_size, e]
    exact h3.off_set (by simpa [Value.ownBlock] using hgb) hor
  · have h4 : Bx w1 b 26 #[.slice A n c] := (h.bx.same (same_only hn (by omega) (Nat.succ_le_of_lt hbl))).same (same_grown hg (by omega) (fun k hk => by have : k ≠ b := fun e => h.offA (by rw [hk, e]); omega))
    have h5 := h4.set_ 0 (.slice (some ⟨g7, 0, none⟩) (n + 1) cap7)
    simpa using h5
  · exact Below.setCell (p := ⟨b, 0, none⟩) (Below.grown (Below.refl _ _) hg (by omega) (fun k hk => (h.ow.hd.own.lt k hk).1)) hb _
end
theorem rd_setc {w : World} {A : Option Addr} {n b i : Nat} {u : Value} {xs : List Value} (h : Rd w A n xs) (hne : ∀ a, A = some a → a.block ≠ b) : Rd (w.setCell ⟨b, i, none⟩ u) A n xs :=
  ⟨h.len, fun hn => by
    obtain ⟨k, off, rfl, hlt, hc⟩ := h.ex hn
    exact ⟨k, off, rfl, by rw [setc_size]; exact hlt, fun j v hj => (World.cell?_setCell_other w _ _ u (fun e => hne _ rfl (by rw [Addr.mk.injEq] at e; exact e.1.symm))).trans (hc j v hj)⟩⟩

end Go.Proofs.Ytnljlehbjdambaa
