/-
  A window's rows behind a box: the row of headers lies in the box, no block of theirs is the box; the steps of WindowAdd on it.
-/
import Derived.Test.YtnljlehbjdambaaAddQ
import Derived.Test.YtnljlehbjdambaaLists
namespace Go.Proofs.Ytnljlehbjdambaa
open Go.RowKit
set_option linter.unusedSimpArgs false
set_option linter.unusedVariables false

structure Win (lo b : Nat) (w : World) (A : Option Addr) (n c : Nat) (hs : List Hd) (yss : List (List Int)) : Prop where
  ow : OwSS lo w.heap.size w A n c hs (iss yss)
  offA : (Value.slice A n c).ownBlock ≠ some b
  offR : ∀ (j : Nat) (x : Hd), hs[j]? = some x → (hdV x).ownBlock ≠ some b
  bx : Bx w b 26 #[.slice A n c]

theorem grown_drew (w : World) {row : Option Nat} : w.grownBy w.drew row := ⟨rfl, rfl, rfl, Nat.le_refl _, fun _ _ _ => rfl⟩
theorem same_grown {lo hi : Nat} {w w' : World} {row : Option Nat} (hg : w.grownBy w' row) (hs : hi ≤ w.heap.size) (hr : ∀ k, row = some k → k < lo ∨ hi ≤ k) : Same lo hi w w' := fun k h1 h2 => hg.block k (by omega) (fun e => by have := hr k e.symm; omega)
theorem cell_grown {w w' : World} {row : Option Nat} {b i : Nat} (hg : w.grownBy w' row) (hb : b < w.heap.size) (hne : some b ≠ row) : w'.cell? ⟨b, i, none⟩ = w.cell? ⟨b, i, none⟩ := by
  have := hg.block b hb hne
  simp only [World.cell?, this]
theorem frozen_grown {w w' : World} {row : Option Nat} {b i : Nat} (hg : w.grownBy w' row) (hb : b < w.heap.size) (hne : some b ≠ row) : w'.frozen? ⟨b, i, none⟩ = w.frozen? ⟨b, i, none⟩ := by
  have := hg.block b hb hne
  simp only [World.frozen?, this]
/-- A block that is new is none of the old ones. -/
theorem grown_new {w w0 w1 : World} {row : Option Nat} {g : Nat} (h : w.grownBy w0 row) (h1 : w0.grownBy w1 (some g)) (hg : w.heap.size ≤ g) : w.grownBy w1 row :=
  h.andThen h1 (fun j e => .inl (by injection e with e; omega))
theorem grown_alloc (w : World) (o : Obj) {row : Option Nat} : w.grownBy (w.alloc o) row := World.grownBy_alloc w o row
theorem setc_size (w : World) (a : Addr) (u : Value) : (w.setCell a u).heap.size = w.heap.size := by simp [World.setCell]
theorem below_of_grown {lo : Nat} {w w' : World} {row : Option Nat} (h : w.grownBy w' row) (h0 : lo ≤ w.heap.size) (hr : ∀ k, row = some k → lo ≤ k) : Below lo w w' := Below.grown (Below.refl _ _) h h0 hr

section
variable {lo b n c : Nat} {w w1 : World} {A : Option Addr} {hs : List Hd} {yss : List (List Int)}
theorem Win.len (h : Win lo b w A n c hs yss) : yss.length = n := by have := h.ow.len; rwa [iss_len] at this
theorem Win.start {hi : Nat} (h : OwSS lo hi w A n c hs (iss yss)) (h1 : hi ≤ b) (h2 : hi ≤ w.heap.size) (hb : Bx w b 26 #[.slice A n c]) : Win lo b w A n c hs yss :=
  ⟨h.wide (Nat.le_refl _) h2, fun e => by have := h.hd.top b e; omega, fun j x hj e => by have := h.rows.top j x b hj e; omega, hb⟩
theorem Win.bcell (h : Win lo b w A n c hs yss) : w.cell? ⟨b, 0, none⟩ = some (.slice A n c) := by have := h.bx.cells 0; simpa using this
theorem Win.lo_le (h : Win lo b w A n c hs yss) (hn : 0 < n) : lo ≤ w.heap.size := by
  obtain ⟨g, cap, hv, hg, hl, _⟩ := own_form h.ow.hd.own hn
  omega
/-- Row q: where its header lies, what it is. -/
theorem Win.get {q : Nat} (h : Win lo b w A n c hs yss) (hq : q < n) : ∃ (ga : Nat) (xa : Option Addr) (xn xc : Nat), A = some ⟨ga, 0, none⟩ ∧ hs[q]? = some (xa, xn, xc) ∧ w.cell? ⟨ga, q, none⟩ = some (.slice xa xn xc) ∧ w.frozen? ⟨ga, q, none⟩ = false ∧
    w.ownsRow lo 3 1 (.slice xa xn xc) xn ((yss.getD q []).map (Value.int .i64)) ∧ (yss.getD q []).length = xn ∧ ga < w.heap.size ∧ ga ≠ b ∧ lo ≤ ga ∧ n ≤ c ∧ c ≤ maxLen := by
  obtain ⟨ga, ca, hv, hg1, hg2, hc1, hc2⟩ := own_form h.ow.hd.own (by omega)
  simp only [Value.slice.injEq] at hv
  obtain ⟨rfl, _, rfl⟩ := hv
  obtain ⟨⟨xa, xn, xc⟩, vs, hx, hvs, hrd, hvl⟩ := h.ow.rd.get hq
  obtain ⟨ys, hys, rfl⟩ := iss_get' hvs
  have hrow := h.ow.rows.row q _ _ hx hvs
  rw [getD_some hys]
  refine ⟨ga, xa, xn, xc, rfl, hx, ?_, h.ow.hd.own.frozenAt q, ?_, by simpa using hvl, hg2, fun e => h.offA (by rw [e]; rfl), hg1, hc1, hc2⟩
  · rw [h.ow.hd.own.cellAt q (by omega)]; simp [hx, hdV]
  · have : ys.length = xn := by simpa using hvl
    have h1 := hrow.own
    simpa [this] using h1
/-- Row q, if it has elements, lies in a block of its own. -/
theorem Win.blk {q ga xn xc : Nat} {xa : Option Addr} (h : Win lo b w (some ⟨ga, 0, none⟩) n c hs yss) (hx : hs[q]? = some (xa, xn, xc)) (ho : w.ownsRow lo 3 1 (.slice xa xn xc) xn ((yss.getD q []).map (Value.int .i64))) (hp : 0 < xn) : ∃ gr, xa = some ⟨gr, 0, none⟩ ∧ gr < w.heap.size ∧ gr ≠ b ∧ gr ≠ ga ∧ lo ≤ gr ∧ xn ≤ xc ∧ xc ≤ maxLen := by
  obtain ⟨gr, cr, hrv, hgr1, hgr2, hcr1, hcr2⟩ := own_form ho hp
  simp only [Value.slice.injEq] at hrv
  obtain ⟨rfl, _, rfl⟩ := hrv
  exact ⟨gr, rfl, hgr2, fun e => h.offR q _ hx (by rw [e]; rfl), fun e => h.ow.off q _ ga hx rfl (by rw [e]; rfl), hgr1, hcr1, hcr2⟩
theorem Win.apart {q p ga gr xn xc yn yc : Nat} {ya : Option Addr} (h : Win lo b w (some ⟨ga, 0, none⟩) n c hs yss) (hx : hs[q]? = some (some ⟨gr, 0, none⟩, xn, xc)) (hy : hs[p]? = some (ya, yn, yc)) (hne : q ≠ p) : (Value.slice ya yn yc).ownBlock ≠ some gr :=
  fun e => hne (h.ow.rows.apart q p _ _ gr hx hy rfl e)
/-- One row is turned, its header stored. -/
theorem Win.turn {q ga : Nat} {x y : Hd} {ys : List Int} (h : Win lo b w (some ⟨ga, 0, none⟩) n c hs yss) (hx : hs[q]? = some x) (hg : w.grownBy w1 (hdV x).ownBlock)
    (ho : w1.ownsRow lo 3 1 (.slice y.1 y.2.1 y.2.2) y.2.1 (ys.map (Value.int .i64))) (hat : ∀ k, (hdV y).ownBlock = some k → (hdV x).ownBlock = some k ∨ w.heap.size ≤ k) :
    Win lo b (w1.setCell ⟨ga, q, none⟩ (hdV y)) (some ⟨ga, 0, none⟩) n c (hs.set q y) (yss.set q ys) ∧ Below lo w (w1.setCell ⟨ga, q, none⟩ (hdV y)) := by
  have hbl := h.bx.lt
  have hga : ga ≠ b := fun e => h.offA (by rw [e]; rfl)
  have hgl := (h.ow.hd.own.lt ga rfl).1
  have hxb : ∀ k, (hdV x).ownBlock = some k → lo ≤ k ∧ k < w.heap.size := fun k hk => h.ow.rows.top q x k hx hk
  have hql := get_lt hx
  have ht := h.ow.turn (Nat.le_refl _) hx hg ho hat
  refine ⟨⟨?_, h.offA, fun j z hj e => ?_, ?_⟩, ?_⟩
  · rw [setc_size]
    have : iss (yss.set q ys) = (iss yss).set q (ys.map (Value.int .i64)) := by unfold iss; rw [List.map_set]
    rw [this]; exact ht
  · by_cases hjq : q = j
    · subst hjq
      rw [List.getElem?_set_self hql] at hj
      obtain rfl := Option.some.inj hj
      rcases hat b e with e2 | e2
      · exact h.offR q x hx e2
      · omega
    · rw [List.getElem?_set_ne hjq] at hj
      exact h.offR j z hj e
  · have h1 : Bx w1 b 26 #[.slice (some ⟨ga, 0, none⟩) n c] := h.bx.same (same_grown hg (by omega) (fun k hk => by have : k ≠ b := fun e => h.offR q x hx (by rw [hk, e]); omega))
    refine h1.same (fun k h2 h3 => ?_)
    simp only [World.setCell, Array.getElem?_modify]
    rw [if_neg (by omega)]
  · exact Below.setCell (p := ⟨ga, q, none⟩) (below_of_grown hg (by have := (h.ow.hd.own.lt ga rfl).2; omega) (fun k hk => (hxb k hk).1)) hgl _
/-- A row without elements is laid behind the last one. -/
theorem Win.more {w2 : World} {g7 cap7 : Nat} {y : Hd} (h : Win lo b w A n c hs yss) (hlo : lo ≤ w.heap.size) (h12 : Below w.heap.size w w2) (hy : Ow 3 w.heap.size w2.heap.size w2 y.1 y.2.1 y.2.2 [])
    (hown : w1.ownsRow lo 54 1 (.slice (some ⟨g7, 0, none⟩) (n + 1) cap7) (n + 1) (hs.map hdV ++ [hdV y])) (hg : w2.grownBy w1 (Value.slice A n c).ownBlock) (hat : (Value.slice A n c).ownBlock = some g7 ∨ w2.heap.size ≤ g7) :
    Win lo b (w1.setCell ⟨b, 0, none⟩ (.slice (some ⟨g7, 0, none⟩) (n + 1) cap7)) (some ⟨g7, 0, none⟩) (n + 1) cap7 (hs ++ [y]) (yss ++ [[]]) ∧ Below lo w w1 := by
  have hbl := h.bx.lt
  have hz := h12.size
  have h2 : OwSS lo w.heap.size w2 A n c hs (iss yss) := h.ow.same (same_below h12 (Nat.le_refl _))
  have h3 : OwSS lo w1.heap.size w1 (some ⟨g7, 0, none⟩) (n + 1) cap7 (hs ++ [y]) (iss yss ++ [[]]) := h2.push hy hlo (Nat.le_refl _) hz (Nat.le_refl _) hown hg hat
  have hgb : g7 ≠ b := fun e => by
    subst e
    rcases hat with e | e
    · exact h.offA e
    · omega
  have hyb : ∀ k, (hdV y).ownBlock = some k → w.heap.size ≤ k := fun k hk => (hy.own.lt k hk).1
  have hor : ∀ (j : Nat) (x : Hd), (hs ++ [y])[j]? = some x → (hdV x).ownBlock ≠ some b := by
    intro j x hj e
    rcases snoc_get hj with e2 | ⟨rfl, rfl⟩
    · exact h.offR j x e2 e
    · have := hyb b e; omega
  refine ⟨⟨?_, by simpa [Value.ownBlock] using hgb, hor, ?_⟩, ?_⟩
  · have e : iss (yss ++ [[]]) = iss yss ++ [[]] := by unfold iss; rw [List.map_append]; rfl
    rw [setc_size, e]
    exact h3.off_set (by simpa [Value.ownBlock] using hgb) hor
  · have h4 : Bx w1 b 26 #[.slice A n c] := (h.bx.same (same_below h12 (by omega))).same (same_grown hg (by omega) (fun k hk => by have : k ≠ b := fun e => h.offA (by rw [hk, e]); omega))
    have h5 := h4.set_ 0 (.slice (some ⟨g7, 0, none⟩) (n + 1) cap7)
    simpa using h5
  · refine Below.grown (h12.mono hlo) hg (by omega) (fun k hk => (h.ow.hd.own.lt k hk).1)
/-- A store ahead of all rows. -/
theorem Win.fin {rb lo' : Nat} {u : Value} (h : Win lo b w A n c hs yss) (h1 : rb < lo) (h2 : lo' ≤ lo) : OwSS lo' (w.setCell ⟨rb, 0, none⟩ u).heap.size (w.setCell ⟨rb, 0, none⟩ u) A n c hs (iss yss) := by
  rw [setc_size]
  exact (h.ow.same (same_setc h1)).wide h2 (Nat.le_refl _)
end
theorem set_getD_ne {xss : List (List Int)} {r q : Nat} {ys : List Int} (h : q ≠ r) : (xss.set r ys).getD q [] = xss.getD q [] := by
  simp only [List.getD]; rw [List.getElem?_set_ne (fun e => h e.symm)]
theorem pushR_getD {xss : List (List Int)} {r q : Nat} {v : Int} (h : q ≠ r) : (pushR xss r v).getD q [] = xss.getD q [] := set_getD_ne h
theorem moreR_getD {xss : List (List Int)} {r q : Nat} (h : q < xss.length) : (moreR xss r).getD q [] = xss.getD q [] := by
  unfold moreR
  split
  · simp only [List.getD]; rw [List.getElem?_append_left h]
  · rfl
theorem two_getD {l : List Int} (h : 2 ≤ l.length) : l[0]? = some (l.getD 0 0) ∧ l[1]? = some (l.getD 1 0) := by
  constructor <;> simp [List.getD, List.getElem?_eq_getElem (show 0 < l.length by omega), List.getElem?_eq_getElem (show 1 < l.length by omega)]
/-- The other order: the long row first. -/
theorem shiftR_alt {xss : List (List Int)} {r : Nat} (h : r < xss.length) : pushR (moreR (xss.set r ((xss.getD r []).drop 2)) (r + 1)) (r + 1) (bothOf (xss.getD r [])) = shiftR xss r := by
  unfold shiftR
  have e : moreR (xss.set r ((xss.getD r []).drop 2)) (r + 1) = (moreR xss (r + 1)).set r ((xss.getD r []).drop 2) := by
    unfold moreR
    rw [List.length_set]
    split
    · rw [List.set_append_left _ _ h]
    · rfl
  rw [e]
  unfold pushR
  rw [set_getD_ne (by omega), List.set_comm _ _ (by omega)]
/-- What the steps of WindowAdd leave, at the names of the walk. -/
theorem Win.more_nil {lo b n c g7 cap7 : Nat} {w w1 : World} {A : Option Addr} {hs : List Hd} {yss : List (List Int)} (h : Win lo b w A n c hs yss) (hlo : lo ≤ w.heap.size) (hb : lo ≤ b)
    (hown : w1.ownsRow lo 54 1 (.slice (some ⟨g7, 0, none⟩) (n + 1) cap7) (n + 1) (hs.map hdV ++ [.slice none 0 0])) (hg : (w.alloc (.cells #[.slice none 0 0] 54)).grownBy w1 (Value.slice A n c).ownBlock) (hat : (Value.slice A n c).ownBlock = some g7 ∨ g7 = w.heap.size + 1) :
    Win lo b (w1.setCell ⟨b, 0, none⟩ (.slice (some ⟨g7, 0, none⟩) (n + 1) cap7)) (some ⟨g7, 0, none⟩) (n + 1) cap7 (hs ++ [(none, 0, 0)]) (yss ++ [[]]) ∧ Below lo w (w1.setCell ⟨b, 0, none⟩ (.slice (some ⟨g7, 0, none⟩) (n + 1) cap7)) := by
  obtain ⟨h1, h2⟩ := h.more (y := (none, 0, 0)) hlo (below_alloc1 _) ⟨World.ownsRow_nil _ _ _ _, by intro k hk; cases hk⟩ hown hg (hat.imp id (fun e => by rw [World.size_alloc]; omega))
  exact ⟨h1, Below.setCell (p := ⟨b, 0, none⟩) h2 hb _⟩
theorem Win.more_lit {lo b n c g7 cap7 : Nat} {w w1 : World} {A : Option Addr} {hs : List Hd} {yss : List (List Int)} (h : Win lo b w A n c hs yss) (hlo : lo ≤ w.heap.size) (hb : lo ≤ b)
    (hown : w1.ownsRow lo 54 1 (.slice (some ⟨g7, 0, none⟩) (n + 1) cap7) (n + 1) (hs.map hdV ++ [.slice (some ⟨w.heap.size, 0, none⟩) 0 0])) (hg : ((w.alloc (.cells #[] 3)).alloc (.cells #[.slice (some ⟨w.heap.size, 0, none⟩) 0 0] 54)).grownBy w1 (Value.slice A n c).ownBlock) (hat : (Value.slice A n c).ownBlock = some g7 ∨ g7 = w.heap.size + 1 + 1) :
    Win lo b (w1.setCell ⟨b, 0, none⟩ (.slice (some ⟨g7, 0, none⟩) (n + 1) cap7)) (some ⟨g7, 0, none⟩) (n + 1) cap7 (hs ++ [(some ⟨w.heap.size, 0, none⟩, 0, 0)]) (yss ++ [[]]) ∧ Below lo w (w1.setCell ⟨b, 0, none⟩ (.slice (some ⟨g7, 0, none⟩) (n + 1) cap7)) := by
  have hbx : Bx ((w.alloc (.cells #[] 3)).alloc (.cells #[.slice (some ⟨w.heap.size, 0, none⟩) 0 0] 54)) w.heap.size 3 #[] := (Bx.new w 3 #[]).same (same_alloc _ (by simp only [World.size_alloc]; omega))
  obtain ⟨h1, h2⟩ := h.more (y := (some ⟨w.heap.size, 0, none⟩, 0, 0)) hlo ((below_alloc1 _).alloc (by simp only [World.size_alloc]; omega) _) (Ow.of_bx0 hbx (Nat.le_refl _) (by simp only [World.size_alloc]; omega)) hown hg (hat.imp id (fun e => by simp only [World.size_alloc]; omega))
  exact ⟨h1, Below.setCell (p := ⟨b, 0, none⟩) h2 hb _⟩
/-- One number behind row q. -/
theorem Win.pushed {lo b n c q ga xn xc g7 cap7 : Nat} {v : Int} {w w1 : World} {xa : Option Addr} {hs : List Hd} {yss : List (List Int)} (h : Win lo b w (some ⟨ga, 0, none⟩) n c hs yss) (hx : hs[q]? = some (xa, xn, xc))
    (hown : w1.ownsRow lo 3 1 (.slice (some ⟨g7, 0, none⟩) (xn + 1) cap7) (xn + 1) ((yss.getD q []).map (Value.int .i64) ++ [.int .i64 v])) (hg : w.grownBy w1 (Value.slice xa xn xc).ownBlock) (hat : (Value.slice xa xn xc).ownBlock = some g7 ∨ g7 = w.heap.size + 1) :
    Win lo b (w1.setCell ⟨ga, q, none⟩ (.slice (some ⟨g7, 0, none⟩) (xn + 1) cap7)) (some ⟨ga, 0, none⟩) n c (hs.set q (some ⟨g7, 0, none⟩, xn + 1, cap7)) (pushR yss q v) ∧ Below lo w (w1.setCell ⟨ga, q, none⟩ (.slice (some ⟨g7, 0, none⟩) (xn + 1) cap7)) := by
  refine h.turn (y := (some ⟨g7, 0, none⟩, xn + 1, cap7)) (ys := yss.getD q [] ++ [v]) hx hg (by rw [List.map_append]; exact hown) (fun k hk => ?_)
  simp only [hdV, Value.ownBlock, Option.some.injEq] at hk
  subst hk
  exact hat.imp id (fun e => by omega)
/-- Row q gives way to a new row. -/
theorem Win.swapped {lo b n c q ga yn yc : Nat} {ya : Option Addr} {x : Hd} {ys : List Int} {w w1 : World} {hs : List Hd} {yss : List (List Int)} (h : Win lo b w (some ⟨ga, 0, none⟩) n c hs yss) (hx : hs[q]? = some x)
    (hown : w1.ownsRow w.heap.size 3 1 (.slice ya yn yc) yn (ys.map (Value.int .i64))) (hg : w.grownBy w1 none) :
    Win lo b (w1.setCell ⟨ga, q, none⟩ (.slice ya yn yc)) (some ⟨ga, 0, none⟩) n c (hs.set q (ya, yn, yc)) (yss.set q ys) ∧ Below lo w (w1.setCell ⟨ga, q, none⟩ (.slice ya yn yc)) :=
  h.turn (y := (ya, yn, yc)) hx (hg.but _) (own_base hown (by have := h.ow.hd.own.lt ga rfl; omega)) (fun k hk => .inr (hown.lt k hk).1)

end Go.Proofs.Ytnljlehbjdambaa
