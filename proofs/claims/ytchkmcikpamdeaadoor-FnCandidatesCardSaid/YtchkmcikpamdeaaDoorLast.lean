/-
  A region that draws its order and whose last operation waits for all others: that operation is carried out behind the others, whatever their order.
-/
import Derived.Test.YtchkmcikpamdeaaDoorBase
import Derived.OrdersHeld
import Derived.Deep.RegionHeld3
import Derived.Still
import Derived.StillTail
namespace Go.Proofs.YtchkmcikpamdeaaDoor
open Go.RowKit
set_option linter.unusedSimpArgs false
set_option linter.unusedVariables false

/-- What is asked behind the others: the last operation, then what was asked. -/
def Behind (P : Program) (o : Oper) (Q : Exit → Act → World → Prop) : Exit → Act → World → Prop
  | .normal, a, w => ∀ K : Act → World → Prop, Shut (∀ a' w', Q .normal a' w' → K a' w') → Oper.wp P o a w K Q
  | e, a, w => Q e a w

theorem upon_behind {P : Program} {o x : Oper} {Q : Exit → Act → World → Prop} {a : Act} {K : Act → World → Prop} : ∀ r : Result Next, x.upon P a K (Behind P o Q) r → x.upon P a K Q r := by
  intro r h
  cases r with
  | ok n w' =>
    cases n <;> simp only [Oper.upon] at h ⊢ <;> first | exact h | skip
  | halt y w' => cases y <;> simp only [Oper.upon] at h ⊢; exact h

theorem wpOp_behind {P : Program} {ops ops2 : Array Oper} {o : Oper} {i : Nat} {Q : Exit → Act → World → Prop} {a : Act} {w : World} {K K' : Act → World → Prop} (he : ops[i]? = ops2[i]?) (hg : ∀ x, ops[i]? = some x → x.guard = none)
    (hK : ∀ a w, K a w → K' a w) (h : wpOp P ops2 (Behind P o Q) i K a w) : wpOp P ops Q i K' a w := by
  refine wpOp_mono hK ?_
  unfold wpOp at h ⊢
  rw [he]
  cases hx : ops2[i]? with
  | none => rw [hx] at h; exact h
  | some x =>
    rw [hx] at h
    have hgx := hg x (by rw [he, hx])
    have h1 : ∀ y, Region.wanted x y = true := fun y => by simp [Region.wanted, hgx]
    simp only [h1, if_true] at h ⊢
    rcases h with h | h
    · exact .inl (upon_behind _ h)
    · exact .inr ⟨h.1, h.2⟩

/-- The shape that is asked of a region: no guards, each operation waits for earlier ones alone, the last one for all. -/
def lastB (md : Region.Mode) (ops : Array Oper) (n : Nat) : Bool :=
  decide (ops.size = n + 1) && ops.all (fun o => o.guard.isNone) && (List.range (n + 1)).all (fun i => match ops[i]? with | some o => o.after.all fun e => decide (e.on < i) | none => true) && (List.range n).all (fun i => Region.waitsFor md ops n i)

theorem lastB_spec {md : Region.Mode} {ops : Array Oper} {n : Nat} (h : lastB md ops n = true) : ops.size = n + 1 ∧ (∀ (i : Nat) (o : Oper), ops[i]? = some o → o.guard = none) ∧ (∀ (i : Nat) (o : Oper), i ≤ n → ops[i]? = some o → ∀ e ∈ o.after, e.on < i) ∧ ∀ i, i < n → Region.waitsFor md ops n i = true := by
  unfold lastB at h
  simp only [Bool.and_eq_true, decide_eq_true_eq, List.all_eq_true, List.mem_range, Array.all_eq_true_iff_forall_mem] at h
  obtain ⟨⟨⟨h1, h2⟩, h3⟩, h4⟩ := h
  refine ⟨h1, fun i o ho => ?_, fun i o hi ho e he => ?_, h4⟩
  · have := h2 o (Array.mem_of_getElem? ho)
    simpa using this
  · have h5 := h3 i (by omega)
    rw [ho] at h5
    simp only [Array.all_eq_true_iff_forall_mem, decide_eq_true_eq] at h5
    exact h5 e he

theorem getD_setc (l : Array Bool) (i j : Nat) (d : Bool) (hi : i < l.size) : (l.setIfInBounds i true).getD j d = if i = j then true else l.getD j d := by
  by_cases h : i = j
  · subst h; simp [Array.getD, hi]
  · rw [if_neg h, getD_set_ne d h]

/-- The least operation that has not come up may come up. -/
theorem ready_least {md : Region.Mode} {ops : Array Oper} {listed : Array Bool} (hb : ∀ (i : Nat) (o : Oper), i < ops.size → ops[i]? = some o → ∀ e ∈ o.after, e.on < i) (hz : listed.size = ops.size) (hr : Region.ready md ops listed = []) :
    ∀ i, i < ops.size → listed.getD i true = true := by
  intro i
  induction i using Nat.strongRecOn with
  | _ i ih =>
    intro hi
    cases hl : listed.getD i true with
    | true => rfl
    | false =>
      have : i ∈ Region.ready md ops listed := mem_ready.2 ⟨hl, ops[i], Array.getElem?_eq_getElem hi, fun e he _ => by
        have h1 := hb i _ hi (Array.getElem?_eq_getElem hi) e he
        have h2 := ih e.on h1 (by omega)
        have h3 : e.on < listed.size := by omega
        simp [Array.getD, h3] at h2 ⊢
        exact h2⟩
      rw [hr] at this
      cases this

theorem wpAny_last {P : Program} {md : Region.Mode} {ops ops2 : Array Oper} {o : Oper} {n : Nat} {Q : Exit → Act → World → Prop} (hB : lastB md ops n = true) (h2 : ops2.size = n) (he : ∀ i, i < n → ops[i]? = ops2[i]?) (ho : ops[n]? = some o) :
    ∀ (fuel : Nat) (listed listed2 : Array Bool) (a : Act) (w : World), listed.size = n + 1 → listed2.size = n → (∀ i, i < n → listed.getD i true = listed2.getD i true) → listed.getD n true = false →
      wpAny P md ops2 (Behind P o Q) fuel listed2 a w → wpAny P md ops Q (fuel + 1) listed a w := by
  obtain ⟨hs, hg, hback, hwait⟩ := lastB_spec hB
  have hg2 : ∀ (i : Nat) (x : Oper), ops[i]? = some x → x.guard = none := hg
  have hb2 : ∀ (i : Nat) (x : Oper), i < ops2.size → ops2[i]? = some x → ∀ e ∈ x.after, e.on < i := fun i x hi hx => hback i x (by omega) (by rw [he i (by omega), hx])
  -- what may come up
  have hrd : ∀ (listed listed2 : Array Bool), listed.size = n + 1 → listed2.size = n → (∀ i, i < n → listed.getD i true = listed2.getD i true) → ∀ i, i < n → (i ∈ Region.ready md ops listed ↔ i ∈ Region.ready md ops2 listed2) := by
    intro l l2 z z2 hl i hi
    rw [mem_ready, mem_ready, he i hi, hl i hi]
    refine and_congr Iff.rfl (exists_congr fun x => and_congr_right fun hx => forall_congr' fun e => forall_congr' fun hem => forall_congr' fun _ => ?_)
    have h1 := hb2 i x (by omega) hx e hem
    have h3 := hl e.on (by omega)
    have z3 : e.on < l.size := by omega
    have z4 : e.on < l2.size := by omega
    simp [Array.getD, z3, z4] at h3 ⊢
    rw [h3]
  have hlast : ∀ (listed : Array Bool), listed.size = n + 1 → n ∈ Region.ready md ops listed → ∀ i, i < n → listed.getD i true = true := by
    intro l z hn i hi
    obtain ⟨_, x, hx, hall⟩ := mem_ready.1 hn
    obtain ⟨x', hx', e, hem, hbd, hon⟩ := Region.waitsFor_spec (hwait i hi)
    rw [hx] at hx'
    obtain rfl := Option.some.inj hx'
    have h1 := hall e hem hbd
    rw [hon] at h1
    have z3 : i < l.size := by omega
    simp [Array.getD, z3] at h1 ⊢
    exact h1
  have hend : ∀ (listed : Array Bool), listed.size = n + 1 → (∀ i, i < n → listed.getD i true = true) → listed.getD n true = false → n ∈ Region.ready md ops listed := by
    intro l z hall hn
    refine mem_ready.2 ⟨hn, o, ho, fun e hem _ => ?_⟩
    have h1 := hback n o (Nat.le_refl _) ho e hem
    have h3 := hall e.on h1
    have z3 : e.on < l.size := by omega
    simp [Array.getD, z3] at h3 ⊢
    exact h3
  have hnone : ∀ (listed2 : Array Bool), listed2.size = n → Region.ready md ops2 listed2 = [] → ∀ i, i < n → listed2.getD i true = true := fun l2 z hr i hi => ready_least (by rw [h2]; exact fun i x hi hx => hb2 i x (by omega) hx) (by omega) hr i (by omega)
  have hall : ∀ (listed2 : Array Bool), listed2.size = n → (∀ i, i < n → listed2.getD i true = true) → Region.ready md ops2 listed2 = [] := by
    intro l2 z hl
    refine List.eq_nil_iff_forall_not_mem.2 fun i hi => ?_
    obtain ⟨h1, x, hx, _⟩ := mem_ready.1 hi
    have : i < ops2.size := (Array.getElem?_eq_some_iff.1 hx).1
    rw [hl i (by omega)] at h1
    cases h1
  -- the last operation
  have hstep : ∀ (fuel : Nat) (listed : Array Bool) (a : Act) (w : World), listed.size = n + 1 → (∀ i, i < n → listed.getD i true = true) → Behind P o Q .normal a w → wpOp P ops Q n (wpAny P md ops Q fuel (listed.setIfInBounds n true)) a w := by
    intro fuel l a w z hl hq
    have hr : Region.ready md ops (l.setIfInBounds n true) = [] := by
      refine List.eq_nil_iff_forall_not_mem.2 fun i hi => ?_
      obtain ⟨h1, x, hx, _⟩ := mem_ready.1 hi
      have hi' : i < ops.size := (Array.getElem?_eq_some_iff.1 hx).1
      rw [getD_setc _ _ _ _ (by omega)] at h1
      split at h1
      · cases h1
      · rw [hl i (by omega)] at h1; cases h1
    unfold wpOp
    rw [ho]
    have hwn : Region.wanted o (yielded ops a.tmps) = true := by simp [Region.wanted, hg n o ho]
    simp only [hwn, if_true]
    refine .inl (hq _ fun a' w' hq' => ?_)
    cases fuel with
    | zero => exact ⟨hr, hq'⟩
    | succ fuel => exact ⟨fun _ => hq', by rw [hr]; intro i hi; cases hi⟩
  intro fuel
  induction fuel with
  | zero =>
    intro l l2 a w z z2 hl hn h
    obtain ⟨hr, hq⟩ := h
    have hl2 := hnone l2 z2 hr
    have hln : ∀ i, i < n → l.getD i true = true := fun i hi => by rw [hl i hi]; exact hl2 i hi
    refine ⟨fun h0 => absurd (hend l z hln hn) (by rw [h0]; simp), fun i hi => ?_⟩
    have hi' : i < ops.size := by obtain ⟨_, x, hx, _⟩ := mem_ready.1 hi; exact (Array.getElem?_eq_some_iff.1 hx).1
    rcases Nat.lt_or_ge i n with h5 | h5
    · have := (hrd l l2 z z2 hl i h5).1 hi
      rw [hr] at this; cases this
    · obtain rfl : i = n := by omega
      exact hstep 0 l a w z hln hq
  | succ fuel ih =>
    intro l l2 a w z z2 hl hn h
    obtain ⟨h0, h1⟩ := h
    refine ⟨fun hr0 => ?_, fun i hi => ?_⟩
    · by_cases hr : Region.ready md ops2 l2 = []
      · have hln : ∀ i, i < n → l.getD i true = true := fun i hi => by rw [hl i hi]; exact hnone l2 z2 hr i hi
        exact absurd (hend l z hln hn) (by rw [hr0]; simp)
      · obtain ⟨i, hi⟩ := List.exists_mem_of_ne_nil _ hr
        have hi2 : i < ops2.size := by obtain ⟨_, x, hx, _⟩ := mem_ready.1 hi; exact (Array.getElem?_eq_some_iff.1 hx).1
        have := (hrd l l2 z z2 hl i (by omega)).2 hi
        rw [hr0] at this; cases this
    · have hi' : i < ops.size := by obtain ⟨_, x, hx, _⟩ := mem_ready.1 hi; exact (Array.getElem?_eq_some_iff.1 hx).1
      rcases Nat.lt_or_ge i n with h5 | h5
      · have hi2 := (hrd l l2 z z2 hl i h5).1 hi
        refine wpOp_behind (he i h5) (hg i) (fun a' w' h' => ih _ _ a' w' (by simp [z]) (by simp [z2]) (fun j hj => ?_) (by rw [getD_setc _ _ _ _ (by omega), if_neg (by omega)]; exact hn) h') (h1 i hi2)
        rw [getD_setc _ _ _ _ (by omega), getD_setc _ _ _ _ (by omega), hl j hj]
      · obtain rfl : i = n := by omega
        have hln := hlast l z hi
        have hl2 : ∀ j, j < i → l2.getD j true = true := fun j hj => by rw [← hl j hj]; exact hln j hj
        exact hstep (fuel + 1) l a w z hln (h0 (hall l2 z2 hl2))

/-- **A region whose last operation waits for all others**: the others under a condition S on the world, then the last one. -/
theorem wp_region_last {P : Program} {id n : Nat} {ops : Array Oper} {o : Oper} {Q : Exit → Act → World → Prop} {S : World → Prop} {a : Act} {w : World} (hB : lastB .any ops n = true) (ho : ops[n]? = some o) (hm : P.follows .mixedOrders = true) (hS : S w.drew)
    (h : S w.drew → wpAnyH P .any (ops.toList.take n).toArray (Behind P o Q) S n (Array.replicate n false) a w.drew) : (Code.region id ops true).wp P Q a w := by
  have hs := (lastB_spec hB).1
  refine wp_region_any hm ?_
  rw [hs]
  have hz : (ops.toList.take n).toArray.size = n := by simp; omega
  refine wpAny_last hB hz (fun i hi => by simp [List.getElem?_take, hi]) ho n _ _ a w.drew (by simp) (by simp) (fun i hi => ?_) ?_ (wpAny_of_held _ _ _ _ (h hS))
  · have h1 : i < n + 1 := by omega
    simp [Array.getD, hi, h1]
  · simp [Array.getD]

end Go.Proofs.YtchkmcikpamdeaaDoor
