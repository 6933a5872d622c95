/-
  Copies of tapes, of both packages.
-/
import Derived.Test.YtfdpfeaegcfglaaTapeLeft
import Derived.Test.YtfdpfeaegcfglaaCloneB
import Derived.Test.YtfdpfeaegcfglaaObj
import Derived.Deep.Upon
namespace Go.Proofs.Ytfdpfeaegcfglaa
open Go.RowKit
set_option linter.unusedSimpArgs false
set_option linter.unusedVariables false

theorem lt_of_c {w : World} {b off : Nat} {u : Value} (h : w.cell? ⟨b, off, none⟩ = some u) : b < w.heap.size := World.block_lt_of_cell? w ⟨b, off, none⟩ h

set_option maxHeartbeats 1000000 in
theorem iCopy_any (base n c : Nat) (A : Option Addr) (xs : List Int) (i : Int) (w : World) (h : w.ownsRow base 5 1 (.slice A n c) n (xs.map (Value.int .u8))) (hn : n ≤ 1073741824) :
    Calls Try.prog 77 #[.agg #[.slice A n c, .int .i64 i]] w fun e w' => ∃ A' c', e = .returned (.agg #[.slice A' n c', .int .i64 i]) ∧ w'.ownsRow w.heap.size 5 1 (.slice A' n c') n (xs.map (Value.int .u8)) ∧ Below w.heap.size w w' := by
  have H := Lib.hid h
  clear h
  have HW : Hid (Below (w.heap.size + 1 + 1) ((w.alloc (.cells #[.slice A n c, .int .i64 i] 49)).alloc (.cells #[.slice none 0 0, .int .i64 0] 49)) ((w.alloc (.cells #[.slice A n c, .int .i64 i] 49)).alloc (.cells #[.slice none 0 0, .int .i64 0] 49))) := Below.refl _ _
  have HW0 : Hid (Below w.heap.size w ((w.alloc (.cells #[.slice A n c, .int .i64 i] 49)).alloc (.cells #[.slice none 0 0, .int .i64 0] 49))) := by unfold Hid; go_grown
  have d00 : ((w.alloc (.cells #[.slice A n c, .int .i64 i] 49)).alloc (.cells #[.slice none 0 0, .int .i64 0] 49)).cell? ⟨w.heap.size, 0, none⟩ = some (.slice A n c) := by simp [go_sem, World.cell?_alloc_past]
  have d01 : ((w.alloc (.cells #[.slice A n c, .int .i64 i] 49)).alloc (.cells #[.slice none 0 0, .int .i64 0] 49)).cell? ⟨w.heap.size, 1, none⟩ = some (.int .i64 i) := by simp [go_sem, World.cell?_alloc_past]
  have d10 : ((w.alloc (.cells #[.slice A n c, .int .i64 i] 49)).alloc (.cells #[.slice none 0 0, .int .i64 0] 49)).cell? ⟨w.heap.size + 1, 0, none⟩ = some (.slice none 0 0) := by simp [go_sem, World.cell?_alloc_past]
  have d11 : ((w.alloc (.cells #[.slice A n c, .int .i64 i] 49)).alloc (.cells #[.slice none 0 0, .int .i64 0] 49)).cell? ⟨w.heap.size + 1, 1, none⟩ = some (.int .i64 0) := by simp [go_sem, World.cell?_alloc_past]
  have g10 : ((w.alloc (.cells #[.slice A n c, .int .i64 i] 49)).alloc (.cells #[.slice none 0 0, .int .i64 0] 49)).frozen? ⟨w.heap.size + 1, 0, none⟩ = false := by simp [go_sem, World.cell?_alloc_past]
  have g11 : ((w.alloc (.cells #[.slice A n c, .int .i64 i] 49)).alloc (.cells #[.slice none 0 0, .int .i64 0] 49)).frozen? ⟨w.heap.size + 1, 1, none⟩ = false := by simp [go_sem, World.cell?_alloc_past]
  have HO := Lib.hid ((H.out.alloc (.cells #[.slice A n c, .int .i64 i] 49)).alloc (.cells #[.slice none 0 0, .int .i64 0] 49))
  have HSz := Lib.hid (show ((w.alloc (.cells #[.slice A n c, .int .i64 i] 49)).alloc (.cells #[.slice none 0 0, .int .i64 0] 49)).heap.size = w.heap.size + 1 + 1 by simp)
  obtain ⟨W, hW⟩ : ∃ W, W = ((w.alloc (.cells #[.slice A n c, .int .i64 i] 49)).alloc (.cells #[.slice none 0 0, .int .i64 0] 49)) := ⟨_, rfl⟩
  go_enter Try.func77, Try.ntmps77
  go_wp2_with fail
  rw [← hW] at d00 d01 d10 d11 g10 g11 HO HW HW0 HSz ⊢
  have D00 := Lib.hid d00; have D01 := Lib.hid d01; have D10 := Lib.hid d10; have D11 := Lib.hid d11; have G10 := Lib.hid g10; have G11 := Lib.hid g11
  clear hW d00 d01 d10 d11 g10 g11
  go_region_held3 (fun w' => w'.cell? ⟨w.heap.size, 0, none⟩ = some (.slice A n c) ∧ w'.cell? ⟨w.heap.size, 1, none⟩ = some (.int .i64 i))
    (first
      | exact ⟨D00.out, D01.out⟩
      | exact ⟨c00, c01⟩
      | (refine ⟨?_, ?_⟩ <;> simp [go_sem, c00, c01]))
    (first
      | (go_at_call 92; refine (cloneB_own base n c A _ _ HO.out.drew hn (u8_one xs)).mono ?_; rintro e w1 ⟨A', c', rfl, o1, b1⟩; have hb := (HW.out.drew).trans (b1.mono (by show _ ≤ W.heap.size; exact Nat.le_of_eq HSz.out.symm)); obtain ⟨bc, bf, bz⟩ := bcell hb; have c00 : w1.cell? ⟨w.heap.size, 0, none⟩ = some (.slice A n c) := (by rw [bc _ _ (by omega)]; exact D00.out); have c01 : w1.cell? ⟨w.heap.size, 1, none⟩ = some (.int .i64 i) := (by rw [bc _ _ (by omega)]; exact D01.out); have c10 : w1.cell? ⟨w.heap.size + 1, 0, none⟩ = some (.slice none 0 0) := (by rw [bc _ _ (by omega)]; exact D10.out); have c11 : w1.cell? ⟨w.heap.size + 1, 1, none⟩ = some (.int .i64 0) := (by rw [bc _ _ (by omega)]; exact D11.out); have f10 : w1.frozen? ⟨w.heap.size + 1, 0, none⟩ = false := (by rw [bf _ _ (by omega)]; exact G10.out); have f11 : w1.frozen? ⟨w.heap.size + 1, 1, none⟩ = false := (by rw [bf _ _ (by omega)]; exact G11.out); have HO1 : Hid (w1.ownsRow (w.heap.size + 1 + 1) 5 1 (.slice A' n c') n (xs.map (Value.int .u8))) := own_base o1 (by show _ ≤ W.heap.size; exact Nat.le_of_eq HSz.out.symm); have HB1 : Hid (Below w.heap.size w w1) := HW0.out.trans ((HW.out.drew.trans (b1.mono (by show _ ≤ W.heap.size; exact Nat.le_of_eq HSz.out.symm))).mono (by omega)); clear o1 b1 hb bc bf bz))
  go_wp2_with fail
  have lz := lt_of_c c10
  refine bodyPost_ret (v := .agg #[.slice A' n c', .int .i64 i]) (by simp [results, Try.results77, go_sem, c10, c11]) rfl ⟨A', c', rfl, ?_, ?_⟩
  · exact own_base (ownsRow_setCell_below (ownsRow_setCell_below HO1.out (by simp) _) (by simp) _) (by omega)
  · have hB2 := HB1.out
    go_grown

set_option maxHeartbeats 1000000 in
theorem sCopy_pos (b n c : Nat) (xs : List Int) (i : Int) (w : World) (h : Rd w (some ⟨b, 0, none⟩) n (xs.map (Value.int .u8))) (hn : n ≤ 1073741824) (hp : 0 < n) :
    Calls Try.prog 75 #[.agg #[.slice (some ⟨b, 0, none⟩) n c, .int .i64 i]] w fun e w' => ∃ A' c', e = .returned (.agg #[.slice A' n c', .int .i64 i]) ∧ w'.ownsRow w.heap.size 5 1 (.slice A' n c') n (xs.map (Value.int .u8)) ∧ Below w.heap.size w w' := by
  have HLen := Lib.hid h.len
  have hcs : ∀ j u, (xs.map (Value.int .u8))[j]? = some u → w.cell? ⟨b, j, none⟩ = some u := fun j u hj => by
    obtain ⟨b', off', he, hlt, hc⟩ := h.ex hp
    injection he with he
    injection he with he1 he2 _
    subst he1 he2
    have := hc j u hj
    simpa using this
  have hbl : b < w.heap.size := by
    obtain ⟨b', off', he, hlt, hc⟩ := h.ex hp
    injection he with he
    injection he with he1 he2 _
    subst he1
    exact hlt
  clear h
  obtain ⟨i0, hi0, hz0, hz1, hz2⟩ := info_parts info_ByteS
  have HI := Lib.hid hi0; have HZ := Lib.hid hz0; have HZ1 := Lib.hid hz1; have HZ2 := Lib.hid hz2
  clear hi0 hz0 hz1 hz2
  have HW : Hid (Below (w.heap.size + 1 + 1) ((w.alloc (.cells #[.slice (some ⟨b, 0, none⟩) n c, .int .i64 i] 49)).alloc (.cells #[.slice none 0 0, .int .i64 0] 49)) ((w.alloc (.cells #[.slice (some ⟨b, 0, none⟩) n c, .int .i64 i] 49)).alloc (.cells #[.slice none 0 0, .int .i64 0] 49))) := Below.refl _ _
  have HW0 : Hid (Below w.heap.size w ((w.alloc (.cells #[.slice (some ⟨b, 0, none⟩) n c, .int .i64 i] 49)).alloc (.cells #[.slice none 0 0, .int .i64 0] 49))) := by unfold Hid; go_grown
  have d00 : ((w.alloc (.cells #[.slice (some ⟨b, 0, none⟩) n c, .int .i64 i] 49)).alloc (.cells #[.slice none 0 0, .int .i64 0] 49)).cell? ⟨w.heap.size, 0, none⟩ = some (.slice (some ⟨b, 0, none⟩) n c) := by simp [go_sem, World.cell?_alloc_past]
  have d01 : ((w.alloc (.cells #[.slice (some ⟨b, 0, none⟩) n c, .int .i64 i] 49)).alloc (.cells #[.slice none 0 0, .int .i64 0] 49)).cell? ⟨w.heap.size, 1, none⟩ = some (.int .i64 i) := by simp [go_sem, World.cell?_alloc_past]
  have d10 : ((w.alloc (.cells #[.slice (some ⟨b, 0, none⟩) n c, .int .i64 i] 49)).alloc (.cells #[.slice none 0 0, .int .i64 0] 49)).cell? ⟨w.heap.size + 1, 0, none⟩ = some (.slice none 0 0) := by simp [go_sem, World.cell?_alloc_past]
  have d11 : ((w.alloc (.cells #[.slice (some ⟨b, 0, none⟩) n c, .int .i64 i] 49)).alloc (.cells #[.slice none 0 0, .int .i64 0] 49)).cell? ⟨w.heap.size + 1, 1, none⟩ = some (.int .i64 0) := by simp [go_sem, World.cell?_alloc_past]
  have g10 : ((w.alloc (.cells #[.slice (some ⟨b, 0, none⟩) n c, .int .i64 i] 49)).alloc (.cells #[.slice none 0 0, .int .i64 0] 49)).frozen? ⟨w.heap.size + 1, 0, none⟩ = false := by simp [go_sem, World.cell?_alloc_past]
  have g11 : ((w.alloc (.cells #[.slice (some ⟨b, 0, none⟩) n c, .int .i64 i] 49)).alloc (.cells #[.slice none 0 0, .int .i64 0] 49)).frozen? ⟨w.heap.size + 1, 1, none⟩ = false := by simp [go_sem, World.cell?_alloc_past]
  have HC : Hid (∀ j u, (xs.map (Value.int .u8))[j]? = some u → ((w.alloc (.cells #[.slice (some ⟨b, 0, none⟩) n c, .int .i64 i] 49)).alloc (.cells #[.slice none 0 0, .int .i64 0] 49)).cell? ⟨b, j, none⟩ = some u) := fun j u hj => (World.cell?_alloc_lt _ _ _ (by simp; omega)).trans ((World.cell?_alloc_lt _ _ _ hbl).trans (hcs j u hj))
  have HSz := Lib.hid (show ((w.alloc (.cells #[.slice (some ⟨b, 0, none⟩) n c, .int .i64 i] 49)).alloc (.cells #[.slice none 0 0, .int .i64 0] 49)).heap.size = w.heap.size + 1 + 1 by simp)
  clear hcs
  obtain ⟨W, hW⟩ : ∃ W, W = ((w.alloc (.cells #[.slice (some ⟨b, 0, none⟩) n c, .int .i64 i] 49)).alloc (.cells #[.slice none 0 0, .int .i64 0] 49)) := ⟨_, rfl⟩
  go_enter Try.func75, Try.ntmps75
  go_wp2_with fail
  rw [← hW] at d00 d01 d10 d11 g10 g11 HC HW HW0 HSz ⊢
  have D00 := Lib.hid d00; have D01 := Lib.hid d01; have D10 := Lib.hid d10; have D11 := Lib.hid d11; have G10 := Lib.hid g10; have G11 := Lib.hid g11
  have hl0 := lt_of_c d00; have hl1 := lt_of_c d01
  have HBE : Hid (Below (w.heap.size + 1 + 1) W (W.alloc (.cells #[] 5))) := HW.out.alloc (Nat.le_of_eq HSz.out.symm) _
  have HE : Hid ((W.alloc (.cells #[] 5)).ownsRow (w.heap.size + 1 + 1) 5 1 (.slice (some ⟨W.heap.size, 0, none⟩) 0 0) 0 []) := World.ownsRow_lit (base := w.heap.size + 1 + 1) (e := 5) (size := 1) W #[] 0 (Nat.le_of_eq HSz.out.symm) (by simp [maxLen]) rfl
  have HCE : Hid (∀ j u, (xs.map (Value.int .u8))[j]? = some u → (W.alloc (.cells #[] 5)).cell? ⟨b, j, none⟩ = some u) := fun j u hj => (World.cell?_alloc_lt _ _ _ (by show b < W.heap.size; omega)).trans (HC.out j u hj)
  clear hW d00 d01 d10 d11 g10 g11
  go_region_held3 (fun w' => w'.cell? ⟨w.heap.size, 0, none⟩ = some (.slice (some ⟨b, 0, none⟩) n c) ∧ w'.cell? ⟨w.heap.size, 1, none⟩ = some (.int .i64 i))
    (first
      | exact ⟨D00.out, D01.out⟩
      | exact ⟨(World.cell?_alloc_lt _ _ _ hl0).trans D00.out, (World.cell?_alloc_lt _ _ _ hl1).trans D01.out⟩
      | exact ⟨c00, c01⟩
      | (refine ⟨?_, ?_⟩ <;> simp [go_sem, c00, c01]))
    ((refine step_append_lies _ (by rfl) _ _ _ (by rfl) (w.heap.size + 1 + 1) 5 i0 _ 1 1 Try.underlying22 HI.out HZ.out HZ1.out HZ2.out rfl (by omega) _ 0 [] (by rfl) HE.out.drew
        ⟨b, 0, none⟩ n c (xs.map (Value.int .u8)) (by rfl) (by simpa using HLen.out) (by intro j u hj; rw [Go.WideShapes.add_plain]; simpa using HCE.out j u hj) (u8_one xs)
        hp (by simp only [maxLen]; omega) (by omega) (by simp; have := HSz.out; omega) (W.heap.size + 1) (by simp) ?_; intro gg cap w1 hown1 hgrow hat hlt; have hb : Below (w.heap.size + 1 + 1) W w1 := (HBE.out.drew.grown hgrow (by simp; omega) (fun k hk => by simp [Value.ownBlock] at hk; have := HSz.out; omega)); obtain ⟨bc, bf, bz⟩ := bcell hb; have c00 : w1.cell? ⟨w.heap.size, 0, none⟩ = some (.slice (some ⟨b, 0, none⟩) n c) := (by rw [bc _ _ (by omega)]; exact D00.out); have c01 : w1.cell? ⟨w.heap.size, 1, none⟩ = some (.int .i64 i) := (by rw [bc _ _ (by omega)]; exact D01.out); have c10 : w1.cell? ⟨w.heap.size + 1, 0, none⟩ = some (.slice none 0 0) := (by rw [bc _ _ (by omega)]; exact D10.out); have c11 : w1.cell? ⟨w.heap.size + 1, 1, none⟩ = some (.int .i64 0) := (by rw [bc _ _ (by omega)]; exact D11.out); have f10 : w1.frozen? ⟨w.heap.size + 1, 0, none⟩ = false := (by rw [bf _ _ (by omega)]; exact G10.out); have f11 : w1.frozen? ⟨w.heap.size + 1, 1, none⟩ = false := (by rw [bf _ _ (by omega)]; exact G11.out); simp only [Nat.zero_add, List.nil_append] at hown1; have HO1 := Lib.hid hown1; have HB1 : Hid (Below w.heap.size w w1) := HW0.out.trans (hb.mono (by omega)); clear hown1 hb bc bf bz))
  go_wp2_with fail
  have lz := lt_of_c c10
  have HS := Lib.hid hgrow
  refine bodyPost_ret (v := .agg #[.slice (some ⟨gg, 0, none⟩) n cap, .int .i64 i]) (by simp [results, Try.results75, go_sem, c10, c11]) rfl ⟨_, _, rfl, ?_, ?_⟩
  · exact own_base (ownsRow_setCell_below (ownsRow_setCell_below HO1.out (by simp) _) (by simp) _) (by omega)
  · have hB2 := HB1.out
    go_grown

theorem step_append_zero {P : Program} {ops : Array Oper} {o : Oper} {a : Act} {w : World} {K : Act → World → Prop} {Q : Exit → Act → World → Prop} {E : Prop} (hgd : o.guard = none) (s x : Operand) (t : TypeId)
    (ho : o.op = .call { callee := .builtin .append, args := #[s, x], argTypes := #[t, t] }) (e : TypeId) (i : TypeInfo) (ht : P.underlying t = some (.slice e)) (hi : P.info? e = some i)
    (base : Option Addr) (sLen sCap : Nat) (hle : sLen ≤ sCap) (hs : a.eval s = .slice base sLen sCap) (A : Option Addr) (c : Nat) (hx : a.eval x = .slice A 0 c)
    (h : ∀ w1, w1 = w → K (a.put o.dst (.slice base sLen sCap)) w1) : if Region.wanted o (yielded ops a.tmps) = true then Oper.wp P o a w K Q else E := by
  have hw : Region.wanted o (yielded ops a.tmps) = true := by simp [Region.wanted, hgd]
  rw [if_pos hw]
  have hsrc : Src P i.size t (.slice A 0 c) 0 [] w := by
    cases A with
    | none => exact Src.ofNil w ht c
    | some ad => exact Src.ofSlice w ht ad 0 c [] (by simp) (by simp) (by simp)
  have hrun := run_append_nothing (P := P) w t t o.type e i ht hi base sLen sCap hle _ hsrc
  unfold Oper.wp
  simp [execOp, ho, resolve, invoke, builtin, hs, hx, hrun, Result.andThen]
  exact h w rfl

set_option maxHeartbeats 1000000 in
theorem sCopy_zero (A : Option Addr) (c : Nat) (i : Int) (w : World) :
    Calls Try.prog 75 #[.agg #[.slice A 0 c, .int .i64 i]] w fun e w' => ∃ A' c', e = .returned (.agg #[.slice A' 0 c', .int .i64 i]) ∧ w'.ownsRow w.heap.size 5 1 (.slice A' 0 c') 0 [] ∧ Below w.heap.size w w' := by
  obtain ⟨i0, hi0, hz0, hz1, hz2⟩ := info_parts info_ByteS
  have HI := Lib.hid hi0; have HZ := Lib.hid hz0; have HZ1 := Lib.hid hz1; have HZ2 := Lib.hid hz2
  clear hi0 hz0 hz1 hz2
  have HW : Hid (Below (w.heap.size + 1 + 1) ((w.alloc (.cells #[.slice A 0 c, .int .i64 i] 49)).alloc (.cells #[.slice none 0 0, .int .i64 0] 49)) ((w.alloc (.cells #[.slice A 0 c, .int .i64 i] 49)).alloc (.cells #[.slice none 0 0, .int .i64 0] 49))) := Below.refl _ _
  have HW0 : Hid (Below w.heap.size w ((w.alloc (.cells #[.slice A 0 c, .int .i64 i] 49)).alloc (.cells #[.slice none 0 0, .int .i64 0] 49))) := by unfold Hid; go_grown
  have d00 : ((w.alloc (.cells #[.slice A 0 c, .int .i64 i] 49)).alloc (.cells #[.slice none 0 0, .int .i64 0] 49)).cell? ⟨w.heap.size, 0, none⟩ = some (.slice A 0 c) := by simp [go_sem, World.cell?_alloc_past]
  have d01 : ((w.alloc (.cells #[.slice A 0 c, .int .i64 i] 49)).alloc (.cells #[.slice none 0 0, .int .i64 0] 49)).cell? ⟨w.heap.size, 1, none⟩ = some (.int .i64 i) := by simp [go_sem, World.cell?_alloc_past]
  have d10 : ((w.alloc (.cells #[.slice A 0 c, .int .i64 i] 49)).alloc (.cells #[.slice none 0 0, .int .i64 0] 49)).cell? ⟨w.heap.size + 1, 0, none⟩ = some (.slice none 0 0) := by simp [go_sem, World.cell?_alloc_past]
  have d11 : ((w.alloc (.cells #[.slice A 0 c, .int .i64 i] 49)).alloc (.cells #[.slice none 0 0, .int .i64 0] 49)).cell? ⟨w.heap.size + 1, 1, none⟩ = some (.int .i64 0) := by simp [go_sem, World.cell?_alloc_past]
  have g10 : ((w.alloc (.cells #[.slice A 0 c, .int .i64 i] 49)).alloc (.cells #[.slice none 0 0, .int .i64 0] 49)).frozen? ⟨w.heap.size + 1, 0, none⟩ = false := by simp [go_sem, World.cell?_alloc_past]
  have g11 : ((w.alloc (.cells #[.slice A 0 c, .int .i64 i] 49)).alloc (.cells #[.slice none 0 0, .int .i64 0] 49)).frozen? ⟨w.heap.size + 1, 1, none⟩ = false := by simp [go_sem, World.cell?_alloc_past]
  have HSz := Lib.hid (show ((w.alloc (.cells #[.slice A 0 c, .int .i64 i] 49)).alloc (.cells #[.slice none 0 0, .int .i64 0] 49)).heap.size = w.heap.size + 1 + 1 by simp)
  obtain ⟨W, hW⟩ : ∃ W, W = ((w.alloc (.cells #[.slice A 0 c, .int .i64 i] 49)).alloc (.cells #[.slice none 0 0, .int .i64 0] 49)) := ⟨_, rfl⟩
  go_enter Try.func75, Try.ntmps75
  go_wp2_with fail
  rw [← hW] at d00 d01 d10 d11 g10 g11 HW HW0 HSz ⊢
  have D00 := Lib.hid d00; have D01 := Lib.hid d01; have D10 := Lib.hid d10; have D11 := Lib.hid d11; have G10 := Lib.hid g10; have G11 := Lib.hid g11
  have hl0 := lt_of_c d00; have hl1 := lt_of_c d01
  have HBE : Hid (Below (w.heap.size + 1 + 1) W (W.alloc (.cells #[] 5))) := HW.out.alloc (Nat.le_of_eq HSz.out.symm) _
  have HE : Hid ((W.alloc (.cells #[] 5)).ownsRow (w.heap.size + 1 + 1) 5 1 (.slice (some ⟨W.heap.size, 0, none⟩) 0 0) 0 []) := World.ownsRow_lit (base := w.heap.size + 1 + 1) (e := 5) (size := 1) W #[] 0 (Nat.le_of_eq HSz.out.symm) (by simp [maxLen]) rfl
  clear hW d00 d01 d10 d11 g10 g11
  go_region_held3 (fun w' => w'.cell? ⟨w.heap.size, 0, none⟩ = some (.slice A 0 c) ∧ w'.cell? ⟨w.heap.size, 1, none⟩ = some (.int .i64 i))
    (first
      | exact ⟨D00.out, D01.out⟩
      | exact ⟨(World.cell?_alloc_lt _ _ _ hl0).trans D00.out, (World.cell?_alloc_lt _ _ _ hl1).trans D01.out⟩
      | exact ⟨c00, c01⟩
      | (refine ⟨?_, ?_⟩ <;> simp [go_sem, c00, c01]))
    ((refine step_append_zero (by rfl) _ _ _ (by rfl) 5 i0 Try.underlying22 HI.out _ 0 0 (by omega) (by rfl) A c (by rfl) ?_; intro w1 hw1; have hb : Below (w.heap.size + 1 + 1) W w1 := (by rw [hw1]; exact HBE.out.drew); obtain ⟨bc, bf, bz⟩ := bcell hb; have c00 : w1.cell? ⟨w.heap.size, 0, none⟩ = some (.slice A 0 c) := (by rw [bc _ _ (by omega)]; exact D00.out); have c01 : w1.cell? ⟨w.heap.size, 1, none⟩ = some (.int .i64 i) := (by rw [bc _ _ (by omega)]; exact D01.out); have c10 : w1.cell? ⟨w.heap.size + 1, 0, none⟩ = some (.slice none 0 0) := (by rw [bc _ _ (by omega)]; exact D10.out); have c11 : w1.cell? ⟨w.heap.size + 1, 1, none⟩ = some (.int .i64 0) := (by rw [bc _ _ (by omega)]; exact D11.out); have f10 : w1.frozen? ⟨w.heap.size + 1, 0, none⟩ = false := (by rw [bf _ _ (by omega)]; exact G10.out); have f11 : w1.frozen? ⟨w.heap.size + 1, 1, none⟩ = false := (by rw [bf _ _ (by omega)]; exact G11.out); have HO1 : Hid (w1.ownsRow (w.heap.size + 1 + 1) 5 1 (.slice (some ⟨W.heap.size, 0, none⟩) 0 0) 0 []) := (by rw [hw1]; exact HE.out.drew); have HB1 : Hid (Below w.heap.size w w1) := HW0.out.trans (hb.mono (by omega)); clear hw1 hb bc bf bz))
  go_wp2_with fail
  have lz := lt_of_c c10
  refine bodyPost_ret (v := .agg #[.slice (some ⟨W.heap.size, 0, none⟩) 0 0, .int .i64 i]) (by simp [results, Try.results75, go_sem, c10, c11]) rfl ⟨_, _, rfl, ?_, ?_⟩
  · exact own_base (ownsRow_setCell_below (ownsRow_setCell_below HO1.out (by simp) _) (by simp) _) (by omega)
  · have hB2 := HB1.out
    go_grown

theorem sCopy_any (base n c : Nat) (A : Option Addr) (xs : List Int) (i : Int) (w : World) (h : w.ownsRow base 5 1 (.slice A n c) n (xs.map (Value.int .u8))) (hn : n ≤ 1073741824) :
    Calls Try.prog 75 #[.agg #[.slice A n c, .int .i64 i]] w fun e w' => ∃ A' c', e = .returned (.agg #[.slice A' n c', .int .i64 i]) ∧ w'.ownsRow w.heap.size 5 1 (.slice A' n c') n (xs.map (Value.int .u8)) ∧ Below w.heap.size w w' := by
  by_cases hp : 0 < n
  · obtain ⟨g, cap, hv, _, _⟩ := h.form hp
    simp only [Value.slice.injEq] at hv
    obtain ⟨rfl, _, rfl⟩ := hv
    exact sCopy_pos g n c xs i w (Rd.of_own h) hn hp
  · obtain rfl : n = 0 := by omega
    have hx : xs.map (Value.int .u8) = [] := List.eq_nil_of_length_eq_zero (by simpa using h.1)
    rw [hx]
    exact sCopy_zero A c i w

end Go.Proofs.Ytfdpfeaegcfglaa
