/-
  TapeNew of both packages.
-/
import Derived.Test.YtccohhhnfaidhaaTape
import Derived.Test.YtccohhhnfaidhaaCloneB
namespace Go.Proofs.Ytccohhhnfaidhaa
open Go.RowKit
set_option linter.unusedSimpArgs false
set_option linter.unusedVariables false
set_option maxHeartbeats 1000000 in
theorem iTapeNew_yes (g n c : Nat) (xs : List Int) (w : World) (h : Rd w (some ⟨g, 0, none⟩) n (xs.map (Value.int .u8))) (hn : n ≤ 600) :
    Calls Try.prog 44 #[.slice (some ⟨g, 0, none⟩) n c] w fun e w' => ∃ A' c', e = .returned (.tuple #[.agg #[.slice A' n c', .int .i64 0], .bool true]) ∧ w'.ownsRow w.heap.size 5 1 (.slice A' n c') n (xs.map (Value.int .u8)) ∧ Below w.heap.size w w' := by
  have H := Lib.hid h
  clear h
  have HB := Lib.hid (Below.refl (w.heap.size + 1) (w.alloc (.cells #[.slice none 0 0, .int .i64 0] 43)))
  go_enter Try.func44, Try.ntmps44
  go_wp2_with fail
  refine (cloneB_any g 0 n c _ _ (H.out.below (below_alloc1 _) (Nat.le_refl _)) (by omega) (u8_one xs)).mono ?_
  rintro e w1 ⟨A', c', rfl, o1, b1⟩
  have b1' := HB.out.trans (b1.mono (by simp))
  obtain ⟨bc, bf, bz⟩ := bcell b1'
  have c0 : w1.cell? ⟨w.heap.size, 0, none⟩ = some (.slice none 0 0) := by rw [bc _ _ (by omega)]; simp [go_sem]
  have c1 : w1.cell? ⟨w.heap.size, 1, none⟩ = some (.int .i64 0) := by rw [bc _ _ (by omega)]; simp [go_sem]
  have f0 : w1.frozen? ⟨w.heap.size, 0, none⟩ = false := by rw [bf _ _ (by omega)]; simp [go_sem]
  have f1 : w1.frozen? ⟨w.heap.size, 1, none⟩ = false := by rw [bf _ _ (by omega)]; simp [go_sem]
  simp only [World.size_alloc] at o1
  have HO := Lib.hid o1
  have HB1 := Lib.hid (fin_below b1' (B := w.heap.size) (w := w) (by go_grown) (by omega))
  clear b1 b1' bc bf o1
  go_wp2
  refine bodyPost_ret (v := .tuple #[.agg #[.slice A' n c', .int .i64 0], .bool true]) (by simp [results, Try.results44, go_sem, c0, c1]) rfl ⟨A', c', rfl, ?_, ?_⟩
  · exact own_base (ownsRow_setCell_below (ownsRow_setCell_below HO.out (by simp) _) (by simp) _) (by omega)
  · have hB2 := HB1.out
    go_grown

theorem iTapeNew_no (A : Option Addr) (n c : Nat) (w : World) (hn : ¬ n ≤ 600) :
    Calls Try.prog 44 #[.slice A n c] w fun e w' => e = .returned (.tuple #[.agg #[.slice none 0 0, .int .i64 0], .bool false]) ∧ Below w.heap.size w w' := by
  go_enter Try.func44, Try.ntmps44
  go_wp2
  refine bodyPost_ret (v := .tuple #[.agg #[.slice none 0 0, .int .i64 0], .bool false]) (by simp [results, Try.results44, go_sem]) rfl ⟨rfl, ?_⟩
  go_grown

set_option maxHeartbeats 1000000 in
theorem sTapeNew_yes (g n c : Nat) (xs : List Int) (w : World) (h : Rd w (some ⟨g, 0, none⟩) n (xs.map (Value.int .u8))) (hn : n ≤ 600) :
    Calls Try.prog 42 #[.slice (some ⟨g, 0, none⟩) n c] w fun e w' => ∃ A' c', e = .returned (.tuple #[.agg #[.slice A' n c', .int .i64 0], .bool true]) ∧ w'.ownsRow w.heap.size 5 1 (.slice A' n c') n (xs.map (Value.int .u8)) ∧ Below w.heap.size w w' := by
  have H := Lib.hid h
  obtain ⟨i0, hi0, hz0, hz1, hz2⟩ := info_parts info_ByteS
  have HI := Lib.hid hi0; have HZ := Lib.hid hz0; have HZ1 := Lib.hid hz1; have HZ2 := Lib.hid hz2
  clear hi0 hz0 hz1 hz2 h
  have HB := Lib.hid (Below.refl (w.heap.size + 1) (w.alloc (.cells #[.slice none 0 0, .int .i64 0] 43)))
  have HE : Hid (((w.alloc (.cells #[.slice none 0 0, .int .i64 0] 43)).alloc (.cells #[] 5)).ownsRow (w.heap.size + 1) 5 1 (.slice (some ⟨w.heap.size + 1, 0, none⟩) 0 0) 0 []) := by
    have h := World.ownsRow_lit (base := w.heap.size + 1) (e := 5) (size := 1) (w.alloc (.cells #[.slice none 0 0, .int .i64 0] 43)) #[] 0 (by simp) (by simp [maxLen]) rfl
    rw [World.size_alloc] at h
    exact h
  go_enter Try.func42, Try.ntmps42
  go_wp2_with (at_builtin; refine wpList_append_own _ rfl _ _ 38 rfl (w.heap.size + 1) 5 i0 _ 1 _ Try.underlying38 HI.out HZ.out HZ1.out HZ2.out rfl (by decide) (.slice (some ⟨w.heap.size + 1, 0, none⟩) 0 0) 0 [] rfl HE.out ⟨g, 0, none⟩ n c (xs.map (Value.int .u8)) rfl ?c1 ?c2 ?c3 ?c4 ?c5 ?c6 ?_)
  case c1 => simpa using H.out.len
  case c2 =>
    intro j u hj
    have hn0 : 0 < n := by have := (List.getElem?_eq_some_iff.1 hj).1; have := H.out.len; omega
    obtain ⟨b', off', he, hlt, hc⟩ := H.out.ex hn0
    injection he with he
    injection he with he1 he2 _
    subst he1 he2
    rw [Go.WideShapes.add_plain]
    exact (World.cell?_alloc_lt _ _ _ (by simp; omega)).trans ((World.cell?_alloc_lt _ _ _ hlt).trans (hc j u hj))
  case c3 => exact u8_one xs
  case c4 => unfold maxLen; omega
  case c5 => omega
  case c6 => simp
  · intro v' w1 hown2 hgrow _
    try simp only [Nat.zero_add, List.nil_append] at hown2
    obtain ⟨A', c', rfl⟩ := own_shape hown2
    have b1' : Below (w.heap.size + 1) (w.alloc (.cells #[.slice none 0 0, .int .i64 0] 43)) w1 := (HB.out.alloc (by simp) _).grown hgrow (by simp) (fun k hk => by simp [Value.ownBlock] at hk; omega)
    obtain ⟨bc, bf, bz⟩ := bcell b1'
    have c0 : w1.cell? ⟨w.heap.size, 0, none⟩ = some (.slice none 0 0) := by rw [bc _ _ (by omega)]; simp [go_sem]
    have c1 : w1.cell? ⟨w.heap.size, 1, none⟩ = some (.int .i64 0) := by rw [bc _ _ (by omega)]; simp [go_sem]
    have f0 : w1.frozen? ⟨w.heap.size, 0, none⟩ = false := by rw [bf _ _ (by omega)]; simp [go_sem]
    have f1 : w1.frozen? ⟨w.heap.size, 1, none⟩ = false := by rw [bf _ _ (by omega)]; simp [go_sem]
    have HO := Lib.hid hown2
    have HB1 := Lib.hid (fin_below b1' (B := w.heap.size) (w := w) (by go_grown) (by omega))
    clear b1' bc bf hown2 hgrow
    go_wp2
    refine bodyPost_ret (v := .tuple #[.agg #[.slice A' n c', .int .i64 0], .bool true]) (by simp [results, Try.results42, go_sem, c0, c1]) rfl ⟨A', c', rfl, ?_, ?_⟩
    · exact own_base (ownsRow_setCell_below (ownsRow_setCell_below HO.out (by simp) _) (by simp) _) (by omega)
    · have hB2 := HB1.out
      go_grown

theorem sTapeNew_no (A : Option Addr) (n c : Nat) (w : World) (hn : ¬ n ≤ 600) :
    Calls Try.prog 42 #[.slice A n c] w fun e w' => e = .returned (.tuple #[.agg #[.slice none 0 0, .int .i64 0], .bool false]) ∧ Below w.heap.size w w' := by
  go_enter Try.func42, Try.ntmps42
  go_wp2
  refine bodyPost_ret (v := .tuple #[.agg #[.slice none 0 0, .int .i64 0], .bool false]) (by simp [results, Try.results42, go_sem]) rfl ⟨rfl, ?_⟩
  go_grown
end Go.Proofs.Ytccohhhnfaidhaa
