/-
  slices.Clone over bytes.
-/
import Derived.Test.YtfdpfeaegcfglaaBytes
namespace Go.Proofs.Ytfdpfeaegcfglaa
open Go.RowKit
set_option linter.unusedSimpArgs false
set_option linter.unusedVariables false
theorem u8_one (xs : List Int) : ∀ u ∈ xs.map (Value.int .u8), u.oneCell' = true := by
  intro u hu; obtain ⟨z, _, rfl⟩ := List.mem_map.1 hu; rfl

set_option maxHeartbeats 1000000 in
theorem cloneB_any (b off n c : Nat) (xs : List Value) (w : World) (h : Rd w (some ⟨b, off, none⟩) n xs) (hn : n ≤ 1073741824) (h1 : ∀ u ∈ xs, u.oneCell' = true) :
    Calls Try.prog 92 #[.slice (some ⟨b, off, none⟩) n c] w fun e w' => ∃ A' c', e = .returned (.slice A' n c') ∧ w'.ownsRow w.heap.size 5 1 (.slice A' n c') n xs ∧ Below w.heap.size w w' := by
  have hnil := fun (W : World) (a : Option Addr) (n c n' c' : Nat) => Lib.run_eql_slice_nil (P := Try.prog) W 22 5 a n c n' c' Try.underlying22
  have H := Lib.hid h
  have H1 := Lib.hid h1
  obtain ⟨i0, hi0, hz0, hz1, hz2⟩ := info_parts info_ByteS
  have HI := Lib.hid hi0; have HZ := Lib.hid hz0; have HZ1 := Lib.hid hz1; have HZ2 := Lib.hid hz2
  clear hi0 hz0 hz1 hz2 h h1
  go_enter Try.func92, Try.ntmps92
  go_wp2_with (at_builtin; refine wpList_append_own _ rfl _ _ 22 rfl w.heap.size 5 i0 _ 1 _ Try.underlying22 HI.out HZ.out HZ1.out HZ2.out rfl (by decide) (.slice (some ⟨w.heap.size, 0, none⟩) 0 0) 0 [] rfl (World.ownsRow_lit w #[] 0 (Nat.le_refl _) (by simp [maxLen]) rfl) ⟨b, off, none⟩ n c xs rfl ?c1 ?c2 ?c3 ?c4 ?c5 ?c6 ?_)
  case c1 => simpa using H.out.len
  case c2 =>
    intro j u hj
    have hn0 : 0 < n := by have := (List.getElem?_eq_some_iff.1 hj).1; have := H.out.len; omega
    obtain ⟨b', off', he, hlt, hc⟩ := H.out.ex hn0
    injection he with he
    injection he with he1 he2 _
    subst he1 he2
    rw [Go.WideShapes.add_plain]
    exact (World.cell?_alloc_lt _ _ _ hlt).trans (hc j u hj)
  case c3 => exact H1.out
  case c4 => unfold maxLen; omega
  case c5 => omega
  case c6 => simp
  · intro v' w2 hown2 hgrow _
    try simp only [Nat.zero_add, List.nil_append] at hown2
    obtain ⟨A', c', rfl⟩ := own_shape hown2
    have HO := Lib.hid hown2
    have HB := Lib.hid (show Below w.heap.size w w2 from (below_alloc1 (.cells #[] 5)).grown hgrow (by simp) (fun k hk => by simp [Value.ownBlock] at hk; omega))
    clear hown2 hgrow
    go_wp2
    go_ret
    exact ⟨A', c', rfl, HO.out, HB.out⟩

theorem cloneB_nil (n c : Nat) (w : World) : Calls Try.prog 92 #[.slice none n c] w fun e w' => e = .returned (.slice none 0 0) ∧ w = w' := by
  have hnil := fun (W : World) (a : Option Addr) (n c n' c' : Nat) => Lib.run_eql_slice_nil (P := Try.prog) W 22 5 a n c n' c' Try.underlying22
  go_enter Try.func92, Try.ntmps92
  go_wp2
  go_ret
  exact ⟨rfl, rfl⟩

/-- Clone of a row that a call owns: nil or not. -/
theorem cloneB_own (base n c : Nat) (A : Option Addr) (xs : List Value) (w : World) (h : w.ownsRow base 5 1 (.slice A n c) n xs) (hn : n ≤ 1073741824) (h1 : ∀ u ∈ xs, u.oneCell' = true) :
    Calls Try.prog 92 #[.slice A n c] w fun e w' => ∃ A' c', e = .returned (.slice A' n c') ∧ w'.ownsRow w.heap.size 5 1 (.slice A' n c') n xs ∧ Below w.heap.size w w' := by
  have hr := Rd.of_own h
  rcases h.2 with ⟨hv, hn0⟩ | ⟨g, cap, cur, hv, _⟩
  · simp only [Value.slice.injEq] at hv
    obtain ⟨rfl, _, rfl⟩ := hv
    subst hn0
    have hx : xs = [] := List.eq_nil_of_length_eq_zero (by simpa using h.1)
    subst hx
    exact (cloneB_nil 0 0 w).mono fun e w' ⟨he, hw⟩ => ⟨none, 0, he, World.ownsRow_nil _ _ _ _, hw ▸ Below.refl _ _⟩
  · simp only [Value.slice.injEq] at hv
    obtain ⟨rfl, _, rfl⟩ := hv
    exact cloneB_any g 0 n c xs w hr hn h1

end Go.Proofs.Ytfdpfeaegcfglaa
