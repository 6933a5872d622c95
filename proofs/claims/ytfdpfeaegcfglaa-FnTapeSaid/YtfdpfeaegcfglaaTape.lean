/-
  Tapes: the law file's helpers (szTape, toTape, eqTape, markTape, heldTape), TapeOk and TapeLeft of both packages.
-/
import Derived.Test.YtfdpfeaegcfglaaIn
import Derived.Test.YtfdpfeaegcfglaaBytes
namespace Go.Proofs.Ytfdpfeaegcfglaa
open Go.RowKit
set_option linter.unusedSimpArgs false

/-- What is left of a size. -/
def szI (left n : Int) : Int := if left < n then -1 else left - n

set_option maxHeartbeats 400000 in
theorem szByteS_any (A : Option Addr) (n c : Nat) (left : Int) (h0 : 0 ≤ left) (h1 : left ≤ 1048576) (hn : n ≤ 9223372036854775807) (w : World) : Calls Try.prog 74 #[.slice A n c, .int .i64 left] w fun e w' => e = .returned (.int .i64 (szI left n)) ∧ w = w' := by
  by_cases h : left < n
  · have HS := Lib.hid (show szI left n = -1 by simp [szI, h])
    go_enter Try.func74, Try.ntmps74
    go_wp2
    go_ret
    exact ⟨by rw [HS.out]; rfl, rfl⟩
  · have HS := Lib.hid (show szI left n = left - n by simp [szI, h])
    have h' : (n : Int) ≤ left := by omega
    clear h
    go_enter Try.func74, Try.ntmps74
    go_wp2
    go_ret
    exact ⟨by rw [HS.out]; rfl, rfl⟩

theorem szI_bd (left : Int) (n : Nat) (h0 : 0 ≤ left) (h1 : left ≤ 1048576) : -1 ≤ szI left n ∧ szI left n ≤ 1048576 := by
  unfold szI; split <;> omega

set_option maxHeartbeats 400000 in
theorem szTape_any (A : Option Addr) (n c : Nat) (i left : Int) (h0 : 0 ≤ left) (h1 : left ≤ 1048576) (hn : n ≤ 9223372036854775807) (w : World) : Calls Try.prog 40 #[.agg #[.slice A n c, .int .i64 i], .int .i64 left] w fun e w' => e = .returned (.int .i64 (szI left n)) ∧ Below w.heap.size w w' := by
  by_cases h : left < n
  · have HS := Lib.hid (show szI left n = -1 by simp [szI, h])
    go_enter Try.func40, Try.ntmps40
    go_wp2_with fail
    refine (szByteS_any A n c left h0 h1 hn _).mono ?_
    rw [HS.out]
    rintro e w' ⟨rfl, rfl⟩
    go_wp2_with fail
    go_ret
    exact ⟨by rw [HS.out]; rfl, below_alloc1 _⟩
  · have HS := Lib.hid (show szI left n = left - n by simp [szI, h])
    have h' : (n : Int) ≤ left := by omega
    clear h
    go_enter Try.func40, Try.ntmps40
    go_wp2_with fail
    refine (szByteS_any A n c left h0 h1 hn _).mono ?_
    rw [HS.out]
    rintro e w' ⟨rfl, rfl⟩
    go_wp2_with fail
    go_ret
    exact ⟨by rw [HS.out]; rfl, below_alloc1 _⟩

set_option maxHeartbeats 1000000 in
theorem toTape_any (A : Option Addr) (n c : Nat) (xs : List Int) (i : Int) (w : World) (h : Rd w A n (xs.map (Value.int .u8))) (hn : n ≤ 1073741824) :
    Calls Try.prog 42 #[.agg #[.slice A n c, .int .i64 i]] w fun e w' => ∃ g, e = .returned (.agg #[.slice (some ⟨g, 0, none⟩) n n, .int .i64 i]) ∧ (w'.ownsRow w.heap.size 5 1 (.slice (some ⟨g, 0, none⟩) n n) n (xs.map (Value.int .u8)) ∧ Below w.heap.size w w') := by
  have H := Lib.hid h
  clear h
  have hb0 := Below.refl (w.heap.size + 1 + 1 + 1) (((w.alloc (.cells #[.slice A n c, .int .i64 i] 47)).alloc (.cells #[.slice none 0 0, .int .i64 0] 49)).alloc (.cells #[.slice none 0 0, .int .i64 0] 49))
  have HB := Lib.hid hb0
  clear hb0
  go_enter Try.func42, Try.ntmps42
  go_wp2_with fail
  refine (lift (W0 := ((w.alloc (.cells #[.slice A n c, .int .i64 i] 47)).alloc (.cells #[.slice none 0 0, .int .i64 0] 49)).alloc (.cells #[.slice none 0 0, .int .i64 0] 49)) (R := fun e w' => e = .returned (.slice (some ⟨w.heap.size + 1 + 1 + 1, 0, none⟩) n n) ∧ w'.ownsRow (w.heap.size + 1 + 1 + 1) 5 1 (.slice (some ⟨w.heap.size + 1 + 1 + 1, 0, none⟩) n n) n (xs.map (Value.int .u8))) ((toByteS_any A n c xs _ (H.out.below (B := w.heap.size) (by go_grown) (Nat.le_refl _)) hn).mono fun e w' ⟨h1, h2, h3⟩ => ⟨⟨by simpa using h1, by simpa using h2⟩, h3⟩) HB.out (by simp)).mono ?_
  rintro e w1 ⟨⟨rfl, hown⟩, hb⟩
  obtain ⟨bc, bf, bz⟩ := bcell hb
  simp only [World.size_alloc] at bz
  have c01 : w1.cell? ⟨w.heap.size, 1, none⟩ = some (.int .i64 i) := by rw [bc _ _ (by omega)]; simp [go_sem, World.cell?_alloc_past]
  have c10 : w1.cell? ⟨w.heap.size + 1, 0, none⟩ = some (.slice none 0 0) := by rw [bc _ _ (by omega)]; simp [go_sem, World.cell?_alloc_past]
  have c11 : w1.cell? ⟨w.heap.size + 1, 1, none⟩ = some (.int .i64 0) := by rw [bc _ _ (by omega)]; simp [go_sem, World.cell?_alloc_past]
  have c20 : w1.cell? ⟨w.heap.size + 1 + 1, 0, none⟩ = some (.slice none 0 0) := by rw [bc _ _ (by omega)]; simp [go_sem, World.cell?_alloc_past]
  have c21 : w1.cell? ⟨w.heap.size + 1 + 1, 1, none⟩ = some (.int .i64 0) := by rw [bc _ _ (by omega)]; simp [go_sem, World.cell?_alloc_past]
  have f10 : w1.frozen? ⟨w.heap.size + 1, 0, none⟩ = false := by rw [bf _ _ (by omega)]; simp [go_sem, World.cell?_alloc_past]
  have f11 : w1.frozen? ⟨w.heap.size + 1, 1, none⟩ = false := by rw [bf _ _ (by omega)]; simp [go_sem, World.cell?_alloc_past]
  have f20 : w1.frozen? ⟨w.heap.size + 1 + 1, 0, none⟩ = false := by rw [bf _ _ (by omega)]; simp [go_sem, World.cell?_alloc_past]
  have f21 : w1.frozen? ⟨w.heap.size + 1 + 1, 1, none⟩ = false := by rw [bf _ _ (by omega)]; simp [go_sem, World.cell?_alloc_past]
  clear bc bf
  have HO := Lib.hid hown
  have HB1 := Lib.hid hb
  clear hown hb
  go_wp2_with fail
  refine bodyPost_ret (v := .agg #[.slice (some ⟨w.heap.size + 1 + 1 + 1, 0, none⟩) n n, .int .i64 i]) (by simp [results, Try.results42, go_sem, c10, c11]) rfl ⟨_, rfl, ?_, ?_⟩
  · exact own_base (ownsRow_setCell_below (ownsRow_setCell_below (ownsRow_setCell_below (ownsRow_setCell_below HO.out (by simp) _) (by simp) _) (by simp) _) (by simp) _) (by omega)
  · have hB2 : Below w.heap.size w w1 := fin_below HB1.out (by go_grown) (by omega)
    go_grown

theorem eqTape_same (A C : Option Addr) (n c d : Nat) (xs : List Int) (i : Int) (w : World) (hx : Rd w A n (xs.map (Value.int .u8))) (hy : Rd w C n (xs.map (Value.int .u8))) (hn : n ≤ 1073741824) :
    Calls Try.prog 44 #[.agg #[.slice A n c, .int .i64 i], .agg #[.slice C n d, .int .i64 i]] w fun e w' => e = .returned (.bool true) ∧ Below w.heap.size w w' := by
  have H1 := Lib.hid hx
  have H2 := Lib.hid hy
  clear hx hy
  have HB := Lib.hid (Below.refl (w.heap.size + 1 + 1) ((w.alloc (.cells #[.slice A n c, .int .i64 i] 49)).alloc (.cells #[.slice C n d, .int .i64 i] 49)))
  go_enter Try.func44, Try.ntmps44
  go_wp2_with fail
  refine (lift (eqByteS_same A C n c d xs _ (H1.out.below (B := w.heap.size) (by go_grown) (Nat.le_refl _)) (H2.out.below (B := w.heap.size) (by go_grown) (Nat.le_refl _)) hn) HB.out (by simp)).mono ?_
  rintro e w1 ⟨rfl, hb⟩
  obtain ⟨bc, bf, bz⟩ := bcell hb
  have c01 : w1.cell? ⟨w.heap.size, 1, none⟩ = some (.int .i64 i) := by rw [bc _ _ (by omega)]; simp [go_sem, World.cell?_alloc_past]
  have c11 : w1.cell? ⟨w.heap.size + 1, 1, none⟩ = some (.int .i64 i) := by rw [bc _ _ (by omega)]; simp [go_sem, World.cell?_alloc_past]
  have HB1 := Lib.hid hb
  clear hb bc bf
  go_wp2_with fail
  go_ret
  exact ⟨rfl, fin_below HB1.out (by go_grown) (by omega)⟩

set_option maxHeartbeats 400000 in
theorem markTape_any (base n c k : Nat) (A : Option Addr) (xs : List Value) (i : Int) (w : World) (h : w.ownsRow base 5 1 (.slice A n c) n xs) (hn : n ≤ 1073741824) (hk : k ≤ 1099511627776) :
    Calls Try.prog 45 #[.agg #[.slice A n c, .int .i64 i], .int .i64 k] w fun e w' => e = .returned (.int .i64 ((k + n : Nat) : Int)) ∧ (w'.ownsRow base 5 1 (.slice A n c) n (marksByteS k n) ∧ w.grownBy w' (Value.slice A n c).ownBlock) := by
  have H := Lib.hid h
  clear h
  go_enter Try.func45, Try.ntmps45
  go_wp2_with fail
  refine (markByteS_any base n c k A xs _ (H.out.alloc _) hn hk).mono ?_
  rintro e w1 ⟨rfl, o1, g1, z1⟩
  have HO := Lib.hid o1
  have HG := Lib.hid g1
  clear o1 g1 z1
  go_wp2_with fail
  go_ret
  exact ⟨rfl, HO.out, (World.grownBy_alloc w _ _).trans HG.out⟩

theorem heldTape_any (A : Option Addr) (n c k : Nat) (i : Int) (w : World) (h : Rd w A n (marksByteS k n)) (hn : n ≤ 1073741824) (hk : k ≤ 1099511627776) :
    Calls Try.prog 46 #[.agg #[.slice A n c, .int .i64 i], .int .i64 k] w fun e w' => e = .returned (.int .i64 ((k + n : Nat) : Int)) ∧ Below w.heap.size w w' := by
  have H := Lib.hid h
  clear h
  go_enter Try.func46, Try.ntmps46
  go_wp2_with fail
  refine (heldByteS_any A n c k _ (H.out.below (B := w.heap.size) (by go_grown) (Nat.le_refl _)) hn hk).mono ?_
  rintro e w1 ⟨rfl, rfl⟩
  go_wp2_with fail
  go_ret
  exact ⟨rfl, by go_grown⟩

/-- What TapeOk answers, of n bytes and a place. -/
def tapeB (n : Nat) (i : Int) : Bool := decide (n ≤ 600) && inB i 0 n
def leftI (n : Nat) (i : Int) : Int := if tapeB n i then n - i else 0

set_option maxHeartbeats 400000 in
theorem sTapeOk_any (A : Option Addr) (n c : Nat) (i : Int) (w : World) : Calls Try.prog 84 #[.agg #[.slice A n c, .int .i64 i]] w fun e w' => e = .returned (.bool (tapeB n i)) ∧ Below w.heap.size w w' := by
  by_cases h1 : n ≤ 600
  · cases h2 : inB i 0 n
    all_goals
      have HT := Lib.hid (show tapeB n i = _ by unfold tapeB; rw [decide_eq_true h1, h2, Bool.true_and])
      go_enter Try.func84, Try.ntmps84
      go_wp2_with (go_at_call 64; refine (l1In_any _ _ _ _).mono ?_; rintro e w' ⟨rfl, rfl⟩)
      go_ret
      exact ⟨by rw [HT.out]; rfl, by go_grown⟩
  · have HT := Lib.hid (show tapeB n i = false by unfold tapeB; rw [decide_eq_false h1, Bool.false_and])
    go_enter Try.func84, Try.ntmps84
    go_wp2_with (go_at_call 64; refine (l1In_any _ _ _ _).mono ?_; rintro e w' ⟨rfl, rfl⟩)
    go_ret
    exact ⟨by rw [HT.out]; rfl, by go_grown⟩

set_option maxHeartbeats 400000 in
theorem iTapeOk_any (A : Option Addr) (n c : Nat) (i : Int) (w : World) : Calls Try.prog 85 #[.agg #[.slice A n c, .int .i64 i]] w fun e w' => e = .returned (.bool (tapeB n i)) ∧ Below w.heap.size w w' := by
  by_cases h1 : n ≤ 600
  · cases h2 : inB i 0 n
    all_goals
      have HT := Lib.hid (show tapeB n i = _ by unfold tapeB; rw [decide_eq_true h1, h2, Bool.true_and])
      go_enter Try.func85, Try.ntmps85
      go_wp2_with (go_at_call 62; refine (within_any _ _ _ _).mono ?_; rintro e w' ⟨rfl, rfl⟩)
      go_ret
      exact ⟨by rw [HT.out]; rfl, by go_grown⟩
  · have HT := Lib.hid (show tapeB n i = false by unfold tapeB; rw [decide_eq_false h1, Bool.false_and])
    go_enter Try.func85, Try.ntmps85
    go_wp2_with (go_at_call 62; refine (within_any _ _ _ _).mono ?_; rintro e w' ⟨rfl, rfl⟩)
    go_ret
    exact ⟨by rw [HT.out]; rfl, by go_grown⟩

end Go.Proofs.Ytfdpfeaegcfglaa
