/-
  Rows of forks: compared, marked, held; as objects of the call's own memory.
-/
import Derived.Test.YtgkefkbpdbokbaaCandS
import Derived.Test.YtgkefkbpdbokbaaInts
import Derived.Test.YtgkefkbpdbokbaaObj
namespace Go.Proofs.Ytgkefkbpdbokbaa
open Go.RowKit
set_option linter.unusedSimpArgs false
set_option linter.unusedVariables false
theorem fcells_get {bs : List (Int × Int)} {k : Nat} {b : Int × Int} (h : bs[k]? = some b) : (fcells bs)[k * 2]? = some (.int .i64 b.1) ∧ (fcells bs)[k * 2 + 1]? = some (.int .i64 b.2) := by
  induction bs generalizing k with
  | nil => simp at h
  | cons a bs ih =>
    cases k with
    | zero => simp only [List.getElem?_cons_zero, Option.some.injEq] at h; subst h; exact ⟨rfl, rfl⟩
    | succ k =>
      simp only [List.getElem?_cons_succ] at h
      have e1 : (k + 1) * 2 = k * 2 + 2 := by omega
      have e2 : fcells (a :: bs) = .int .i64 a.1 :: .int .i64 a.2 :: fcells bs := rfl
      rw [e1, e2]
      exact ih h
theorem Rd.of_own2 {w : World} {base : Nat} {e : TypeId} {A : Option Addr} {c n : Nat} {xs : List Value} (h : w.ownsRow base e 2 (.slice A n c) n xs) : Rd w A (n * 2) xs := by
  refine ⟨h.1, fun hn => ?_⟩
  rcases h.2 with ⟨h0, h1⟩ | ⟨g, cap, cur, hv, hg, hh, hr⟩
  · omega
  · injection hv with hA _ hc
    subst hA hc
    have hlt : g < w.heap.size := by
      rcases Nat.lt_or_ge g w.heap.size with hlt | hge
      · exact hlt
      · rw [Array.getElem?_eq_none hge] at hh; cases hh
    refine ⟨g, 0, rfl, hlt, fun j u hu => ?_⟩
    have hj : j < n * 2 := by have := (List.getElem?_eq_some_iff.1 hu).1; rw [h.1] at this; exact this
    rw [Nat.zero_add, h.cellAt j hj, hu]

set_option maxHeartbeats 400000 in
theorem eqFork_same (x y : Int) (w : World) : Calls Try.prog 69 #[.agg #[.int .i64 x, .int .i64 y], .agg #[.int .i64 x, .int .i64 y]] w fun e w' => e = .returned (.bool true) ∧ Below w.heap.size w w' := by
  go_enter Try.func69, Try.ntmps69
  go_wp2
  go_ret
  exact ⟨rfl, by go_grown⟩

set_option maxHeartbeats 1000000 in
theorem eqForkS_same (A C : Option Addr) (n c d : Nat) (bs : List (Int × Int)) (w : World) (hx : Rd w A (n * 2) (fcells bs)) (hy : Rd w C (n * 2) (fcells bs)) (hn : n ≤ 8388608) :
    Calls Try.prog 29 #[.slice A n c, .slice C n d] w fun e w' => e = .returned (.bool true) ∧ Below w.heap.size w w' := by
  have HX := Lib.hid hx; have HY := Lib.hid hy
  have HN : Hid (bs.length = n) := by have := hx.len; rw [fcells_len] at this; unfold Hid; omega
  clear hx hy
  go_enter Try.func29, Try.ntmps29
  go_wp2
  go_loopw [5] (fun i wr => ∃ k : Nat, k ≤ n ∧ i = .int .i64 k ∧ Below w.heap.size w wr) (fun i _ => n - (intOf i).toNat)
  case atStart => exact ⟨0, Nat.zero_le _, rfl, Below.refl _ _⟩
  case round =>
    obtain ⟨k, hk, rfl, hbel⟩ := hrel
    by_cases hlt : k < n
    · obtain ⟨b0, hb0⟩ : ∃ b, bs[k]? = some b := ⟨_, List.getElem?_eq_getElem (by rw [HN.out]; exact hlt)⟩
      obtain ⟨g1, g2⟩ := fcells_get hb0
      obtain ⟨b, off, rfl, hbl, hc⟩ := HX.out.ex (by omega)
      obtain ⟨b', off', rfl, hbl', hc'⟩ := HY.out.ex (by omega)
      have c1 : wr.cell? ⟨b, off + k * 2, none⟩ = some (.int .i64 b0.1) := (hbel.cell (p := ⟨b, off + k * 2, none⟩) hbl).trans (hc _ _ g1)
      have c2 : wr.cell? ⟨b, off + (k * 2 + 1), none⟩ = some (.int .i64 b0.2) := (hbel.cell (p := ⟨b, off + (k * 2 + 1), none⟩) hbl).trans (hc _ _ g2)
      have c3 : wr.cell? ⟨b', off' + k * 2, none⟩ = some (.int .i64 b0.1) := (hbel.cell (p := ⟨b', off' + k * 2, none⟩) hbl').trans (hc' _ _ g1)
      have c4 : wr.cell? ⟨b', off' + (k * 2 + 1), none⟩ = some (.int .i64 b0.2) := (hbel.cell (p := ⟨b', off' + (k * 2 + 1), none⟩) hbl').trans (hc' _ _ g2)
      rw [← Nat.add_assoc] at c2 c4
      have HBel := Lib.hid hbel
      have l1 : b < wr.heap.size := World.block_lt_of_cell? wr ⟨b, off + k * 2, none⟩ c1
      have l2 : b' < wr.heap.size := World.block_lt_of_cell? wr ⟨b', off' + k * 2, none⟩ c3
      obtain ⟨x, y⟩ := b0
      simp only at c1 c2 c3 c4
      have K1 := Lib.hid c1; have K2 := Lib.hid c2; have K3 := Lib.hid c3; have K4 := Lib.hid c4
      have n0 : (0 : Int) ≤ (k : Int) := Int.natCast_nonneg _
      have n1 : (k : Int) < (n : Int) := by omega
      clear hbel hc hc' hb0 g1 g2
      go_wp2_with fail
      go_region_held3 (fun w' => w'.cell? ⟨b, off + k * 2, none⟩ = some (.int .i64 x) ∧ w'.cell? ⟨b, off + k * 2 + 1, none⟩ = some (.int .i64 y) ∧ w'.cell? ⟨b', off' + k * 2, none⟩ = some (.int .i64 x) ∧ w'.cell? ⟨b', off' + k * 2 + 1, none⟩ = some (.int .i64 y) ∧ Below wr.heap.size wr w')
        (first
          | exact ⟨K1.out, K2.out, K3.out, K4.out, (Below.refl _ _).drew⟩
          | exact ⟨(Below.cell (p := ⟨b, off + k * 2, none⟩) b7 l1).trans K1.out, (Below.cell (p := ⟨b, off + k * 2 + 1, none⟩) b7 l1).trans K2.out, (Below.cell (p := ⟨b', off' + k * 2, none⟩) b7 l2).trans K3.out, (Below.cell (p := ⟨b', off' + k * 2 + 1, none⟩) b7 l2).trans K4.out, b7⟩)
        ((go_at_call 69; go_split_ands; refine (lift (W0 := wr) (B := wr.heap.size) (eqFork_same x y _) (by assumption) (Nat.le_refl _)).mono ?_; rintro e w2 ⟨rfl, b7⟩))
      have HB2 := Lib.hid (HBel.out.trans (b7.mono HBel.out.size))
      clear b7
      go_wp2_with fail
      go_roundw
      case rel => exact ⟨k + 1, by omega, by go_num, HB2.out⟩
      case measure => simp [intOf]; omega
    · obtain rfl : k = n := by omega
      have HBel := Lib.hid hbel
      clear hbel
      go_wp2
      go_ret
      exact ⟨rfl, HBel.out⟩

set_option maxHeartbeats 2000000 in
theorem markForkS_any (base n c k : Nat) (A : Option Addr) (xs : List Value) (w : World) (h : w.ownsRow base 40 2 (.slice A n c) n xs) (hn : n ≤ 8388608) (hk : k ≤ 1099511627776) :
    Calls Try.prog 32 #[.slice A n c, .int .i64 k] w fun e w' => e = .returned (.int .i64 ((k : Int) + 2 * n)) ∧ w'.ownsRow base 40 2 (.slice A n c) n (marksIntS k (n * 2)) ∧ w.grownBy w' (Value.slice A n c).ownBlock := by
  have H := Lib.hid h
  have HL : Hid (xs.length = n * 2) := h.1
  clear h
  go_enter Try.func32, Try.ntmps32
  go_wp2
  go_loopw [1, 5] (fun kk i wr => ∃ q : Nat, q ≤ n ∧ i = .int .i64 q ∧ kk = .int .i64 ((k : Int) + 2 * q) ∧ wr.ownsRow base 40 2 (.slice A n c) n (marksIntS k (q * 2) ++ xs.drop (q * 2)) ∧ w.grownBy wr (Value.slice A n c).ownBlock) (fun _ i _ => n - (intOf i).toNat)
  case atStart => exact ⟨0, Nat.zero_le _, rfl, by simp, by simpa [marksIntS] using H.out, World.grownBy.refl _ _⟩
  case round =>
    obtain ⟨q, hq, rfl, rfl, hown, hg⟩ := hrel
    by_cases hlt : q < n
    · obtain ⟨g, cap, hv, _, hgl, _, _⟩ := own_form hown (by omega)
      simp only [Value.slice.injEq, true_and] at hv
      obtain ⟨rfl, rfl⟩ := hv
      have hfr : wr.frozen? ⟨g, q * 2, none⟩ = false := hown.frozenAt _
      obtain ⟨old, hold⟩ : ∃ old, wr.cell? ⟨g, q * 2, none⟩ = some old := ⟨_, by rw [hown.cellAt (q * 2) (by omega)]; exact List.getElem?_eq_getElem (by have := hown.1; omega)⟩
      obtain ⟨hs1, hs2⟩ := hown.stored (q * 2) (Value.int .i64 (((k + q * 2 : Nat) : Int)))
      rw [marksIntS_set k (n * 2) (q * 2) xs HL.out (by omega)] at hs1
      obtain ⟨wq, hwq⟩ : ∃ wq, wq = wr.setCell ⟨g, q * 2, none⟩ (Value.int .i64 (((k + q * 2 : Nat) : Int))) := ⟨_, rfl⟩
      rw [← hwq] at hs1 hs2
      have hfr2 : wq.frozen? ⟨g, q * 2 + 1, none⟩ = false := hs1.frozenAt _
      obtain ⟨old2, hold2⟩ : ∃ old, wq.cell? ⟨g, q * 2 + 1, none⟩ = some old := ⟨_, by rw [hs1.cellAt (q * 2 + 1) (by omega)]; exact List.getElem?_eq_getElem (by have := hs1.1; omega)⟩
      obtain ⟨hs3, hs4⟩ := hs1.stored (q * 2 + 1) (Value.int .i64 (((k + (q * 2 + 1) : Nat) : Int)))
      rw [marksIntS_set k (n * 2) (q * 2 + 1) xs HL.out (by omega), show q * 2 + 1 + 1 = (q + 1) * 2 by omega] at hs3
      have e1 : (((k + q * 2 : Nat) : Int)) = (k : Int) + 2 * q := by omega
      have e2 : (((k + (q * 2 + 1) : Nat) : Int)) = (k : Int) + 2 * q + 1 := by omega
      rw [hwq, e1] at hfr2 hold2
      rw [hwq, e1, e2] at hs3 hs4
      rw [hwq, e1] at hs2
      have HS1 := Lib.hid hs3
      have HS2 := Lib.hid ((hg.trans hs2).trans hs4)
      clear hown hg hs1 hs2 hs3 hs4 hwq e1 e2
      go_wp2
      go_roundw
      case rel => exact ⟨q + 1, by omega, by go_num, by go_num, HS1.out, HS2.out⟩
      case measure => simp [intOf]; omega
    · obtain rfl : q = n := by omega
      have HO := Lib.hid hown
      have HG := Lib.hid hg
      clear hown hg
      go_wp2
      go_ret
      exact ⟨rfl, by simpa [HL.out, List.drop_of_length_le] using HO.out, HG.out⟩

set_option maxHeartbeats 1000000 in
theorem heldForkS_any (A : Option Addr) (n c k : Nat) (w : World) (h : Rd w A (n * 2) (marksIntS k (n * 2))) (hn : n ≤ 8388608) (hk : k ≤ 1099511627776) :
    Calls Try.prog 33 #[.slice A n c, .int .i64 k] w fun e w' => e = .returned (.int .i64 ((k : Int) + 2 * n)) ∧ w = w' := by
  have H := Lib.hid h
  clear h
  go_enter Try.func33, Try.ntmps33
  go_wp2
  go_loop [1, 5] (fun kk i => ∃ q : Nat, q ≤ n ∧ i = .int .i64 q ∧ kk = .int .i64 ((k : Int) + 2 * q)) (fun _ i => n - (intOf i).toNat)
  case atStart => exact ⟨0, Nat.zero_le _, rfl, by simp⟩
  case round =>
    obtain ⟨q, hq, rfl, rfl⟩ := hrel
    by_cases hlt : q < n
    · obtain ⟨b, off, rfl, hbl, hc⟩ := H.out.ex (by omega)
      have c1 := hc (q * 2) _ (marksIntS_get (by omega))
      have c2 := hc (q * 2 + 1) _ (marksIntS_get (by omega))
      rw [show (((k + q * 2 : Nat) : Int)) = (k : Int) + 2 * q by omega] at c1
      rw [show (((k + (q * 2 + 1) : Nat) : Int)) = (k : Int) + 2 * q + 1 by omega, ← Nat.add_assoc] at c2
      clear hc
      go_wp2
      go_round
      case rel => exact ⟨q + 1, by omega, by go_num, by go_num⟩
      case measure => simp [intOf]; omega
    · obtain rfl : q = n := by omega
      go_wp2
      go_ret
      exact ⟨rfl, rfl⟩


/-- A row of elements of two cells each, in blocks from lo up to hi. -/
structure Ow2 (e : TypeId) (lo hi : Nat) (w : World) (A : Option Addr) (n c : Nat) (xs : List Value) : Prop where
  own : w.ownsRow lo e 2 (.slice A n c) n xs
  top : ∀ k, (Value.slice A n c).ownBlock = some k → k < hi
theorem Ow2.rd {e : TypeId} {lo hi : Nat} {w : World} {A : Option Addr} {n c : Nat} {xs : List Value} (h : Ow2 e lo hi w A n c xs) : Rd w A (n * 2) xs := Rd.of_own2 h.own
theorem Ow2.same {e : TypeId} {lo hi : Nat} {w w' : World} {A : Option Addr} {n c : Nat} {xs : List Value} (h : Ow2 e lo hi w A n c xs) (hs : Same lo hi w w') : Ow2 e lo hi w' A n c xs := by
  refine ⟨⟨h.own.1, ?_⟩, h.top⟩
  rcases h.own.2 with h2 | ⟨g, cap, cur, a, b, c', d⟩
  · exact .inl h2
  · exact .inr ⟨g, cap, cur, a, b, by rw [hs g b (h.top g (by rw [a]; rfl))]; exact c', d⟩
theorem Ow2.of {e : TypeId} {lo : Nat} {w : World} {A : Option Addr} {n c : Nat} {xs : List Value} (h : w.ownsRow lo e 2 (.slice A n c) n xs) : Ow2 e lo w.heap.size w A n c xs := ⟨h, fun k hk => (h.lt k hk).2⟩
theorem markF2 (lo hi n c k : Nat) (A : Option Addr) (xs : List Value) (w : World) (h : Ow2 40 lo hi w A n c xs) (hn : n ≤ 8388608) (hk : k ≤ 1099511627776) :
    Calls Try.prog 32 #[.slice A n c, .int .i64 k] w fun e w' => e = .returned (.int .i64 ((k : Int) + 2 * n)) ∧ Ow2 40 lo hi w' A n c (marksIntS k (n * 2)) ∧ Only lo hi w w' :=
  (markForkS_any lo n c k A xs w h.own hn hk).mono fun e w' ⟨h1, h2, h3⟩ => ⟨h1, ⟨h2, h.top⟩, Only.of_grown h3 fun j hj => ⟨(h.own.lt j hj).1, h.top j hj⟩⟩

theorem sCand2 (A C : Option Addr) (n c m d : Nat) (hs : List AH) (ats : List AD) (cs : List ByteArray) (X : Option Addr) (q e0 : Nat) (xs : List Int) (two : Bool) (bs : List (Int × Int)) (M : Nat) (w : World) (hbs : candL ats cs xs two = bs) (hM : bs.length = M) (r : Sch w A C n m d hs ats cs) (hx : Rd w X q (xs.map (Value.int .i64))) (hq : q ≤ 1048576) :
    Calls Try.prog 27 #[.agg #[.slice A n c, .slice C m d], .slice X q e0, .bool two] w fun e w' => ∃ A' c', e = .returned (.slice A' M c') ∧ w'.ownsRow w.heap.size 40 2 (.slice A' M c') M (fcells bs) ∧ Below w.heap.size w w' := by
  subst hbs hM
  exact (sCandidates_any A C n c m d hs ats cs X q e0 xs w r hx hq two).mono fun e w' ⟨A', c', N, h1, h2, h3, h4⟩ => by subst h2; exact ⟨A', c', h1, h3, h4⟩
theorem iCand2 (A C : Option Addr) (n c m d : Nat) (hs : List AH) (ats : List AD) (cs : List ByteArray) (X : Option Addr) (q e0 : Nat) (xs : List Int) (two : Bool) (bs : List (Int × Int)) (M : Nat) (w : World) (hbs : candL ats cs xs two = bs) (hM : bs.length = M) (r : Sch w A C n m d hs ats cs) (hx : Rd w X q (xs.map (Value.int .i64))) (hq : q ≤ 1048576) :
    Calls Try.prog 28 #[.agg #[.slice A n c, .slice C m d], .slice X q e0, .bool two] w fun e w' => ∃ A' c', e = .returned (.slice A' M c') ∧ w'.ownsRow w.heap.size 40 2 (.slice A' M c') M (fcells bs) ∧ Below w.heap.size w w' := by
  subst hbs hM
  exact (iCandidates_any A C n c m d hs ats cs X q e0 xs w r hx hq two).mono fun e w' ⟨A', c', N, h1, h2, h3, h4⟩ => by subst h2; exact ⟨A', c', h1, h3, h4⟩
theorem candL_len (ats : List AD) (cs : List ByteArray) (xs : List Int) (two : Bool) : (candL ats cs xs two).length ≤ 4 * xs.length := by
  unfold candL
  split
  · rename_i h
    have := candJ_len h (two := two) xs.length (Nat.le_refl _)
    rwa [List.take_length] at this
  · simp

end Go.Proofs.Ytgkefkbpdbokbaa
