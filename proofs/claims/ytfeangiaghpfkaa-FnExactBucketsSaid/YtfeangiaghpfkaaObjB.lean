/-
  Rows of buckets as objects of the call's own memory.
-/
import Derived.Test.YtfeangiaghpfkaaSum
import Derived.Test.YtfeangiaghpfkaaObj
namespace Go.Proofs.Ytfeangiaghpfkaa
open Go.RowKit
set_option linter.unusedSimpArgs false
set_option linter.unusedVariables false
/-- A row of elements of two cells each, in blocks from lo up to hi. -/
structure Ow2 (e : TypeId) (lo hi : Nat) (w : World) (A : Option Addr) (n c : Nat) (xs : List Value) : Prop where
  own : w.ownsRow lo e 2 (.slice A n c) n xs
  top : ∀ k, (Value.slice A n c).ownBlock = some k → k < hi
theorem Ow2.rd {e : TypeId} {lo hi : Nat} {w : World} {A : Option Addr} {n c : Nat} {xs : List Value} (h : Ow2 e lo hi w A n c xs) : Rd w A (n * 2) xs := Rd.of_own2 h.own
theorem Ow2.same {e : TypeId} {lo hi : Nat} {w w' : World} {A : Option Addr} {n c : Nat} {xs : List Value} (h : Ow2 e lo hi w A n c xs) (hs : Same lo hi w w') : Ow2 e lo hi w' A n c xs := by
  refine ⟨⟨h.own.1, ?_⟩, h.top⟩
  rcases h.own.2 with h2 | ⟨g, cap, cur, a, b, c', d⟩
  · exact .inl h2
  · exact .inr ⟨g, cap, cur, a, b, by rw [hs g b (h.top g (by rw [a]; rfl))]; exact c', d⟩
theorem Ow2.of {e : TypeId} {lo : Nat} {w : World} {A : Option Addr} {n c : Nat} {xs : List Value} (h : w.ownsRow lo e 2 (.slice A n c) n xs) : Ow2 e lo w.heap.size w A n c xs := ⟨h, fun k hk => (h.lt k hk).2⟩
theorem markB2 (lo hi n c k : Nat) (A : Option Addr) (xs : List Value) (w : World) (h : Ow2 48 lo hi w A n c xs) (hn : n ≤ 1048576) (hk : k ≤ 1099511627776) :
    Calls Try.prog 33 #[.slice A n c, .int .i64 k] w fun e w' => e = .returned (.int .i64 ((k : Int) + 2 * n)) ∧ Ow2 48 lo hi w' A n c (marksIntS k (n * 2)) ∧ Only lo hi w w' :=
  (markBucketS_any lo n c k A xs w h.own hn hk).mono fun e w' ⟨h1, h2, h3⟩ => ⟨h1, ⟨h2, h.top⟩, Only.of_grown h3 fun j hj => ⟨(h.own.lt j hj).1, h.top j hj⟩⟩
theorem sBuckets2 (A : Option Addr) (n c : Nat) (hs : List Hd) (xss : List (List Int)) (bs : List (Int × Int)) (M : Nat) (w : World) (hbs : bucketsL xss = bs) (hM : bs.length = M) (h : RdSS w A n hs (iss xss)) (hb : totI xss ≤ 1048576) (hn : n ≤ 1048576) :
    Calls Try.prog 29 #[.agg #[.slice A n c]] w fun e w' => ∃ A' c', e = .returned (.slice A' M c') ∧ w'.ownsRow w.heap.size 48 2 (.slice A' M c') M (bcells bs) ∧ Below w.heap.size w w' := by
  subst hbs hM
  exact (sBuckets_any A n c hs xss w h hb hn).mono fun e w' ⟨A', c', N, h1, h2, h3, h4⟩ => by subst h2; exact ⟨A', c', h1, h3, h4⟩
theorem iBuckets2 (A : Option Addr) (n c : Nat) (hs : List Hd) (xss : List (List Int)) (bs : List (Int × Int)) (M : Nat) (w : World) (hbs : bucketsL xss = bs) (hM : bs.length = M) (h : RdSS w A n hs (iss xss)) (hb : totI xss ≤ 1048576) (hn : n ≤ 1048576) (hx : ∀ xs ∈ xss, ∀ x ∈ xs, -9223372036854775808 ≤ x ∧ x ≤ 9223372036854775807) :
    Calls Try.prog 30 #[.agg #[.slice A n c]] w fun e w' => ∃ A' c', e = .returned (.slice A' M c') ∧ w'.ownsRow w.heap.size 48 2 (.slice A' M c') M (bcells bs) ∧ Below w.heap.size w w' := by
  subst hbs hM
  exact (iBuckets_any A n c hs xss w h hb hn hx).mono fun e w' ⟨A', c', N, h1, h2, h3, h4⟩ => by subst h2; exact ⟨A', c', h1, h3, h4⟩
end Go.Proofs.Ytfeangiaghpfkaa
