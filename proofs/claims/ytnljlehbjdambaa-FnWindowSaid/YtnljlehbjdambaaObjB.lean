/-
  Rows of buckets as objects of the call's own memory.
-/
import Derived.Test.YtnljlehbjdambaaSum
import Derived.Test.YtnljlehbjdambaaObj
namespace Go.Proofs.Ytnljlehbjdambaa
open Go.RowKit
set_option linter.unusedSimpArgs false
set_option linter.unusedVariables false
/-- A row of elements of two cells each, in blocks from lo up to hi. -/
structure Ow2 (e : TypeId) (lo hi : Nat) (w : World) (A : Option Addr) (n c : Nat) (xs : List Value) : Prop where
  own : w.ownsRow lo e 2 (.slice A n c) n xs
  top : ∀ k, (Value.slice A n c).ownBlock = some k → k < hi
theorem Ow2.rd {e : TypeId} {lo hi : Nat} {w : World} {A : Option Addr} {n c : Nat} {xs : List Value} (h : Ow2 e lo hi w A n c xs) : Rd w A (n * 2) xs := Rd.of_own2 h.own
theorem Ow2.same {e : TypeId} {lo hi : Nat} {w w' : World} {A : Option Addr} {n c : Nat} {xs : List Value} (h : Ow2 e lo hi w A n c xs) (hs : Same lo hi w w') : Ow2 e lo hi w' A n c xs := by
  refine ⟨⟨h.own.1, ?_⟩, h.top⟩
  rcases h.own.2 with h2 | ⟨g, cap, cur, a, b, c', d⟩
  · exact .inl h2
  · exact .inr ⟨g, cap, cur, a, b, by rw [hs g b (h.top g (by rw [a]; rfl))]; exact c', d⟩
theorem Ow2.of {e : TypeId} {lo : Nat} {w : World} {A : Option Addr} {n c : Nat} {xs : List Value} (h : w.ownsRow lo e 2 (.slice A n c) n xs) : Ow2 e lo w.heap.size w A n c xs := ⟨h, fun k hk => (h.lt k hk).2⟩

theorem iBuckets2 (A : Option Addr) (n c : Nat) (hs : List Hd) (xss : List (List Int)) (bs : List (Int × Int)) (M : Nat) (w : World) (hbs : bucketsL xss = bs) (hM : bs.length = M) (h : RdSS w A n hs (iss xss)) (hb : totI xss ≤ 1048576) (hn : n ≤ 1048576) (hx : ∀ xs ∈ xss, ∀ x ∈ xs, -9223372036854775808 ≤ x ∧ x ≤ 9223372036854775807) :
    Calls Try.prog 26 #[.agg #[.slice A n c]] w fun e w' => ∃ A' c', e = .returned (.slice A' M c') ∧ w'.ownsRow w.heap.size 45 2 (.slice A' M c') M (bcells bs) ∧ Below w.heap.size w w' := by
  subst hbs hM
  exact (iBuckets_any A n c hs xss w h hb hn hx).mono fun e w' ⟨A', c', N, h1, h2, h3, h4⟩ => by subst h2; exact ⟨A', c', h1, h3, h4⟩
end Go.Proofs.Ytnljlehbjdambaa
