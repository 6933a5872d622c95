/-
  Totals and cells measured, copied and compared by the law file's helpers.
-/
import Derived.Test.YtchkmcikpamdeaaDoorStat
import Derived.Test.YtchkmcikpamdeaaDoorSSW
namespace Go.Proofs.YtchkmcikpamdeaaDoor
open Go.RowKit
set_option linter.unusedSimpArgs false
set_option linter.unusedVariables false
/-- Totals and cells that a call owns: the totals below mid, the cells from mid on. -/
structure OwSta (lo hi : Nat) (w : World) (A C : Option Addr) (n c m d mid : Nat) (gs : List Hd) (ts : List Int) (xss : List (List Int)) : Prop where
  tot : Ow 3 lo mid w A n c (ts.map (Value.int .i64))
  cel : OwSS mid hi w C m d gs (iss xss)
  le : lo ≤ mid ∧ mid ≤ hi
theorem OwSta.same {lo hi : Nat} {w w' : World} {A C : Option Addr} {n c m d mid : Nat} {gs : List Hd} {ts : List Int} {xss : List (List Int)} (h : OwSta lo hi w A C n c m d mid gs ts xss) (s : Same lo hi w w') : OwSta lo hi w' A C n c m d mid gs ts xss :=
  ⟨h.tot.same (fun k h1 h2 => s k h1 (Nat.lt_of_lt_of_le h2 h.le.2)), h.cel.same (fun k h1 h2 => s k (Nat.le_trans h.le.1 h1) h2), h.le⟩
theorem OwSta.sta {lo hi : Nat} {w : World} {A C : Option Addr} {n c m d mid : Nat} {gs : List Hd} {ts : List Int} {xss : List (List Int)} (h : OwSta lo hi w A C n c m d mid gs ts xss) (hn : n ≤ 1048576) (hm : m ≤ 1048576) (hb : totI xss ≤ 1048576) : Sta w A C n m gs ts xss :=
  ⟨h.tot.rd, h.cel.rd, hn, hm, hb⟩

theorem toIntS_own2 (A : Option Addr) (n c : Nat) (xs : List Int) (w : World) (h : Rd w A n (xs.map (Value.int .i64))) (hn : n ≤ 1073741824) :
    Calls Tryd.prog 51 #[.slice A n c] w fun e w' => ∃ g, e = .returned (.slice (some ⟨g, 0, none⟩) n n) ∧ Ow 3 w.heap.size w'.heap.size w' (some ⟨g, 0, none⟩) n n (xs.map (Value.int .i64)) ∧ Below w.heap.size w w' :=
  (toIntS_any A n c xs w h hn).mono fun e w' ⟨h1, h2, h3⟩ => ⟨_, h1, Ow.of_new h2, h3⟩

end Go.Proofs.YtchkmcikpamdeaaDoor
