/-
  The law file's own helpers over rows of rows of numbers: measured, copied, compared, marked, asked for its marks.
-/
import Derived.Test.YtchkmcikpamdeaaDoorSS
namespace Go.Proofs.YtchkmcikpamdeaaDoor
open Go.RowKit
set_option linter.unusedSimpArgs false
set_option linter.unusedVariables false

theorem info_IntSS : (Tryd.prog.info? 40).map (fun i => (i.zero, i.size, i.bytes)) = some (some (Value.slice none 0 0), 1, 24) := by kernel_rfl
/-- hs up to now, nil behind it, n in all. -/
def fillH (hs : List Hd) (n : Nat) : List Value := hs.map hdV ++ List.replicate (n - hs.length) (Value.slice none 0 0)
theorem fillH_set (hs : List Hd) (n : Nat) (x : Hd) (h : hs.length < n) : (fillH hs n).set hs.length (hdV x) = fillH (hs ++ [x]) n := by
  unfold fillH
  rw [List.set_append_right _ _ (by simp), List.length_map, Nat.sub_self, show n - hs.length = (n - (hs.length + 1)) + 1 by omega, List.replicate_succ, List.set_cons_zero]
  simp
theorem fillH_full (hs : List Hd) (n : Nat) (h : hs.length = n) : fillH hs n = hs.map hdV := by simp [fillH, h]

end Go.Proofs.YtchkmcikpamdeaaDoor
