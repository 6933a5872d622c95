/-
  No cell of these rows narrows 'for every input' (looked for: loops, veiled, ifaces, maps, wideKeys, modest, calm, conditions, laid).
  DERIVED. THE GIVEN ROWS OF THIS SEAT. 11 by the template 'for every input the law returns true; each argument reads behind the call as it read before'; 0 by the template 'total and deterministic' (their statements: YtccohhhnfaidhaaTotals.lean).
  GIVEN WITH THE SEED: the statements are not yours to turn. If you find one false, say at which input.
  Laid BY PROGRAM, IN A SANDBOX (cutbox-rows.mjs): the forced cells as the released guide's own fill.sh prints them over the translation c81c6c05efd20d86… (all of the seat's roots in one cut). By AI agents, Wed Nov 11 2026. No macro, syntax, notation, axiom, sorry.
-/
import Derived.Test.YtccohhhnfaidhaaChecked
import GoSem.Claim
import GoSem.ClaimJoined
import GoSem.ClaimMapViews
import Derived.JoinedTies
import Derived.KernelRfl
namespace Go.Proofs.Ytccohhhnfaidhaa
/- THE CELL 'sum', in the pinned program and in every row, IS THE sha256 OF THE DUMP (.gsa) THAT YtccohhhnfaidhaaProg.lean LOADS. Nothing in Lean hashes anything: it is a label: what it is worth is what the hold of that sum in a sandbox is worth. -/
noncomputable def Try.pinned : Pinned := { name := "ytccohhhnfaidhaa", sum := "c81c6c05efd20d8652b1ffe3ee94dea7f11cda0689fc44c6393c9abf55d2cb5c", checked := Try.checked }
namespace Rows
def none {H : Type} : Left H := { results := [], args := [] }

/-- 'laws.FnExactRuleOk': WHATEVER THE INPUT: true; the input reads as it did. -/
def fnExactRuleOkSpec : ChangeSpec := { name := "fnExactRuleOk", fn := fun _ => fun
  | [d] => { results := [.lit (.bool true)], args := [d] }
  | _ => none }
def fnExactRuleOkRow : OpenClaim := { program := "ytccohhhnfaidhaa", sum := "c81c6c05efd20d8652b1ffe3ee94dea7f11cda0689fc44c6393c9abf55d2cb5c", func := "loop.example/g00477/laws.FnExactRuleOk", spec := "fnExactRuleOk", apart := false }
def FnExactRuleOkSaid : Prop := fnExactRuleOkRow.holds Try.pinned (OpenSpec.ofChange fnExactRuleOkSpec)

/-- ITS FALSE NEIGHBOUR: 'it returns false'. Refute it at one input. -/
def fnExactRuleOkWrong : ChangeSpec := { name := "fnExactRuleOk", fn := fun _ => fun
  | [d] => { results := [.lit (.bool false)], args := [d] }
  | _ => none }
def FnExactRuleOkWrongFalsely : Prop := fnExactRuleOkRow.holds Try.pinned (OpenSpec.ofChange fnExactRuleOkWrong)

/-- 'laws.FnExactBinomial': WHATEVER THE INPUT: true; the input reads as it did. -/
def fnExactBinomialSpec : ChangeSpec := { name := "fnExactBinomial", fn := fun _ => fun
  | [d1, d2] => { results := [.lit (.bool true)], args := [d1, d2] }
  | _ => none }
def fnExactBinomialRow : OpenClaim := { program := "ytccohhhnfaidhaa", sum := "c81c6c05efd20d8652b1ffe3ee94dea7f11cda0689fc44c6393c9abf55d2cb5c", func := "loop.example/g00477/laws.FnExactBinomial", spec := "fnExactBinomial", apart := false }
def FnExactBinomialSaid : Prop := fnExactBinomialRow.holds Try.pinned (OpenSpec.ofChange fnExactBinomialSpec)

/-- ITS FALSE NEIGHBOUR: 'it returns false'. Refute it at one input. -/
def fnExactBinomialWrong : ChangeSpec := { name := "fnExactBinomial", fn := fun _ => fun
  | [d1, d2] => { results := [.lit (.bool false)], args := [d1, d2] }
  | _ => none }
def FnExactBinomialWrongFalsely : Prop := fnExactBinomialRow.holds Try.pinned (OpenSpec.ofChange fnExactBinomialWrong)

/-- 'laws.FnExactCutHere': WHATEVER THE INPUT: true; the input reads as it did. -/
def fnExactCutHereSpec : ChangeSpec := { name := "fnExactCutHere", fn := fun _ => fun
  | [d1, d2, d3, d4, d5] => { results := [.lit (.bool true)], args := [d1, d2, d3, d4, d5] }
  | _ => none }
def fnExactCutHereRow : OpenClaim := { program := "ytccohhhnfaidhaa", sum := "c81c6c05efd20d8652b1ffe3ee94dea7f11cda0689fc44c6393c9abf55d2cb5c", func := "loop.example/g00477/laws.FnExactCutHere", spec := "fnExactCutHere", apart := false }
def FnExactCutHereSaid : Prop := fnExactCutHereRow.holds Try.pinned (OpenSpec.ofChange fnExactCutHereSpec)

/-- ITS FALSE NEIGHBOUR: 'it returns false'. Refute it at one input. -/
def fnExactCutHereWrong : ChangeSpec := { name := "fnExactCutHere", fn := fun _ => fun
  | [d1, d2, d3, d4, d5] => { results := [.lit (.bool false)], args := [d1, d2, d3, d4, d5] }
  | _ => none }
def FnExactCutHereWrongFalsely : Prop := fnExactCutHereRow.holds Try.pinned (OpenSpec.ofChange fnExactCutHereWrong)

/-- 'laws.FnExactLeastDraw': WHATEVER THE INPUT: true; the input reads as it did. -/
def fnExactLeastDrawSpec : ChangeSpec := { name := "fnExactLeastDraw", fn := fun _ => fun
  | [d1, d2] => { results := [.lit (.bool true)], args := [d1, d2] }
  | _ => none }
def fnExactLeastDrawRow : OpenClaim := { program := "ytccohhhnfaidhaa", sum := "c81c6c05efd20d8652b1ffe3ee94dea7f11cda0689fc44c6393c9abf55d2cb5c", func := "loop.example/g00477/laws.FnExactLeastDraw", spec := "fnExactLeastDraw", apart := false }
def FnExactLeastDrawSaid : Prop := fnExactLeastDrawRow.holds Try.pinned (OpenSpec.ofChange fnExactLeastDrawSpec)

/-- ITS FALSE NEIGHBOUR: 'it returns false'. Refute it at one input. -/
def fnExactLeastDrawWrong : ChangeSpec := { name := "fnExactLeastDraw", fn := fun _ => fun
  | [d1, d2] => { results := [.lit (.bool false)], args := [d1, d2] }
  | _ => none }
def FnExactLeastDrawWrongFalsely : Prop := fnExactLeastDrawRow.holds Try.pinned (OpenSpec.ofChange fnExactLeastDrawWrong)

/-- 'laws.FnExactTied': WHATEVER THE INPUT: true; the input reads as it did. -/
def fnExactTiedSpec : ChangeSpec := { name := "fnExactTied", fn := fun _ => fun
  | [d1, d2] => { results := [.lit (.bool true)], args := [d1, d2] }
  | _ => none }
def fnExactTiedRow : OpenClaim := { program := "ytccohhhnfaidhaa", sum := "c81c6c05efd20d8652b1ffe3ee94dea7f11cda0689fc44c6393c9abf55d2cb5c", func := "loop.example/g00477/laws.FnExactTied", spec := "fnExactTied", apart := false }
def FnExactTiedSaid : Prop := fnExactTiedRow.holds Try.pinned (OpenSpec.ofChange fnExactTiedSpec)

/-- ITS FALSE NEIGHBOUR: 'it returns false'. Refute it at one input. -/
def fnExactTiedWrong : ChangeSpec := { name := "fnExactTied", fn := fun _ => fun
  | [d1, d2] => { results := [.lit (.bool false)], args := [d1, d2] }
  | _ => none }
def FnExactTiedWrongFalsely : Prop := fnExactTiedRow.holds Try.pinned (OpenSpec.ofChange fnExactTiedWrong)

/-- 'laws.FnExactThresholds': WHATEVER THE INPUT: true; the input reads as it did. -/
def fnExactThresholdsSpec : ChangeSpec := { name := "fnExactThresholds", fn := fun _ => fun
  | [d] => { results := [.lit (.bool true)], args := [d] }
  | _ => none }
def fnExactThresholdsRow : OpenClaim := { program := "ytccohhhnfaidhaa", sum := "c81c6c05efd20d8652b1ffe3ee94dea7f11cda0689fc44c6393c9abf55d2cb5c", func := "loop.example/g00477/laws.FnExactThresholds", spec := "fnExactThresholds", apart := false }
def FnExactThresholdsSaid : Prop := fnExactThresholdsRow.holds Try.pinned (OpenSpec.ofChange fnExactThresholdsSpec)

/-- ITS FALSE NEIGHBOUR: 'it returns false'. Refute it at one input. -/
def fnExactThresholdsWrong : ChangeSpec := { name := "fnExactThresholds", fn := fun _ => fun
  | [d] => { results := [.lit (.bool false)], args := [d] }
  | _ => none }
def FnExactThresholdsWrongFalsely : Prop := fnExactThresholdsRow.holds Try.pinned (OpenSpec.ofChange fnExactThresholdsWrong)

/-- 'laws.FnExactWeightOf': WHATEVER THE INPUT: true; the input reads as it did. -/
def fnExactWeightOfSpec : ChangeSpec := { name := "fnExactWeightOf", fn := fun _ => fun
  | [d1, d2] => { results := [.lit (.bool true)], args := [d1, d2] }
  | _ => none }
def fnExactWeightOfRow : OpenClaim := { program := "ytccohhhnfaidhaa", sum := "c81c6c05efd20d8652b1ffe3ee94dea7f11cda0689fc44c6393c9abf55d2cb5c", func := "loop.example/g00477/laws.FnExactWeightOf", spec := "fnExactWeightOf", apart := false }
def FnExactWeightOfSaid : Prop := fnExactWeightOfRow.holds Try.pinned (OpenSpec.ofChange fnExactWeightOfSpec)

/-- ITS FALSE NEIGHBOUR: 'it returns false'. Refute it at one input. -/
def fnExactWeightOfWrong : ChangeSpec := { name := "fnExactWeightOf", fn := fun _ => fun
  | [d1, d2] => { results := [.lit (.bool false)], args := [d1, d2] }
  | _ => none }
def FnExactWeightOfWrongFalsely : Prop := fnExactWeightOfRow.holds Try.pinned (OpenSpec.ofChange fnExactWeightOfWrong)

/-- 'laws.FnExactTapeOk': WHATEVER THE INPUT: true; the input reads as it did. -/
def fnExactTapeOkSpec : ChangeSpec := { name := "fnExactTapeOk", fn := fun _ => fun
  | [d] => { results := [.lit (.bool true)], args := [d] }
  | _ => none }
def fnExactTapeOkRow : OpenClaim := { program := "ytccohhhnfaidhaa", sum := "c81c6c05efd20d8652b1ffe3ee94dea7f11cda0689fc44c6393c9abf55d2cb5c", func := "loop.example/g00477/laws.FnExactTapeOk", spec := "fnExactTapeOk", apart := false }
def FnExactTapeOkSaid : Prop := fnExactTapeOkRow.holds Try.pinned (OpenSpec.ofChange fnExactTapeOkSpec)

/-- ITS FALSE NEIGHBOUR: 'it returns false'. Refute it at one input. -/
def fnExactTapeOkWrong : ChangeSpec := { name := "fnExactTapeOk", fn := fun _ => fun
  | [d] => { results := [.lit (.bool false)], args := [d] }
  | _ => none }
def FnExactTapeOkWrongFalsely : Prop := fnExactTapeOkRow.holds Try.pinned (OpenSpec.ofChange fnExactTapeOkWrong)

/-- 'laws.FnExactSquares': WHATEVER THE INPUT: true; the input reads as it did. -/
def fnExactSquaresSpec : ChangeSpec := { name := "fnExactSquares", fn := fun _ => fun
  | [d] => { results := [.lit (.bool true)], args := [d] }
  | _ => none }
def fnExactSquaresRow : OpenClaim := { program := "ytccohhhnfaidhaa", sum := "c81c6c05efd20d8652b1ffe3ee94dea7f11cda0689fc44c6393c9abf55d2cb5c", func := "loop.example/g00477/laws.FnExactSquares", spec := "fnExactSquares", unfollowed := true, recurses := true, apart := false }
def FnExactSquaresSaid : Prop := fnExactSquaresRow.holds Try.pinned (OpenSpec.ofChange fnExactSquaresSpec)

/-- ITS FALSE NEIGHBOUR: 'it returns false'. Refute it at one input. -/
def fnExactSquaresWrong : ChangeSpec := { name := "fnExactSquares", fn := fun _ => fun
  | [d] => { results := [.lit (.bool false)], args := [d] }
  | _ => none }
def FnExactSquaresWrongFalsely : Prop := fnExactSquaresRow.holds Try.pinned (OpenSpec.ofChange fnExactSquaresWrong)

/-- 'laws.FnExactTapeLeft': WHATEVER THE INPUT: true; the input reads as it did. -/
def fnExactTapeLeftSpec : ChangeSpec := { name := "fnExactTapeLeft", fn := fun _ => fun
  | [d] => { results := [.lit (.bool true)], args := [d] }
  | _ => none }
def fnExactTapeLeftRow : OpenClaim := { program := "ytccohhhnfaidhaa", sum := "c81c6c05efd20d8652b1ffe3ee94dea7f11cda0689fc44c6393c9abf55d2cb5c", func := "loop.example/g00477/laws.FnExactTapeLeft", spec := "fnExactTapeLeft", apart := false }
def FnExactTapeLeftSaid : Prop := fnExactTapeLeftRow.holds Try.pinned (OpenSpec.ofChange fnExactTapeLeftSpec)

/-- ITS FALSE NEIGHBOUR: 'it returns false'. Refute it at one input. -/
def fnExactTapeLeftWrong : ChangeSpec := { name := "fnExactTapeLeft", fn := fun _ => fun
  | [d] => { results := [.lit (.bool false)], args := [d] }
  | _ => none }
def FnExactTapeLeftWrongFalsely : Prop := fnExactTapeLeftRow.holds Try.pinned (OpenSpec.ofChange fnExactTapeLeftWrong)

/-- 'laws.FnExactTapeNew': WHATEVER THE INPUT: true; the input reads as it did. -/
def fnExactTapeNewSpec : ChangeSpec := { name := "fnExactTapeNew", fn := fun _ => fun
  | [d] => { results := [.lit (.bool true)], args := [d] }
  | _ => none }
def fnExactTapeNewRow : OpenClaim := { program := "ytccohhhnfaidhaa", sum := "c81c6c05efd20d8652b1ffe3ee94dea7f11cda0689fc44c6393c9abf55d2cb5c", func := "loop.example/g00477/laws.FnExactTapeNew", spec := "fnExactTapeNew", apart := false }
def FnExactTapeNewSaid : Prop := fnExactTapeNewRow.holds Try.pinned (OpenSpec.ofChange fnExactTapeNewSpec)

/-- ITS FALSE NEIGHBOUR: 'it returns false'. Refute it at one input. -/
def fnExactTapeNewWrong : ChangeSpec := { name := "fnExactTapeNew", fn := fun _ => fun
  | [d] => { results := [.lit (.bool false)], args := [d] }
  | _ => none }
def FnExactTapeNewWrongFalsely : Prop := fnExactTapeNewRow.holds Try.pinned (OpenSpec.ofChange fnExactTapeNewWrong)

/- THE SECOND FORM. 'bulk': how many values and letters a reading holds, each counted each time it is reached (what is shared counts as often as it is met; a slice's spare places count too). A statement '..UptoSaid' is the law's where the arguments, and the package variables that the reading takes, are together of bulk at most 1048576: NARROWER than '..Said'. Prove '..Said' where nothing that the law and all that it calls make is longer than what came in: it says more and counts as full. Else prove '..UptoSaid'. A law counts once. -/
mutual
def uptoBulk {H : Type} : DataW H → Nat
  | .lit (.string bytes) => bytes.length + 1
  | .lit _ => 1
  | .nil => 1
  | .ptr d => uptoBulk d + 1
  | .slice elems spare => uptoBulkAll elems + uptoBulkAll spare + 1
  | .agg parts => uptoBulkAll parts + 1
  | .iface _ d => uptoBulk d + 1
  | .map entries => uptoBulkEntries entries + 1
  | .held _ => 1
def uptoBulkAll {H : Type} : List (DataW H) → Nat
  | [] => 0
  | d :: r => uptoBulk d + uptoBulkAll r
def uptoBulkEntries {H : Type} : List (Lit × DataW H) → Nat
  | [] => 0
  | x :: r => uptoBulkEntry x + uptoBulkEntries r
def uptoBulkEntry {H : Type} : Lit × DataW H → Nat
  | (.string bytes, d) => bytes.length + uptoBulk d + 1
  | (_, d) => uptoBulk d + 1
 end
def uptoSmall : (H : Type) → List (DataW H) → Bool := fun _ ds => decide (uptoBulkAll ds ≤ 1048576)
def OpenSpec.upto (s : _root_.Go.ChangeSpec) : _root_.Go.OpenSpec := { _root_.Go.OpenSpec.ofChange s with cond := some uptoSmall }

/-- 'laws.FnExactRuleOk', WHERE WHAT IT READS IS OF BULK AT MOST 1048576: true; the input reads as it did. -/
def fnExactRuleOkUptoRow : OpenClaim := { program := "ytccohhhnfaidhaa", sum := "c81c6c05efd20d8652b1ffe3ee94dea7f11cda0689fc44c6393c9abf55d2cb5c", func := "loop.example/g00477/laws.FnExactRuleOk", spec := "fnExactRuleOk", apart := false, narrowed := true }
def FnExactRuleOkUptoSaid : Prop := fnExactRuleOkUptoRow.holds Try.pinned (OpenSpec.upto fnExactRuleOkSpec)

/-- 'laws.FnExactBinomial', WHERE WHAT IT READS IS OF BULK AT MOST 1048576: true; the input reads as it did. -/
def fnExactBinomialUptoRow : OpenClaim := { program := "ytccohhhnfaidhaa", sum := "c81c6c05efd20d8652b1ffe3ee94dea7f11cda0689fc44c6393c9abf55d2cb5c", func := "loop.example/g00477/laws.FnExactBinomial", spec := "fnExactBinomial", apart := false, narrowed := true }
def FnExactBinomialUptoSaid : Prop := fnExactBinomialUptoRow.holds Try.pinned (OpenSpec.upto fnExactBinomialSpec)

/-- 'laws.FnExactCutHere', WHERE WHAT IT READS IS OF BULK AT MOST 1048576: true; the input reads as it did. -/
def fnExactCutHereUptoRow : OpenClaim := { program := "ytccohhhnfaidhaa", sum := "c81c6c05efd20d8652b1ffe3ee94dea7f11cda0689fc44c6393c9abf55d2cb5c", func := "loop.example/g00477/laws.FnExactCutHere", spec := "fnExactCutHere", apart := false, narrowed := true }
def FnExactCutHereUptoSaid : Prop := fnExactCutHereUptoRow.holds Try.pinned (OpenSpec.upto fnExactCutHereSpec)

/-- 'laws.FnExactLeastDraw', WHERE WHAT IT READS IS OF BULK AT MOST 1048576: true; the input reads as it did. -/
def fnExactLeastDrawUptoRow : OpenClaim := { program := "ytccohhhnfaidhaa", sum := "c81c6c05efd20d8652b1ffe3ee94dea7f11cda0689fc44c6393c9abf55d2cb5c", func := "loop.example/g00477/laws.FnExactLeastDraw", spec := "fnExactLeastDraw", apart := false, narrowed := true }
def FnExactLeastDrawUptoSaid : Prop := fnExactLeastDrawUptoRow.holds Try.pinned (OpenSpec.upto fnExactLeastDrawSpec)

/-- 'laws.FnExactTied', WHERE WHAT IT READS IS OF BULK AT MOST 1048576: true; the input reads as it did. -/
def fnExactTiedUptoRow : OpenClaim := { program := "ytccohhhnfaidhaa", sum := "c81c6c05efd20d8652b1ffe3ee94dea7f11cda0689fc44c6393c9abf55d2cb5c", func := "loop.example/g00477/laws.FnExactTied", spec := "fnExactTied", apart := false, narrowed := true }
def FnExactTiedUptoSaid : Prop := fnExactTiedUptoRow.holds Try.pinned (OpenSpec.upto fnExactTiedSpec)

/-- 'laws.FnExactThresholds', WHERE WHAT IT READS IS OF BULK AT MOST 1048576: true; the input reads as it did. -/
def fnExactThresholdsUptoRow : OpenClaim := { program := "ytccohhhnfaidhaa", sum := "c81c6c05efd20d8652b1ffe3ee94dea7f11cda0689fc44c6393c9abf55d2cb5c", func := "loop.example/g00477/laws.FnExactThresholds", spec := "fnExactThresholds", apart := false, narrowed := true }
def FnExactThresholdsUptoSaid : Prop := fnExactThresholdsUptoRow.holds Try.pinned (OpenSpec.upto fnExactThresholdsSpec)

/-- 'laws.FnExactWeightOf', WHERE WHAT IT READS IS OF BULK AT MOST 1048576: true; the input reads as it did. -/
def fnExactWeightOfUptoRow : OpenClaim := { program := "ytccohhhnfaidhaa", sum := "c81c6c05efd20d8652b1ffe3ee94dea7f11cda0689fc44c6393c9abf55d2cb5c", func := "loop.example/g00477/laws.FnExactWeightOf", spec := "fnExactWeightOf", apart := false, narrowed := true }
def FnExactWeightOfUptoSaid : Prop := fnExactWeightOfUptoRow.holds Try.pinned (OpenSpec.upto fnExactWeightOfSpec)

/-- 'laws.FnExactTapeOk', WHERE WHAT IT READS IS OF BULK AT MOST 1048576: true; the input reads as it did. -/
def fnExactTapeOkUptoRow : OpenClaim := { program := "ytccohhhnfaidhaa", sum := "c81c6c05efd20d8652b1ffe3ee94dea7f11cda0689fc44c6393c9abf55d2cb5c", func := "loop.example/g00477/laws.FnExactTapeOk", spec := "fnExactTapeOk", apart := false, narrowed := true }
def FnExactTapeOkUptoSaid : Prop := fnExactTapeOkUptoRow.holds Try.pinned (OpenSpec.upto fnExactTapeOkSpec)

/-- 'laws.FnExactSquares', WHERE WHAT IT READS IS OF BULK AT MOST 1048576: true; the input reads as it did. -/
def fnExactSquaresUptoRow : OpenClaim := { program := "ytccohhhnfaidhaa", sum := "c81c6c05efd20d8652b1ffe3ee94dea7f11cda0689fc44c6393c9abf55d2cb5c", func := "loop.example/g00477/laws.FnExactSquares", spec := "fnExactSquares", unfollowed := true, recurses := true, apart := false, narrowed := true }
def FnExactSquaresUptoSaid : Prop := fnExactSquaresUptoRow.holds Try.pinned (OpenSpec.upto fnExactSquaresSpec)

/-- 'laws.FnExactTapeLeft', WHERE WHAT IT READS IS OF BULK AT MOST 1048576: true; the input reads as it did. -/
def fnExactTapeLeftUptoRow : OpenClaim := { program := "ytccohhhnfaidhaa", sum := "c81c6c05efd20d8652b1ffe3ee94dea7f11cda0689fc44c6393c9abf55d2cb5c", func := "loop.example/g00477/laws.FnExactTapeLeft", spec := "fnExactTapeLeft", apart := false, narrowed := true }
def FnExactTapeLeftUptoSaid : Prop := fnExactTapeLeftUptoRow.holds Try.pinned (OpenSpec.upto fnExactTapeLeftSpec)

/-- 'laws.FnExactTapeNew', WHERE WHAT IT READS IS OF BULK AT MOST 1048576: true; the input reads as it did. -/
def fnExactTapeNewUptoRow : OpenClaim := { program := "ytccohhhnfaidhaa", sum := "c81c6c05efd20d8652b1ffe3ee94dea7f11cda0689fc44c6393c9abf55d2cb5c", func := "loop.example/g00477/laws.FnExactTapeNew", spec := "fnExactTapeNew", apart := false, narrowed := true }
def FnExactTapeNewUptoSaid : Prop := fnExactTapeNewUptoRow.holds Try.pinned (OpenSpec.upto fnExactTapeNewSpec)

end Rows
end Go.Proofs.Ytccohhhnfaidhaa
