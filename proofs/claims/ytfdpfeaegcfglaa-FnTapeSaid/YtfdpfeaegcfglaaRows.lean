/-
  No cell of these rows narrows 'for every input' (looked for: loops, veiled, ifaces, maps, wideKeys, modest, calm, conditions, laid).
  DERIVED. THE GIVEN ROWS OF THIS SEAT. 12 by the template 'for every input the law returns true; each argument reads behind the call as it read before'; 0 by the template 'total and deterministic' (their statements: YtfdpfeaegcfglaaTotals.lean).
  GIVEN WITH THE SEED: the statements are not yours to turn. If you find one false, say at which input.
  Laid BY PROGRAM, IN A SANDBOX (cutbox-rows.mjs): the forced cells as the released guide's own fill.sh prints them over the translation 32269c44f20a3c8d… (all of the seat's roots in one cut). By AI agents, Wed Nov 11 2026. No macro, syntax, notation, axiom, sorry.
-/
import Derived.Test.YtfdpfeaegcfglaaChecked
import GoSem.Claim
import GoSem.ClaimJoined
import GoSem.ClaimMapViews
import Derived.JoinedTies
import Derived.KernelRfl
namespace Go.Proofs.Ytfdpfeaegcfglaa
/- THE CELL 'sum', in the pinned program and in every row, IS THE sha256 OF THE DUMP (.gsa) THAT YtfdpfeaegcfglaaProg.lean LOADS. Nothing in Lean hashes anything: it is a label: what it is worth is what the hold of that sum in a sandbox is worth. -/
noncomputable def Try.pinned : Pinned := { name := "ytfdpfeaegcfglaa", sum := "32269c44f20a3c8d121840c2b3c5a72798e2bccd1b658b97504742a7f1422143", checked := Try.checked }
namespace Rows
def none {H : Type} : Left H := { results := [], args := [] }

/-- 'laws.FnCutSides': WHATEVER THE INPUT: true; the input reads as it did. -/
def fnCutSidesSpec : ChangeSpec := { name := "fnCutSides", fn := fun _ => fun
  | [d] => { results := [.lit (.bool true)], args := [d] }
  | _ => none }
def fnCutSidesRow : OpenClaim := { program := "ytfdpfeaegcfglaa", sum := "32269c44f20a3c8d121840c2b3c5a72798e2bccd1b658b97504742a7f1422143", func := "loop.example/g00477/laws.FnCutSides", spec := "fnCutSides", apart := false }
def FnCutSidesSaid : Prop := fnCutSidesRow.holds Try.pinned (OpenSpec.ofChange fnCutSidesSpec)

/-- ITS FALSE NEIGHBOUR: 'it returns false'. Refute it at one input. -/
def fnCutSidesWrong : ChangeSpec := { name := "fnCutSides", fn := fun _ => fun
  | [d] => { results := [.lit (.bool false)], args := [d] }
  | _ => none }
def FnCutSidesWrongFalsely : Prop := fnCutSidesRow.holds Try.pinned (OpenSpec.ofChange fnCutSidesWrong)

/-- 'laws.FnExactRankAt': WHATEVER THE INPUT: true; the input reads as it did. -/
def fnExactRankAtSpec : ChangeSpec := { name := "fnExactRankAt", fn := fun _ => fun
  | [d1, d2] => { results := [.lit (.bool true)], args := [d1, d2] }
  | _ => none }
def fnExactRankAtRow : OpenClaim := { program := "ytfdpfeaegcfglaa", sum := "32269c44f20a3c8d121840c2b3c5a72798e2bccd1b658b97504742a7f1422143", func := "loop.example/g00477/laws.FnExactRankAt", spec := "fnExactRankAt", apart := false }
def FnExactRankAtSaid : Prop := fnExactRankAtRow.holds Try.pinned (OpenSpec.ofChange fnExactRankAtSpec)

/-- ITS FALSE NEIGHBOUR: 'it returns false'. Refute it at one input. -/
def fnExactRankAtWrong : ChangeSpec := { name := "fnExactRankAt", fn := fun _ => fun
  | [d1, d2] => { results := [.lit (.bool false)], args := [d1, d2] }
  | _ => none }
def FnExactRankAtWrongFalsely : Prop := fnExactRankAtRow.holds Try.pinned (OpenSpec.ofChange fnExactRankAtWrong)

/-- 'laws.FnExactSubsetAt': WHATEVER THE INPUT: true; the input reads as it did. -/
def fnExactSubsetAtSpec : ChangeSpec := { name := "fnExactSubsetAt", fn := fun _ => fun
  | [d1, d2, d3] => { results := [.lit (.bool true)], args := [d1, d2, d3] }
  | _ => none }
def fnExactSubsetAtRow : OpenClaim := { program := "ytfdpfeaegcfglaa", sum := "32269c44f20a3c8d121840c2b3c5a72798e2bccd1b658b97504742a7f1422143", func := "loop.example/g00477/laws.FnExactSubsetAt", spec := "fnExactSubsetAt", apart := false }
def FnExactSubsetAtSaid : Prop := fnExactSubsetAtRow.holds Try.pinned (OpenSpec.ofChange fnExactSubsetAtSpec)

/-- ITS FALSE NEIGHBOUR: 'it returns false'. Refute it at one input. -/
def fnExactSubsetAtWrong : ChangeSpec := { name := "fnExactSubsetAt", fn := fun _ => fun
  | [d1, d2, d3] => { results := [.lit (.bool false)], args := [d1, d2, d3] }
  | _ => none }
def FnExactSubsetAtWrongFalsely : Prop := fnExactSubsetAtRow.holds Try.pinned (OpenSpec.ofChange fnExactSubsetAtWrong)

/-- 'laws.FnSubsets': WHATEVER THE INPUT: true; the input reads as it did. -/
def fnSubsetsSpec : ChangeSpec := { name := "fnSubsets", fn := fun _ => fun
  | [d] => { results := [.lit (.bool true)], args := [d] }
  | _ => none }
def fnSubsetsRow : OpenClaim := { program := "ytfdpfeaegcfglaa", sum := "32269c44f20a3c8d121840c2b3c5a72798e2bccd1b658b97504742a7f1422143", func := "loop.example/g00477/laws.FnSubsets", spec := "fnSubsets", apart := false }
def FnSubsetsSaid : Prop := fnSubsetsRow.holds Try.pinned (OpenSpec.ofChange fnSubsetsSpec)

/-- ITS FALSE NEIGHBOUR: 'it returns false'. Refute it at one input. -/
def fnSubsetsWrong : ChangeSpec := { name := "fnSubsets", fn := fun _ => fun
  | [d] => { results := [.lit (.bool false)], args := [d] }
  | _ => none }
def FnSubsetsWrongFalsely : Prop := fnSubsetsRow.holds Try.pinned (OpenSpec.ofChange fnSubsetsWrong)

/-- 'laws.FnBag': WHATEVER THE INPUT: true; the input reads as it did. -/
def fnBagSpec : ChangeSpec := { name := "fnBag", fn := fun _ => fun
  | [d] => { results := [.lit (.bool true)], args := [d] }
  | _ => none }
def fnBagRow : OpenClaim := { program := "ytfdpfeaegcfglaa", sum := "32269c44f20a3c8d121840c2b3c5a72798e2bccd1b658b97504742a7f1422143", func := "loop.example/g00477/laws.FnBag", spec := "fnBag", apart := false }
def FnBagSaid : Prop := fnBagRow.holds Try.pinned (OpenSpec.ofChange fnBagSpec)

/-- ITS FALSE NEIGHBOUR: 'it returns false'. Refute it at one input. -/
def fnBagWrong : ChangeSpec := { name := "fnBag", fn := fun _ => fun
  | [d] => { results := [.lit (.bool false)], args := [d] }
  | _ => none }
def FnBagWrongFalsely : Prop := fnBagRow.holds Try.pinned (OpenSpec.ofChange fnBagWrong)

/-- 'laws.FnExactBag': WHATEVER THE INPUT: true; the input reads as it did. -/
def fnExactBagSpec : ChangeSpec := { name := "fnExactBag", fn := fun _ => fun
  | [d1, d2] => { results := [.lit (.bool true)], args := [d1, d2] }
  | _ => none }
def fnExactBagRow : OpenClaim := { program := "ytfdpfeaegcfglaa", sum := "32269c44f20a3c8d121840c2b3c5a72798e2bccd1b658b97504742a7f1422143", func := "loop.example/g00477/laws.FnExactBag", spec := "fnExactBag", apart := false }
def FnExactBagSaid : Prop := fnExactBagRow.holds Try.pinned (OpenSpec.ofChange fnExactBagSpec)

/-- ITS FALSE NEIGHBOUR: 'it returns false'. Refute it at one input. -/
def fnExactBagWrong : ChangeSpec := { name := "fnExactBag", fn := fun _ => fun
  | [d1, d2] => { results := [.lit (.bool false)], args := [d1, d2] }
  | _ => none }
def FnExactBagWrongFalsely : Prop := fnExactBagRow.holds Try.pinned (OpenSpec.ofChange fnExactBagWrong)

/-- 'laws.FnGini': WHATEVER THE INPUT: true; the input reads as it did. -/
def fnGiniSpec : ChangeSpec := { name := "fnGini", fn := fun _ => fun
  | [d] => { results := [.lit (.bool true)], args := [d] }
  | _ => none }
def fnGiniRow : OpenClaim := { program := "ytfdpfeaegcfglaa", sum := "32269c44f20a3c8d121840c2b3c5a72798e2bccd1b658b97504742a7f1422143", func := "loop.example/g00477/laws.FnGini", spec := "fnGini", unfollowed := true, recurses := true, apart := false }
def FnGiniSaid : Prop := fnGiniRow.holds Try.pinned (OpenSpec.ofChange fnGiniSpec)

/-- ITS FALSE NEIGHBOUR: 'it returns false'. Refute it at one input. -/
def fnGiniWrong : ChangeSpec := { name := "fnGini", fn := fun _ => fun
  | [d] => { results := [.lit (.bool false)], args := [d] }
  | _ => none }
def FnGiniWrongFalsely : Prop := fnGiniRow.holds Try.pinned (OpenSpec.ofChange fnGiniWrong)

/-- 'laws.FnExactTake': WHATEVER THE INPUT: true; the input reads as it did. -/
def fnExactTakeSpec : ChangeSpec := { name := "fnExactTake", fn := fun _ => fun
  | [d] => { results := [.lit (.bool true)], args := [d] }
  | _ => none }
def fnExactTakeRow : OpenClaim := { program := "ytfdpfeaegcfglaa", sum := "32269c44f20a3c8d121840c2b3c5a72798e2bccd1b658b97504742a7f1422143", func := "loop.example/g00477/laws.FnExactTake", spec := "fnExactTake", apart := false }
def FnExactTakeSaid : Prop := fnExactTakeRow.holds Try.pinned (OpenSpec.ofChange fnExactTakeSpec)

/-- ITS FALSE NEIGHBOUR: 'it returns false'. Refute it at one input. -/
def fnExactTakeWrong : ChangeSpec := { name := "fnExactTake", fn := fun _ => fun
  | [d] => { results := [.lit (.bool false)], args := [d] }
  | _ => none }
def FnExactTakeWrongFalsely : Prop := fnExactTakeRow.holds Try.pinned (OpenSpec.ofChange fnExactTakeWrong)

/-- 'laws.FnExactTakeBelow': WHATEVER THE INPUT: true; the input reads as it did. -/
def fnExactTakeBelowSpec : ChangeSpec := { name := "fnExactTakeBelow", fn := fun _ => fun
  | [d1, d2] => { results := [.lit (.bool true)], args := [d1, d2] }
  | _ => none }
def fnExactTakeBelowRow : OpenClaim := { program := "ytfdpfeaegcfglaa", sum := "32269c44f20a3c8d121840c2b3c5a72798e2bccd1b658b97504742a7f1422143", func := "loop.example/g00477/laws.FnExactTakeBelow", spec := "fnExactTakeBelow", apart := false }
def FnExactTakeBelowSaid : Prop := fnExactTakeBelowRow.holds Try.pinned (OpenSpec.ofChange fnExactTakeBelowSpec)

/-- ITS FALSE NEIGHBOUR: 'it returns false'. Refute it at one input. -/
def fnExactTakeBelowWrong : ChangeSpec := { name := "fnExactTakeBelow", fn := fun _ => fun
  | [d1, d2] => { results := [.lit (.bool false)], args := [d1, d2] }
  | _ => none }
def FnExactTakeBelowWrongFalsely : Prop := fnExactTakeBelowRow.holds Try.pinned (OpenSpec.ofChange fnExactTakeBelowWrong)

/-- 'laws.FnExactGini': WHATEVER THE INPUT: true; the input reads as it did. -/
def fnExactGiniSpec : ChangeSpec := { name := "fnExactGini", fn := fun _ => fun
  | [d] => { results := [.lit (.bool true)], args := [d] }
  | _ => none }
def fnExactGiniRow : OpenClaim := { program := "ytfdpfeaegcfglaa", sum := "32269c44f20a3c8d121840c2b3c5a72798e2bccd1b658b97504742a7f1422143", func := "loop.example/g00477/laws.FnExactGini", spec := "fnExactGini", unfollowed := true, recurses := true, apart := false }
def FnExactGiniSaid : Prop := fnExactGiniRow.holds Try.pinned (OpenSpec.ofChange fnExactGiniSpec)

/-- ITS FALSE NEIGHBOUR: 'it returns false'. Refute it at one input. -/
def fnExactGiniWrong : ChangeSpec := { name := "fnExactGini", fn := fun _ => fun
  | [d] => { results := [.lit (.bool false)], args := [d] }
  | _ => none }
def FnExactGiniWrongFalsely : Prop := fnExactGiniRow.holds Try.pinned (OpenSpec.ofChange fnExactGiniWrong)

/-- 'laws.FnTape': WHATEVER THE INPUT: true; the input reads as it did. -/
def fnTapeSpec : ChangeSpec := { name := "fnTape", fn := fun _ => fun
  | [d] => { results := [.lit (.bool true)], args := [d] }
  | _ => none }
def fnTapeRow : OpenClaim := { program := "ytfdpfeaegcfglaa", sum := "32269c44f20a3c8d121840c2b3c5a72798e2bccd1b658b97504742a7f1422143", func := "loop.example/g00477/laws.FnTape", spec := "fnTape", apart := false }
def FnTapeSaid : Prop := fnTapeRow.holds Try.pinned (OpenSpec.ofChange fnTapeSpec)

/-- ITS FALSE NEIGHBOUR: 'it returns false'. Refute it at one input. -/
def fnTapeWrong : ChangeSpec := { name := "fnTape", fn := fun _ => fun
  | [d] => { results := [.lit (.bool false)], args := [d] }
  | _ => none }
def FnTapeWrongFalsely : Prop := fnTapeRow.holds Try.pinned (OpenSpec.ofChange fnTapeWrong)

/-- 'laws.FnExactTakeSubset': WHATEVER THE INPUT: true; the input reads as it did. -/
def fnExactTakeSubsetSpec : ChangeSpec := { name := "fnExactTakeSubset", fn := fun _ => fun
  | [d1, d2, d3] => { results := [.lit (.bool true)], args := [d1, d2, d3] }
  | _ => none }
def fnExactTakeSubsetRow : OpenClaim := { program := "ytfdpfeaegcfglaa", sum := "32269c44f20a3c8d121840c2b3c5a72798e2bccd1b658b97504742a7f1422143", func := "loop.example/g00477/laws.FnExactTakeSubset", spec := "fnExactTakeSubset", apart := false }
def FnExactTakeSubsetSaid : Prop := fnExactTakeSubsetRow.holds Try.pinned (OpenSpec.ofChange fnExactTakeSubsetSpec)

/-- ITS FALSE NEIGHBOUR: 'it returns false'. Refute it at one input. -/
def fnExactTakeSubsetWrong : ChangeSpec := { name := "fnExactTakeSubset", fn := fun _ => fun
  | [d1, d2, d3] => { results := [.lit (.bool false)], args := [d1, d2, d3] }
  | _ => none }
def FnExactTakeSubsetWrongFalsely : Prop := fnExactTakeSubsetRow.holds Try.pinned (OpenSpec.ofChange fnExactTakeSubsetWrong)

/- THE SECOND FORM. 'bulk': how many values and letters a reading holds, each counted each time it is reached (what is shared counts as often as it is met; a slice's spare places count too). A statement '..UptoSaid' is the law's where the arguments, and the package variables that the reading takes, are together of bulk at most 1048576: NARROWER than '..Said'. Prove '..Said' where nothing that the law and all that it calls make is longer than what came in: it says more and counts as full. Else prove '..UptoSaid'. A law counts once. -/
mutual
def uptoBulk {H : Type} : DataW H → Nat
  | .lit (.string bytes) => bytes.length + 1
  | .lit _ => 1
  | .nil => 1
  | .ptr d => uptoBulk d + 1
  | .slice elems spare => uptoBulkAll elems + uptoBulkAll spare + 1
  | .agg parts => uptoBulkAll parts + 1
  | .iface _ d => uptoBulk d + 1
  | .map entries => uptoBulkEntries entries + 1
  | .held _ => 1
def uptoBulkAll {H : Type} : List (DataW H) → Nat
  | [] => 0
  | d :: r => uptoBulk d + uptoBulkAll r
def uptoBulkEntries {H : Type} : List (Lit × DataW H) → Nat
  | [] => 0
  | x :: r => uptoBulkEntry x + uptoBulkEntries r
def uptoBulkEntry {H : Type} : Lit × DataW H → Nat
  | (.string bytes, d) => bytes.length + uptoBulk d + 1
  | (_, d) => uptoBulk d + 1
 end
def uptoSmall : (H : Type) → List (DataW H) → Bool := fun _ ds => decide (uptoBulkAll ds ≤ 1048576)
def OpenSpec.upto (s : _root_.Go.ChangeSpec) : _root_.Go.OpenSpec := { _root_.Go.OpenSpec.ofChange s with cond := some uptoSmall }

/-- 'laws.FnCutSides', WHERE WHAT IT READS IS OF BULK AT MOST 1048576: true; the input reads as it did. -/
def fnCutSidesUptoRow : OpenClaim := { program := "ytfdpfeaegcfglaa", sum := "32269c44f20a3c8d121840c2b3c5a72798e2bccd1b658b97504742a7f1422143", func := "loop.example/g00477/laws.FnCutSides", spec := "fnCutSides", apart := false, narrowed := true }
def FnCutSidesUptoSaid : Prop := fnCutSidesUptoRow.holds Try.pinned (OpenSpec.upto fnCutSidesSpec)

/-- 'laws.FnExactRankAt', WHERE WHAT IT READS IS OF BULK AT MOST 1048576: true; the input reads as it did. -/
def fnExactRankAtUptoRow : OpenClaim := { program := "ytfdpfeaegcfglaa", sum := "32269c44f20a3c8d121840c2b3c5a72798e2bccd1b658b97504742a7f1422143", func := "loop.example/g00477/laws.FnExactRankAt", spec := "fnExactRankAt", apart := false, narrowed := true }
def FnExactRankAtUptoSaid : Prop := fnExactRankAtUptoRow.holds Try.pinned (OpenSpec.upto fnExactRankAtSpec)

/-- 'laws.FnExactSubsetAt', WHERE WHAT IT READS IS OF BULK AT MOST 1048576: true; the input reads as it did. -/
def fnExactSubsetAtUptoRow : OpenClaim := { program := "ytfdpfeaegcfglaa", sum := "32269c44f20a3c8d121840c2b3c5a72798e2bccd1b658b97504742a7f1422143", func := "loop.example/g00477/laws.FnExactSubsetAt", spec := "fnExactSubsetAt", apart := false, narrowed := true }
def FnExactSubsetAtUptoSaid : Prop := fnExactSubsetAtUptoRow.holds Try.pinned (OpenSpec.upto fnExactSubsetAtSpec)

/-- 'laws.FnSubsets', WHERE WHAT IT READS IS OF BULK AT MOST 1048576: true; the input reads as it did. -/
def fnSubsetsUptoRow : OpenClaim := { program := "ytfdpfeaegcfglaa", sum := "32269c44f20a3c8d121840c2b3c5a72798e2bccd1b658b97504742a7f1422143", func := "loop.example/g00477/laws.FnSubsets", spec := "fnSubsets", apart := false, narrowed := true }
def FnSubsetsUptoSaid : Prop := fnSubsetsUptoRow.holds Try.pinned (OpenSpec.upto fnSubsetsSpec)

/-- 'laws.FnBag', WHERE WHAT IT READS IS OF BULK AT MOST 1048576: true; the input reads as it did. -/
def fnBagUptoRow : OpenClaim := { program := "ytfdpfeaegcfglaa", sum := "32269c44f20a3c8d121840c2b3c5a72798e2bccd1b658b97504742a7f1422143", func := "loop.example/g00477/laws.FnBag", spec := "fnBag", apart := false, narrowed := true }
def FnBagUptoSaid : Prop := fnBagUptoRow.holds Try.pinned (OpenSpec.upto fnBagSpec)

/-- 'laws.FnExactBag', WHERE WHAT IT READS IS OF BULK AT MOST 1048576: true; the input reads as it did. -/
def fnExactBagUptoRow : OpenClaim := { program := "ytfdpfeaegcfglaa", sum := "32269c44f20a3c8d121840c2b3c5a72798e2bccd1b658b97504742a7f1422143", func := "loop.example/g00477/laws.FnExactBag", spec := "fnExactBag", apart := false, narrowed := true }
def FnExactBagUptoSaid : Prop := fnExactBagUptoRow.holds Try.pinned (OpenSpec.upto fnExactBagSpec)

/-- 'laws.FnGini', WHERE WHAT IT READS IS OF BULK AT MOST 1048576: true; the input reads as it did. -/
def fnGiniUptoRow : OpenClaim := { program := "ytfdpfeaegcfglaa", sum := "32269c44f20a3c8d121840c2b3c5a72798e2bccd1b658b97504742a7f1422143", func := "loop.example/g00477/laws.FnGini", spec := "fnGini", unfollowed := true, recurses := true, apart := false, narrowed := true }
def FnGiniUptoSaid : Prop := fnGiniUptoRow.holds Try.pinned (OpenSpec.upto fnGiniSpec)

/-- 'laws.FnExactTake', WHERE WHAT IT READS IS OF BULK AT MOST 1048576: true; the input reads as it did. -/
def fnExactTakeUptoRow : OpenClaim := { program := "ytfdpfeaegcfglaa", sum := "32269c44f20a3c8d121840c2b3c5a72798e2bccd1b658b97504742a7f1422143", func := "loop.example/g00477/laws.FnExactTake", spec := "fnExactTake", apart := false, narrowed := true }
def FnExactTakeUptoSaid : Prop := fnExactTakeUptoRow.holds Try.pinned (OpenSpec.upto fnExactTakeSpec)

/-- 'laws.FnExactTakeBelow', WHERE WHAT IT READS IS OF BULK AT MOST 1048576: true; the input reads as it did. -/
def fnExactTakeBelowUptoRow : OpenClaim := { program := "ytfdpfeaegcfglaa", sum := "32269c44f20a3c8d121840c2b3c5a72798e2bccd1b658b97504742a7f1422143", func := "loop.example/g00477/laws.FnExactTakeBelow", spec := "fnExactTakeBelow", apart := false, narrowed := true }
def FnExactTakeBelowUptoSaid : Prop := fnExactTakeBelowUptoRow.holds Try.pinned (OpenSpec.upto fnExactTakeBelowSpec)

/-- 'laws.FnExactGini', WHERE WHAT IT READS IS OF BULK AT MOST 1048576: true; the input reads as it did. -/
def fnExactGiniUptoRow : OpenClaim := { program := "ytfdpfeaegcfglaa", sum := "32269c44f20a3c8d121840c2b3c5a72798e2bccd1b658b97504742a7f1422143", func := "loop.example/g00477/laws.FnExactGini", spec := "fnExactGini", unfollowed := true, recurses := true, apart := false, narrowed := true }
def FnExactGiniUptoSaid : Prop := fnExactGiniUptoRow.holds Try.pinned (OpenSpec.upto fnExactGiniSpec)

/-- 'laws.FnTape', WHERE WHAT IT READS IS OF BULK AT MOST 1048576: true; the input reads as it did. -/
def fnTapeUptoRow : OpenClaim := { program := "ytfdpfeaegcfglaa", sum := "32269c44f20a3c8d121840c2b3c5a72798e2bccd1b658b97504742a7f1422143", func := "loop.example/g00477/laws.FnTape", spec := "fnTape", apart := false, narrowed := true }
def FnTapeUptoSaid : Prop := fnTapeUptoRow.holds Try.pinned (OpenSpec.upto fnTapeSpec)

/-- 'laws.FnExactTakeSubset', WHERE WHAT IT READS IS OF BULK AT MOST 1048576: true; the input reads as it did. -/
def fnExactTakeSubsetUptoRow : OpenClaim := { program := "ytfdpfeaegcfglaa", sum := "32269c44f20a3c8d121840c2b3c5a72798e2bccd1b658b97504742a7f1422143", func := "loop.example/g00477/laws.FnExactTakeSubset", spec := "fnExactTakeSubset", apart := false, narrowed := true }
def FnExactTakeSubsetUptoSaid : Prop := fnExactTakeSubsetUptoRow.holds Try.pinned (OpenSpec.upto fnExactTakeSubsetSpec)

end Rows
end Go.Proofs.Ytfdpfeaegcfglaa
