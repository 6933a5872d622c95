/-
  No cell of these rows narrows 'for every input' (looked for: loops, veiled, ifaces, maps, wideKeys, modest, calm, conditions, laid).
  DERIVED. THE GIVEN ROWS OF THIS SEAT. 6 by the template 'for every input the law returns true; each argument reads behind the call as it read before'; 0 by the template 'total and deterministic' (their statements: YtchkmcikpamdeaaTotals.lean).
  GIVEN WITH THE SEED: the statements are not yours to turn. If you find one false, say at which input.
  Laid BY PROGRAM, IN A SANDBOX (cutbox-rows.mjs): the forced cells as the released guide's own fill.sh prints them over the translation cc7f5aade0d4b33c… (all of the seat's roots in one cut). By AI agents, Wed Nov 11 2026. No macro, syntax, notation, axiom, sorry.
-/
import Derived.Test.YtchkmcikpamdeaaChecked
import GoSem.Claim
import GoSem.ClaimJoined
import GoSem.ClaimMapViews
import Derived.JoinedTies
import Derived.KernelRfl
namespace Go.Proofs.Ytchkmcikpamdeaa
/- THE CELL 'sum', in the pinned program and in every row, IS THE sha256 OF THE DUMP (.gsa) THAT YtchkmcikpamdeaaProg.lean LOADS. Nothing in Lean hashes anything: it is a label: what it is worth is what the hold of that sum in a sandbox is worth. -/
noncomputable def Try.pinned : Pinned := { name := "ytchkmcikpamdeaa", sum := "cc7f5aade0d4b33c0615e71de44514bb01bdad1374b88b16cc1dc13e2a205807", checked := Try.checked }
namespace Rows
def none {H : Type} : Left H := { results := [], args := [] }

/-- 'laws.FnExactStatsAdd': WHATEVER THE INPUT: true; the input reads as it did. -/
def fnExactStatsAddSpec : ChangeSpec := { name := "fnExactStatsAdd", fn := fun _ => fun
  | [d1, d2, d3, d4] => { results := [.lit (.bool true)], args := [d1, d2, d3, d4] }
  | _ => none }
def fnExactStatsAddRow : OpenClaim := { program := "ytchkmcikpamdeaa", sum := "cc7f5aade0d4b33c0615e71de44514bb01bdad1374b88b16cc1dc13e2a205807", func := "loop.example/g00477/laws.FnExactStatsAdd", spec := "fnExactStatsAdd", unfollowed := true, recurses := true, apart := false }
def FnExactStatsAddSaid : Prop := fnExactStatsAddRow.holds Try.pinned (OpenSpec.ofChange fnExactStatsAddSpec)

/-- ITS FALSE NEIGHBOUR: 'it returns false'. Refute it at one input. -/
def fnExactStatsAddWrong : ChangeSpec := { name := "fnExactStatsAdd", fn := fun _ => fun
  | [d1, d2, d3, d4] => { results := [.lit (.bool false)], args := [d1, d2, d3, d4] }
  | _ => none }
def FnExactStatsAddWrongFalsely : Prop := fnExactStatsAddRow.holds Try.pinned (OpenSpec.ofChange fnExactStatsAddWrong)

/-- 'laws.FnScaled': WHATEVER THE INPUT: true; the input reads as it did. -/
def fnScaledSpec : ChangeSpec := { name := "fnScaled", fn := fun _ => fun
  | [d] => { results := [.lit (.bool true)], args := [d] }
  | _ => none }
def fnScaledRow : OpenClaim := { program := "ytchkmcikpamdeaa", sum := "cc7f5aade0d4b33c0615e71de44514bb01bdad1374b88b16cc1dc13e2a205807", func := "loop.example/g00477/laws.FnScaled", spec := "fnScaled", unfollowed := true, recurses := true, apart := false }
def FnScaledSaid : Prop := fnScaledRow.holds Try.pinned (OpenSpec.ofChange fnScaledSpec)

/-- ITS FALSE NEIGHBOUR: 'it returns false'. Refute it at one input. -/
def fnScaledWrong : ChangeSpec := { name := "fnScaled", fn := fun _ => fun
  | [d] => { results := [.lit (.bool false)], args := [d] }
  | _ => none }
def FnScaledWrongFalsely : Prop := fnScaledRow.holds Try.pinned (OpenSpec.ofChange fnScaledWrong)

/-- 'laws.FnCounted': WHATEVER THE INPUT: true; the input reads as it did. -/
def fnCountedSpec : ChangeSpec := { name := "fnCounted", fn := fun _ => fun
  | [d] => { results := [.lit (.bool true)], args := [d] }
  | _ => none }
def fnCountedRow : OpenClaim := { program := "ytchkmcikpamdeaa", sum := "cc7f5aade0d4b33c0615e71de44514bb01bdad1374b88b16cc1dc13e2a205807", func := "loop.example/g00477/laws.FnCounted", spec := "fnCounted", unfollowed := true, recurses := true, apart := false }
def FnCountedSaid : Prop := fnCountedRow.holds Try.pinned (OpenSpec.ofChange fnCountedSpec)

/-- ITS FALSE NEIGHBOUR: 'it returns false'. Refute it at one input. -/
def fnCountedWrong : ChangeSpec := { name := "fnCounted", fn := fun _ => fun
  | [d] => { results := [.lit (.bool false)], args := [d] }
  | _ => none }
def FnCountedWrongFalsely : Prop := fnCountedRow.holds Try.pinned (OpenSpec.ofChange fnCountedWrong)

/-- 'laws.FnOneBranch': WHATEVER THE INPUT: true; the input reads as it did. -/
def fnOneBranchSpec : ChangeSpec := { name := "fnOneBranch", fn := fun _ => fun
  | [d] => { results := [.lit (.bool true)], args := [d] }
  | _ => none }
def fnOneBranchRow : OpenClaim := { program := "ytchkmcikpamdeaa", sum := "cc7f5aade0d4b33c0615e71de44514bb01bdad1374b88b16cc1dc13e2a205807", func := "loop.example/g00477/laws.FnOneBranch", spec := "fnOneBranch", unfollowed := true, recurses := true, apart := false }
def FnOneBranchSaid : Prop := fnOneBranchRow.holds Try.pinned (OpenSpec.ofChange fnOneBranchSpec)

/-- ITS FALSE NEIGHBOUR: 'it returns false'. Refute it at one input. -/
def fnOneBranchWrong : ChangeSpec := { name := "fnOneBranch", fn := fun _ => fun
  | [d] => { results := [.lit (.bool false)], args := [d] }
  | _ => none }
def FnOneBranchWrongFalsely : Prop := fnOneBranchRow.holds Try.pinned (OpenSpec.ofChange fnOneBranchWrong)

/-- 'laws.FnAnyOrder': WHATEVER THE INPUT: true; the input reads as it did. -/
def fnAnyOrderSpec : ChangeSpec := { name := "fnAnyOrder", fn := fun _ => fun
  | [d] => { results := [.lit (.bool true)], args := [d] }
  | _ => none }
def fnAnyOrderRow : OpenClaim := { program := "ytchkmcikpamdeaa", sum := "cc7f5aade0d4b33c0615e71de44514bb01bdad1374b88b16cc1dc13e2a205807", func := "loop.example/g00477/laws.FnAnyOrder", spec := "fnAnyOrder", unfollowed := true, recurses := true, apart := false }
def FnAnyOrderSaid : Prop := fnAnyOrderRow.holds Try.pinned (OpenSpec.ofChange fnAnyOrderSpec)

/-- ITS FALSE NEIGHBOUR: 'it returns false'. Refute it at one input. -/
def fnAnyOrderWrong : ChangeSpec := { name := "fnAnyOrder", fn := fun _ => fun
  | [d] => { results := [.lit (.bool false)], args := [d] }
  | _ => none }
def FnAnyOrderWrongFalsely : Prop := fnAnyOrderRow.holds Try.pinned (OpenSpec.ofChange fnAnyOrderWrong)

/-- 'laws.FnRelabel': WHATEVER THE INPUT: true; the input reads as it did. -/
def fnRelabelSpec : ChangeSpec := { name := "fnRelabel", fn := fun _ => fun
  | [d] => { results := [.lit (.bool true)], args := [d] }
  | _ => none }
def fnRelabelRow : OpenClaim := { program := "ytchkmcikpamdeaa", sum := "cc7f5aade0d4b33c0615e71de44514bb01bdad1374b88b16cc1dc13e2a205807", func := "loop.example/g00477/laws.FnRelabel", spec := "fnRelabel", unfollowed := true, recurses := true, apart := false }
def FnRelabelSaid : Prop := fnRelabelRow.holds Try.pinned (OpenSpec.ofChange fnRelabelSpec)

/-- ITS FALSE NEIGHBOUR: 'it returns false'. Refute it at one input. -/
def fnRelabelWrong : ChangeSpec := { name := "fnRelabel", fn := fun _ => fun
  | [d] => { results := [.lit (.bool false)], args := [d] }
  | _ => none }
def FnRelabelWrongFalsely : Prop := fnRelabelRow.holds Try.pinned (OpenSpec.ofChange fnRelabelWrong)

/- THE SECOND FORM. 'bulk': how many values and letters a reading holds, each counted each time it is reached (what is shared counts as often as it is met; a slice's spare places count too). A statement '..UptoSaid' is the law's where the arguments, and the package variables that the reading takes, are together of bulk at most 1048576: NARROWER than '..Said'. Prove '..Said' where nothing that the law and all that it calls make is longer than what came in: it says more and counts as full. Else prove '..UptoSaid'. A law counts once. -/
mutual
def uptoBulk {H : Type} : DataW H → Nat
  | .lit (.string bytes) => bytes.length + 1
  | .lit _ => 1
  | .nil => 1
  | .ptr d => uptoBulk d + 1
  | .slice elems spare => uptoBulkAll elems + uptoBulkAll spare + 1
  | .agg parts => uptoBulkAll parts + 1
  | .iface _ d => uptoBulk d + 1
  | .map entries => uptoBulkEntries entries + 1
  | .held _ => 1
def uptoBulkAll {H : Type} : List (DataW H) → Nat
  | [] => 0
  | d :: r => uptoBulk d + uptoBulkAll r
def uptoBulkEntries {H : Type} : List (Lit × DataW H) → Nat
  | [] => 0
  | x :: r => uptoBulkEntry x + uptoBulkEntries r
def uptoBulkEntry {H : Type} : Lit × DataW H → Nat
  | (.string bytes, d) => bytes.length + uptoBulk d + 1
  | (_, d) => uptoBulk d + 1
 end
def uptoSmall : (H : Type) → List (DataW H) → Bool := fun _ ds => decide (uptoBulkAll ds ≤ 1048576)
def OpenSpec.upto (s : _root_.Go.ChangeSpec) : _root_.Go.OpenSpec := { _root_.Go.OpenSpec.ofChange s with cond := some uptoSmall }

/-- 'laws.FnExactStatsAdd', WHERE WHAT IT READS IS OF BULK AT MOST 1048576: true; the input reads as it did. -/
def fnExactStatsAddUptoRow : OpenClaim := { program := "ytchkmcikpamdeaa", sum := "cc7f5aade0d4b33c0615e71de44514bb01bdad1374b88b16cc1dc13e2a205807", func := "loop.example/g00477/laws.FnExactStatsAdd", spec := "fnExactStatsAdd", unfollowed := true, recurses := true, apart := false, narrowed := true }
def FnExactStatsAddUptoSaid : Prop := fnExactStatsAddUptoRow.holds Try.pinned (OpenSpec.upto fnExactStatsAddSpec)

/-- 'laws.FnScaled', WHERE WHAT IT READS IS OF BULK AT MOST 1048576: true; the input reads as it did. -/
def fnScaledUptoRow : OpenClaim := { program := "ytchkmcikpamdeaa", sum := "cc7f5aade0d4b33c0615e71de44514bb01bdad1374b88b16cc1dc13e2a205807", func := "loop.example/g00477/laws.FnScaled", spec := "fnScaled", unfollowed := true, recurses := true, apart := false, narrowed := true }
def FnScaledUptoSaid : Prop := fnScaledUptoRow.holds Try.pinned (OpenSpec.upto fnScaledSpec)

/-- 'laws.FnCounted', WHERE WHAT IT READS IS OF BULK AT MOST 1048576: true; the input reads as it did. -/
def fnCountedUptoRow : OpenClaim := { program := "ytchkmcikpamdeaa", sum := "cc7f5aade0d4b33c0615e71de44514bb01bdad1374b88b16cc1dc13e2a205807", func := "loop.example/g00477/laws.FnCounted", spec := "fnCounted", unfollowed := true, recurses := true, apart := false, narrowed := true }
def FnCountedUptoSaid : Prop := fnCountedUptoRow.holds Try.pinned (OpenSpec.upto fnCountedSpec)

/-- 'laws.FnOneBranch', WHERE WHAT IT READS IS OF BULK AT MOST 1048576: true; the input reads as it did. -/
def fnOneBranchUptoRow : OpenClaim := { program := "ytchkmcikpamdeaa", sum := "cc7f5aade0d4b33c0615e71de44514bb01bdad1374b88b16cc1dc13e2a205807", func := "loop.example/g00477/laws.FnOneBranch", spec := "fnOneBranch", unfollowed := true, recurses := true, apart := false, narrowed := true }
def FnOneBranchUptoSaid : Prop := fnOneBranchUptoRow.holds Try.pinned (OpenSpec.upto fnOneBranchSpec)

/-- 'laws.FnAnyOrder', WHERE WHAT IT READS IS OF BULK AT MOST 1048576: true; the input reads as it did. -/
def fnAnyOrderUptoRow : OpenClaim := { program := "ytchkmcikpamdeaa", sum := "cc7f5aade0d4b33c0615e71de44514bb01bdad1374b88b16cc1dc13e2a205807", func := "loop.example/g00477/laws.FnAnyOrder", spec := "fnAnyOrder", unfollowed := true, recurses := true, apart := false, narrowed := true }
def FnAnyOrderUptoSaid : Prop := fnAnyOrderUptoRow.holds Try.pinned (OpenSpec.upto fnAnyOrderSpec)

/-- 'laws.FnRelabel', WHERE WHAT IT READS IS OF BULK AT MOST 1048576: true; the input reads as it did. -/
def fnRelabelUptoRow : OpenClaim := { program := "ytchkmcikpamdeaa", sum := "cc7f5aade0d4b33c0615e71de44514bb01bdad1374b88b16cc1dc13e2a205807", func := "loop.example/g00477/laws.FnRelabel", spec := "fnRelabel", unfollowed := true, recurses := true, apart := false, narrowed := true }
def FnRelabelUptoSaid : Prop := fnRelabelUptoRow.holds Try.pinned (OpenSpec.upto fnRelabelSpec)

end Rows
end Go.Proofs.Ytchkmcikpamdeaa
