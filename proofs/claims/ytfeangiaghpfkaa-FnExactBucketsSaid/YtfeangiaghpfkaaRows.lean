/-
  No cell of these rows narrows 'for every input' (looked for: loops, veiled, ifaces, maps, wideKeys, modest, calm, conditions, laid).
  DERIVED. THE GIVEN ROWS OF THIS SEAT. 10 by the template 'for every input the law returns true; each argument reads behind the call as it read before'; 0 by the template 'total and deterministic' (their statements: YtfeangiaghpfkaaTotals.lean).
  GIVEN WITH THE SEED: the statements are not yours to turn. If you find one false, say at which input.
  Laid BY PROGRAM, IN A SANDBOX (cutbox-rows.mjs): the forced cells as the released guide's own fill.sh prints them over the translation 54194c8e04ec2af2… (all of the seat's roots in one cut). By AI agents, Wed Nov 11 2026. No macro, syntax, notation, axiom, sorry.
-/
import Derived.Test.YtfeangiaghpfkaaChecked
import GoSem.Claim
import GoSem.ClaimJoined
import GoSem.ClaimMapViews
import Derived.JoinedTies
import Derived.KernelRfl
namespace Go.Proofs.Ytfeangiaghpfkaa
/- THE CELL 'sum', in the pinned program and in every row, IS THE sha256 OF THE DUMP (.gsa) THAT YtfeangiaghpfkaaProg.lean LOADS. Nothing in Lean hashes anything: it is a label: what it is worth is what the hold of that sum in a sandbox is worth. -/
noncomputable def Try.pinned : Pinned := { name := "ytfeangiaghpfkaa", sum := "54194c8e04ec2af2de9f9fa6e5e0b6c8b6d85f780062877ef5db2e6cc1ab30d2", checked := Try.checked }
namespace Rows
def none {H : Type} : Left H := { results := [], args := [] }

/-- 'laws.FnExactWindowOk': WHATEVER THE INPUT: true; the input reads as it did. -/
def fnExactWindowOkSpec : ChangeSpec := { name := "fnExactWindowOk", fn := fun _ => fun
  | [d] => { results := [.lit (.bool true)], args := [d] }
  | _ => none }
def fnExactWindowOkRow : OpenClaim := { program := "ytfeangiaghpfkaa", sum := "54194c8e04ec2af2de9f9fa6e5e0b6c8b6d85f780062877ef5db2e6cc1ab30d2", func := "loop.example/g00477/laws.FnExactWindowOk", spec := "fnExactWindowOk", unfollowed := true, recurses := true, apart := false }
def FnExactWindowOkSaid : Prop := fnExactWindowOkRow.holds Try.pinned (OpenSpec.ofChange fnExactWindowOkSpec)

/-- ITS FALSE NEIGHBOUR: 'it returns false'. Refute it at one input. -/
def fnExactWindowOkWrong : ChangeSpec := { name := "fnExactWindowOk", fn := fun _ => fun
  | [d] => { results := [.lit (.bool false)], args := [d] }
  | _ => none }
def FnExactWindowOkWrongFalsely : Prop := fnExactWindowOkRow.holds Try.pinned (OpenSpec.ofChange fnExactWindowOkWrong)

/-- 'laws.FnExactWindowSame': WHATEVER THE INPUT: true; the input reads as it did. -/
def fnExactWindowSameSpec : ChangeSpec := { name := "fnExactWindowSame", fn := fun _ => fun
  | [d1, d2] => { results := [.lit (.bool true)], args := [d1, d2] }
  | _ => none }
def fnExactWindowSameRow : OpenClaim := { program := "ytfeangiaghpfkaa", sum := "54194c8e04ec2af2de9f9fa6e5e0b6c8b6d85f780062877ef5db2e6cc1ab30d2", func := "loop.example/g00477/laws.FnExactWindowSame", spec := "fnExactWindowSame", unfollowed := true, recurses := true, apart := false }
def FnExactWindowSameSaid : Prop := fnExactWindowSameRow.holds Try.pinned (OpenSpec.ofChange fnExactWindowSameSpec)

/-- ITS FALSE NEIGHBOUR: 'it returns false'. Refute it at one input. -/
def fnExactWindowSameWrong : ChangeSpec := { name := "fnExactWindowSame", fn := fun _ => fun
  | [d1, d2] => { results := [.lit (.bool false)], args := [d1, d2] }
  | _ => none }
def FnExactWindowSameWrongFalsely : Prop := fnExactWindowSameRow.holds Try.pinned (OpenSpec.ofChange fnExactWindowSameWrong)

/-- 'laws.FnExactWindowOnes': WHATEVER THE INPUT: true; the input reads as it did. -/
def fnExactWindowOnesSpec : ChangeSpec := { name := "fnExactWindowOnes", fn := fun _ => fun
  | [d] => { results := [.lit (.bool true)], args := [d] }
  | _ => none }
def fnExactWindowOnesRow : OpenClaim := { program := "ytfeangiaghpfkaa", sum := "54194c8e04ec2af2de9f9fa6e5e0b6c8b6d85f780062877ef5db2e6cc1ab30d2", func := "loop.example/g00477/laws.FnExactWindowOnes", spec := "fnExactWindowOnes", unfollowed := true, recurses := true, apart := false }
def FnExactWindowOnesSaid : Prop := fnExactWindowOnesRow.holds Try.pinned (OpenSpec.ofChange fnExactWindowOnesSpec)

/-- ITS FALSE NEIGHBOUR: 'it returns false'. Refute it at one input. -/
def fnExactWindowOnesWrong : ChangeSpec := { name := "fnExactWindowOnes", fn := fun _ => fun
  | [d] => { results := [.lit (.bool false)], args := [d] }
  | _ => none }
def FnExactWindowOnesWrongFalsely : Prop := fnExactWindowOnesRow.holds Try.pinned (OpenSpec.ofChange fnExactWindowOnesWrong)

/-- 'laws.FnExactWindowTotal': WHATEVER THE INPUT: true; the input reads as it did. -/
def fnExactWindowTotalSpec : ChangeSpec := { name := "fnExactWindowTotal", fn := fun _ => fun
  | [d] => { results := [.lit (.bool true)], args := [d] }
  | _ => none }
def fnExactWindowTotalRow : OpenClaim := { program := "ytfeangiaghpfkaa", sum := "54194c8e04ec2af2de9f9fa6e5e0b6c8b6d85f780062877ef5db2e6cc1ab30d2", func := "loop.example/g00477/laws.FnExactWindowTotal", spec := "fnExactWindowTotal", unfollowed := true, recurses := true, apart := false }
def FnExactWindowTotalSaid : Prop := fnExactWindowTotalRow.holds Try.pinned (OpenSpec.ofChange fnExactWindowTotalSpec)

/-- ITS FALSE NEIGHBOUR: 'it returns false'. Refute it at one input. -/
def fnExactWindowTotalWrong : ChangeSpec := { name := "fnExactWindowTotal", fn := fun _ => fun
  | [d] => { results := [.lit (.bool false)], args := [d] }
  | _ => none }
def FnExactWindowTotalWrongFalsely : Prop := fnExactWindowTotalRow.holds Try.pinned (OpenSpec.ofChange fnExactWindowTotalWrong)

/-- 'laws.FnSteady': WHATEVER THE INPUT: true; the input reads as it did. -/
def fnSteadySpec : ChangeSpec := { name := "fnSteady", fn := fun _ => fun
  | [d] => { results := [.lit (.bool true)], args := [d] }
  | _ => none }
def fnSteadyRow : OpenClaim := { program := "ytfeangiaghpfkaa", sum := "54194c8e04ec2af2de9f9fa6e5e0b6c8b6d85f780062877ef5db2e6cc1ab30d2", func := "loop.example/g00477/laws.FnSteady", spec := "fnSteady", unfollowed := true, recurses := true, apart := false }
def FnSteadySaid : Prop := fnSteadyRow.holds Try.pinned (OpenSpec.ofChange fnSteadySpec)

/-- ITS FALSE NEIGHBOUR: 'it returns false'. Refute it at one input. -/
def fnSteadyWrong : ChangeSpec := { name := "fnSteady", fn := fun _ => fun
  | [d] => { results := [.lit (.bool false)], args := [d] }
  | _ => none }
def FnSteadyWrongFalsely : Prop := fnSteadyRow.holds Try.pinned (OpenSpec.ofChange fnSteadyWrong)

/-- 'laws.FnExactBuckets': WHATEVER THE INPUT: true; the input reads as it did. -/
def fnExactBucketsSpec : ChangeSpec := { name := "fnExactBuckets", fn := fun _ => fun
  | [d] => { results := [.lit (.bool true)], args := [d] }
  | _ => none }
def fnExactBucketsRow : OpenClaim := { program := "ytfeangiaghpfkaa", sum := "54194c8e04ec2af2de9f9fa6e5e0b6c8b6d85f780062877ef5db2e6cc1ab30d2", func := "loop.example/g00477/laws.FnExactBuckets", spec := "fnExactBuckets", unfollowed := true, recurses := true, apart := false }
def FnExactBucketsSaid : Prop := fnExactBucketsRow.holds Try.pinned (OpenSpec.ofChange fnExactBucketsSpec)

/-- ITS FALSE NEIGHBOUR: 'it returns false'. Refute it at one input. -/
def fnExactBucketsWrong : ChangeSpec := { name := "fnExactBuckets", fn := fun _ => fun
  | [d] => { results := [.lit (.bool false)], args := [d] }
  | _ => none }
def FnExactBucketsWrongFalsely : Prop := fnExactBucketsRow.holds Try.pinned (OpenSpec.ofChange fnExactBucketsWrong)

/-- 'laws.FnExactWindowDrop': WHATEVER THE INPUT: true; the input reads as it did. -/
def fnExactWindowDropSpec : ChangeSpec := { name := "fnExactWindowDrop", fn := fun _ => fun
  | [d] => { results := [.lit (.bool true)], args := [d] }
  | _ => none }
def fnExactWindowDropRow : OpenClaim := { program := "ytfeangiaghpfkaa", sum := "54194c8e04ec2af2de9f9fa6e5e0b6c8b6d85f780062877ef5db2e6cc1ab30d2", func := "loop.example/g00477/laws.FnExactWindowDrop", spec := "fnExactWindowDrop", unfollowed := true, recurses := true, apart := false }
def FnExactWindowDropSaid : Prop := fnExactWindowDropRow.holds Try.pinned (OpenSpec.ofChange fnExactWindowDropSpec)

/-- ITS FALSE NEIGHBOUR: 'it returns false'. Refute it at one input. -/
def fnExactWindowDropWrong : ChangeSpec := { name := "fnExactWindowDrop", fn := fun _ => fun
  | [d] => { results := [.lit (.bool false)], args := [d] }
  | _ => none }
def FnExactWindowDropWrongFalsely : Prop := fnExactWindowDropRow.holds Try.pinned (OpenSpec.ofChange fnExactWindowDropWrong)

/-- 'laws.FnDrop': WHATEVER THE INPUT: true; the input reads as it did. -/
def fnDropSpec : ChangeSpec := { name := "fnDrop", fn := fun _ => fun
  | [d] => { results := [.lit (.bool true)], args := [d] }
  | _ => none }
def fnDropRow : OpenClaim := { program := "ytfeangiaghpfkaa", sum := "54194c8e04ec2af2de9f9fa6e5e0b6c8b6d85f780062877ef5db2e6cc1ab30d2", func := "loop.example/g00477/laws.FnDrop", spec := "fnDrop", unfollowed := true, recurses := true, apart := false }
def FnDropSaid : Prop := fnDropRow.holds Try.pinned (OpenSpec.ofChange fnDropSpec)

/-- ITS FALSE NEIGHBOUR: 'it returns false'. Refute it at one input. -/
def fnDropWrong : ChangeSpec := { name := "fnDrop", fn := fun _ => fun
  | [d] => { results := [.lit (.bool false)], args := [d] }
  | _ => none }
def FnDropWrongFalsely : Prop := fnDropRow.holds Try.pinned (OpenSpec.ofChange fnDropWrong)

/-- 'laws.FnExactWindowAdd': WHATEVER THE INPUT: true; the input reads as it did. -/
def fnExactWindowAddSpec : ChangeSpec := { name := "fnExactWindowAdd", fn := fun _ => fun
  | [d1, d2] => { results := [.lit (.bool true)], args := [d1, d2] }
  | _ => none }
def fnExactWindowAddRow : OpenClaim := { program := "ytfeangiaghpfkaa", sum := "54194c8e04ec2af2de9f9fa6e5e0b6c8b6d85f780062877ef5db2e6cc1ab30d2", func := "loop.example/g00477/laws.FnExactWindowAdd", spec := "fnExactWindowAdd", unfollowed := true, recurses := true, apart := false }
def FnExactWindowAddSaid : Prop := fnExactWindowAddRow.holds Try.pinned (OpenSpec.ofChange fnExactWindowAddSpec)

/-- ITS FALSE NEIGHBOUR: 'it returns false'. Refute it at one input. -/
def fnExactWindowAddWrong : ChangeSpec := { name := "fnExactWindowAdd", fn := fun _ => fun
  | [d1, d2] => { results := [.lit (.bool false)], args := [d1, d2] }
  | _ => none }
def FnExactWindowAddWrongFalsely : Prop := fnExactWindowAddRow.holds Try.pinned (OpenSpec.ofChange fnExactWindowAddWrong)

/-- 'laws.FnWindow': WHATEVER THE INPUT: true; the input reads as it did. -/
def fnWindowSpec : ChangeSpec := { name := "fnWindow", fn := fun _ => fun
  | [d] => { results := [.lit (.bool true)], args := [d] }
  | _ => none }
def fnWindowRow : OpenClaim := { program := "ytfeangiaghpfkaa", sum := "54194c8e04ec2af2de9f9fa6e5e0b6c8b6d85f780062877ef5db2e6cc1ab30d2", func := "loop.example/g00477/laws.FnWindow", spec := "fnWindow", unfollowed := true, recurses := true, apart := false }
def FnWindowSaid : Prop := fnWindowRow.holds Try.pinned (OpenSpec.ofChange fnWindowSpec)

/-- ITS FALSE NEIGHBOUR: 'it returns false'. Refute it at one input. -/
def fnWindowWrong : ChangeSpec := { name := "fnWindow", fn := fun _ => fun
  | [d] => { results := [.lit (.bool false)], args := [d] }
  | _ => none }
def FnWindowWrongFalsely : Prop := fnWindowRow.holds Try.pinned (OpenSpec.ofChange fnWindowWrong)

/- THE SECOND FORM. 'bulk': how many values and letters a reading holds, each counted each time it is reached (what is shared counts as often as it is met; a slice's spare places count too). A statement '..UptoSaid' is the law's where the arguments, and the package variables that the reading takes, are together of bulk at most 1048576: NARROWER than '..Said'. Prove '..Said' where nothing that the law and all that it calls make is longer than what came in: it says more and counts as full. Else prove '..UptoSaid'. A law counts once. -/
mutual
def uptoBulk {H : Type} : DataW H → Nat
  | .lit (.string bytes) => bytes.length + 1
  | .lit _ => 1
  | .nil => 1
  | .ptr d => uptoBulk d + 1
  | .slice elems spare => uptoBulkAll elems + uptoBulkAll spare + 1
  | .agg parts => uptoBulkAll parts + 1
  | .iface _ d => uptoBulk d + 1
  | .map entries => uptoBulkEntries entries + 1
  | .held _ => 1
def uptoBulkAll {H : Type} : List (DataW H) → Nat
  | [] => 0
  | d :: r => uptoBulk d + uptoBulkAll r
def uptoBulkEntries {H : Type} : List (Lit × DataW H) → Nat
  | [] => 0
  | x :: r => uptoBulkEntry x + uptoBulkEntries r
def uptoBulkEntry {H : Type} : Lit × DataW H → Nat
  | (.string bytes, d) => bytes.length + uptoBulk d + 1
  | (_, d) => uptoBulk d + 1
 end
def uptoSmall : (H : Type) → List (DataW H) → Bool := fun _ ds => decide (uptoBulkAll ds ≤ 1048576)
def OpenSpec.upto (s : _root_.Go.ChangeSpec) : _root_.Go.OpenSpec := { _root_.Go.OpenSpec.ofChange s with cond := some uptoSmall }

/-- 'laws.FnExactWindowOk', WHERE WHAT IT READS IS OF BULK AT MOST 1048576: true; the input reads as it did. -/
def fnExactWindowOkUptoRow : OpenClaim := { program := "ytfeangiaghpfkaa", sum := "54194c8e04ec2af2de9f9fa6e5e0b6c8b6d85f780062877ef5db2e6cc1ab30d2", func := "loop.example/g00477/laws.FnExactWindowOk", spec := "fnExactWindowOk", unfollowed := true, recurses := true, apart := false, narrowed := true }
def FnExactWindowOkUptoSaid : Prop := fnExactWindowOkUptoRow.holds Try.pinned (OpenSpec.upto fnExactWindowOkSpec)

/-- 'laws.FnExactWindowSame', WHERE WHAT IT READS IS OF BULK AT MOST 1048576: true; the input reads as it did. -/
def fnExactWindowSameUptoRow : OpenClaim := { program := "ytfeangiaghpfkaa", sum := "54194c8e04ec2af2de9f9fa6e5e0b6c8b6d85f780062877ef5db2e6cc1ab30d2", func := "loop.example/g00477/laws.FnExactWindowSame", spec := "fnExactWindowSame", unfollowed := true, recurses := true, apart := false, narrowed := true }
def FnExactWindowSameUptoSaid : Prop := fnExactWindowSameUptoRow.holds Try.pinned (OpenSpec.upto fnExactWindowSameSpec)

/-- 'laws.FnExactWindowOnes', WHERE WHAT IT READS IS OF BULK AT MOST 1048576: true; the input reads as it did. -/
def fnExactWindowOnesUptoRow : OpenClaim := { program := "ytfeangiaghpfkaa", sum := "54194c8e04ec2af2de9f9fa6e5e0b6c8b6d85f780062877ef5db2e6cc1ab30d2", func := "loop.example/g00477/laws.FnExactWindowOnes", spec := "fnExactWindowOnes", unfollowed := true, recurses := true, apart := false, narrowed := true }
def FnExactWindowOnesUptoSaid : Prop := fnExactWindowOnesUptoRow.holds Try.pinned (OpenSpec.upto fnExactWindowOnesSpec)

/-- 'laws.FnExactWindowTotal', WHERE WHAT IT READS IS OF BULK AT MOST 1048576: true; the input reads as it did. -/
def fnExactWindowTotalUptoRow : OpenClaim := { program := "ytfeangiaghpfkaa", sum := "54194c8e04ec2af2de9f9fa6e5e0b6c8b6d85f780062877ef5db2e6cc1ab30d2", func := "loop.example/g00477/laws.FnExactWindowTotal", spec := "fnExactWindowTotal", unfollowed := true, recurses := true, apart := false, narrowed := true }
def FnExactWindowTotalUptoSaid : Prop := fnExactWindowTotalUptoRow.holds Try.pinned (OpenSpec.upto fnExactWindowTotalSpec)

/-- 'laws.FnSteady', WHERE WHAT IT READS IS OF BULK AT MOST 1048576: true; the input reads as it did. -/
def fnSteadyUptoRow : OpenClaim := { program := "ytfeangiaghpfkaa", sum := "54194c8e04ec2af2de9f9fa6e5e0b6c8b6d85f780062877ef5db2e6cc1ab30d2", func := "loop.example/g00477/laws.FnSteady", spec := "fnSteady", unfollowed := true, recurses := true, apart := false, narrowed := true }
def FnSteadyUptoSaid : Prop := fnSteadyUptoRow.holds Try.pinned (OpenSpec.upto fnSteadySpec)

/-- 'laws.FnExactBuckets', WHERE WHAT IT READS IS OF BULK AT MOST 1048576: true; the input reads as it did. -/
def fnExactBucketsUptoRow : OpenClaim := { program := "ytfeangiaghpfkaa", sum := "54194c8e04ec2af2de9f9fa6e5e0b6c8b6d85f780062877ef5db2e6cc1ab30d2", func := "loop.example/g00477/laws.FnExactBuckets", spec := "fnExactBuckets", unfollowed := true, recurses := true, apart := false, narrowed := true }
def FnExactBucketsUptoSaid : Prop := fnExactBucketsUptoRow.holds Try.pinned (OpenSpec.upto fnExactBucketsSpec)

/-- 'laws.FnExactWindowDrop', WHERE WHAT IT READS IS OF BULK AT MOST 1048576: true; the input reads as it did. -/
def fnExactWindowDropUptoRow : OpenClaim := { program := "ytfeangiaghpfkaa", sum := "54194c8e04ec2af2de9f9fa6e5e0b6c8b6d85f780062877ef5db2e6cc1ab30d2", func := "loop.example/g00477/laws.FnExactWindowDrop", spec := "fnExactWindowDrop", unfollowed := true, recurses := true, apart := false, narrowed := true }
def FnExactWindowDropUptoSaid : Prop := fnExactWindowDropUptoRow.holds Try.pinned (OpenSpec.upto fnExactWindowDropSpec)

/-- 'laws.FnDrop', WHERE WHAT IT READS IS OF BULK AT MOST 1048576: true; the input reads as it did. -/
def fnDropUptoRow : OpenClaim := { program := "ytfeangiaghpfkaa", sum := "54194c8e04ec2af2de9f9fa6e5e0b6c8b6d85f780062877ef5db2e6cc1ab30d2", func := "loop.example/g00477/laws.FnDrop", spec := "fnDrop", unfollowed := true, recurses := true, apart := false, narrowed := true }
def FnDropUptoSaid : Prop := fnDropUptoRow.holds Try.pinned (OpenSpec.upto fnDropSpec)

/-- 'laws.FnExactWindowAdd', WHERE WHAT IT READS IS OF BULK AT MOST 1048576: true; the input reads as it did. -/
def fnExactWindowAddUptoRow : OpenClaim := { program := "ytfeangiaghpfkaa", sum := "54194c8e04ec2af2de9f9fa6e5e0b6c8b6d85f780062877ef5db2e6cc1ab30d2", func := "loop.example/g00477/laws.FnExactWindowAdd", spec := "fnExactWindowAdd", unfollowed := true, recurses := true, apart := false, narrowed := true }
def FnExactWindowAddUptoSaid : Prop := fnExactWindowAddUptoRow.holds Try.pinned (OpenSpec.upto fnExactWindowAddSpec)

/-- 'laws.FnWindow', WHERE WHAT IT READS IS OF BULK AT MOST 1048576: true; the input reads as it did. -/
def fnWindowUptoRow : OpenClaim := { program := "ytfeangiaghpfkaa", sum := "54194c8e04ec2af2de9f9fa6e5e0b6c8b6d85f780062877ef5db2e6cc1ab30d2", func := "loop.example/g00477/laws.FnWindow", spec := "fnWindow", unfollowed := true, recurses := true, apart := false, narrowed := true }
def FnWindowUptoSaid : Prop := fnWindowUptoRow.holds Try.pinned (OpenSpec.upto fnWindowSpec)

end Rows
end Go.Proofs.Ytfeangiaghpfkaa
