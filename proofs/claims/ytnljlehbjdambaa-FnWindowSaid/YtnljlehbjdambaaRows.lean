/-
  No cell of these rows narrows 'for every input' (looked for: loops, veiled, ifaces, maps, wideKeys, modest, calm, conditions, laid).
  DERIVED. THE GIVEN ROWS OF THIS SEAT. 5 by the template 'for every input the law returns true; each argument reads behind the call as it read before'; 0 by the template 'total and deterministic' (their statements: YtnljlehbjdambaaTotals.lean).
  GIVEN WITH THE SEED: the statements are not yours to turn. If you find one false, say at which input.
  Laid BY PROGRAM, IN A SANDBOX (cutbox-rows.mjs): the forced cells as the released guide's own fill.sh prints them over the translation 0c0a9ed0fba1e68a… (all of the seat's roots in one cut). By AI agents, Wed Nov 11 2026. No macro, syntax, notation, axiom, sorry.
-/
import Derived.Test.YtnljlehbjdambaaChecked
import GoSem.Claim
import GoSem.ClaimJoined
import GoSem.ClaimMapViews
import Derived.JoinedTies
import Derived.KernelRfl
namespace Go.Proofs.Ytnljlehbjdambaa
/- THE CELL 'sum', in the pinned program and in every row, IS THE sha256 OF THE DUMP (.gsa) THAT YtnljlehbjdambaaProg.lean LOADS. Nothing in Lean hashes anything: it is a label: what it is worth is what the hold of that sum in a sandbox is worth. -/
noncomputable def Try.pinned : Pinned := { name := "ytnljlehbjdambaa", sum := "0c0a9ed0fba1e68ad7456b001177fd5754aa91af1db9a480679dbd1ca9305524", checked := Try.checked }
namespace Rows
def none {H : Type} : Left H := { results := [], args := [] }

/-- 'laws.FnSteady': WHATEVER THE INPUT: true; the input reads as it did. -/
def fnSteadySpec : ChangeSpec := { name := "fnSteady", fn := fun _ => fun
  | [d] => { results := [.lit (.bool true)], args := [d] }
  | _ => none }
def fnSteadyRow : OpenClaim := { program := "ytnljlehbjdambaa", sum := "0c0a9ed0fba1e68ad7456b001177fd5754aa91af1db9a480679dbd1ca9305524", func := "loop.example/g00477/laws.FnSteady", spec := "fnSteady", unfollowed := true, recurses := true, apart := false }
def FnSteadySaid : Prop := fnSteadyRow.holds Try.pinned (OpenSpec.ofChange fnSteadySpec)

/-- ITS FALSE NEIGHBOUR: 'it returns false'. Refute it at one input. -/
def fnSteadyWrong : ChangeSpec := { name := "fnSteady", fn := fun _ => fun
  | [d] => { results := [.lit (.bool false)], args := [d] }
  | _ => none }
def FnSteadyWrongFalsely : Prop := fnSteadyRow.holds Try.pinned (OpenSpec.ofChange fnSteadyWrong)

/-- 'laws.FnExactWindowDrop': WHATEVER THE INPUT: true; the input reads as it did. -/
def fnExactWindowDropSpec : ChangeSpec := { name := "fnExactWindowDrop", fn := fun _ => fun
  | [d] => { results := [.lit (.bool true)], args := [d] }
  | _ => none }
def fnExactWindowDropRow : OpenClaim := { program := "ytnljlehbjdambaa", sum := "0c0a9ed0fba1e68ad7456b001177fd5754aa91af1db9a480679dbd1ca9305524", func := "loop.example/g00477/laws.FnExactWindowDrop", spec := "fnExactWindowDrop", unfollowed := true, recurses := true, apart := false }
def FnExactWindowDropSaid : Prop := fnExactWindowDropRow.holds Try.pinned (OpenSpec.ofChange fnExactWindowDropSpec)

/-- ITS FALSE NEIGHBOUR: 'it returns false'. Refute it at one input. -/
def fnExactWindowDropWrong : ChangeSpec := { name := "fnExactWindowDrop", fn := fun _ => fun
  | [d] => { results := [.lit (.bool false)], args := [d] }
  | _ => none }
def FnExactWindowDropWrongFalsely : Prop := fnExactWindowDropRow.holds Try.pinned (OpenSpec.ofChange fnExactWindowDropWrong)

/-- 'laws.FnDrop': WHATEVER THE INPUT: true; the input reads as it did. -/
def fnDropSpec : ChangeSpec := { name := "fnDrop", fn := fun _ => fun
  | [d] => { results := [.lit (.bool true)], args := [d] }
  | _ => none }
def fnDropRow : OpenClaim := { program := "ytnljlehbjdambaa", sum := "0c0a9ed0fba1e68ad7456b001177fd5754aa91af1db9a480679dbd1ca9305524", func := "loop.example/g00477/laws.FnDrop", spec := "fnDrop", unfollowed := true, recurses := true, apart := false }
def FnDropSaid : Prop := fnDropRow.holds Try.pinned (OpenSpec.ofChange fnDropSpec)

/-- ITS FALSE NEIGHBOUR: 'it returns false'. Refute it at one input. -/
def fnDropWrong : ChangeSpec := { name := "fnDrop", fn := fun _ => fun
  | [d] => { results := [.lit (.bool false)], args := [d] }
  | _ => none }
def FnDropWrongFalsely : Prop := fnDropRow.holds Try.pinned (OpenSpec.ofChange fnDropWrong)

/-- 'laws.FnExactWindowAdd': WHATEVER THE INPUT: true; the input reads as it did. -/
def fnExactWindowAddSpec : ChangeSpec := { name := "fnExactWindowAdd", fn := fun _ => fun
  | [d1, d2] => { results := [.lit (.bool true)], args := [d1, d2] }
  | _ => none }
def fnExactWindowAddRow : OpenClaim := { program := "ytnljlehbjdambaa", sum := "0c0a9ed0fba1e68ad7456b001177fd5754aa91af1db9a480679dbd1ca9305524", func := "loop.example/g00477/laws.FnExactWindowAdd", spec := "fnExactWindowAdd", unfollowed := true, recurses := true, apart := false }
def FnExactWindowAddSaid : Prop := fnExactWindowAddRow.holds Try.pinned (OpenSpec.ofChange fnExactWindowAddSpec)

/-- ITS FALSE NEIGHBOUR: 'it returns false'. Refute it at one input. -/
def fnExactWindowAddWrong : ChangeSpec := { name := "fnExactWindowAdd", fn := fun _ => fun
  | [d1, d2] => { results := [.lit (.bool false)], args := [d1, d2] }
  | _ => none }
def FnExactWindowAddWrongFalsely : Prop := fnExactWindowAddRow.holds Try.pinned (OpenSpec.ofChange fnExactWindowAddWrong)

/-- 'laws.FnWindow': WHATEVER THE INPUT: true; the input reads as it did. -/
def fnWindowSpec : ChangeSpec := { name := "fnWindow", fn := fun _ => fun
  | [d] => { results := [.lit (.bool true)], args := [d] }
  | _ => none }
def fnWindowRow : OpenClaim := { program := "ytnljlehbjdambaa", sum := "0c0a9ed0fba1e68ad7456b001177fd5754aa91af1db9a480679dbd1ca9305524", func := "loop.example/g00477/laws.FnWindow", spec := "fnWindow", unfollowed := true, recurses := true, apart := false }
def FnWindowSaid : Prop := fnWindowRow.holds Try.pinned (OpenSpec.ofChange fnWindowSpec)

/-- ITS FALSE NEIGHBOUR: 'it returns false'. Refute it at one input. -/
def fnWindowWrong : ChangeSpec := { name := "fnWindow", fn := fun _ => fun
  | [d] => { results := [.lit (.bool false)], args := [d] }
  | _ => none }
def FnWindowWrongFalsely : Prop := fnWindowRow.holds Try.pinned (OpenSpec.ofChange fnWindowWrong)

/- THE SECOND FORM. 'bulk': how many values and letters a reading holds, each counted each time it is reached (what is shared counts as often as it is met; a slice's spare places count too). A statement '..UptoSaid' is the law's where the arguments, and the package variables that the reading takes, are together of bulk at most 1048576: NARROWER than '..Said'. Prove '..Said' where nothing that the law and all that it calls make is longer than what came in: it says more and counts as full. Else prove '..UptoSaid'. A law counts once. -/
mutual
def uptoBulk {H : Type} : DataW H → Nat
  | .lit (.string bytes) => bytes.length + 1
  | .lit _ => 1
  | .nil => 1
  | .ptr d => uptoBulk d + 1
  | .slice elems spare => uptoBulkAll elems + uptoBulkAll spare + 1
  | .agg parts => uptoBulkAll parts + 1
  | .iface _ d => uptoBulk d + 1
  | .map entries => uptoBulkEntries entries + 1
  | .held _ => 1
def uptoBulkAll {H : Type} : List (DataW H) → Nat
  | [] => 0
  | d :: r => uptoBulk d + uptoBulkAll r
def uptoBulkEntries {H : Type} : List (Lit × DataW H) → Nat
  | [] => 0
  | x :: r => uptoBulkEntry x + uptoBulkEntries r
def uptoBulkEntry {H : Type} : Lit × DataW H → Nat
  | (.string bytes, d) => bytes.length + uptoBulk d + 1
  | (_, d) => uptoBulk d + 1
 end
def uptoSmall : (H : Type) → List (DataW H) → Bool := fun _ ds => decide (uptoBulkAll ds ≤ 1048576)
def OpenSpec.upto (s : _root_.Go.ChangeSpec) : _root_.Go.OpenSpec := { _root_.Go.OpenSpec.ofChange s with cond := some uptoSmall }

/-- 'laws.FnSteady', WHERE WHAT IT READS IS OF BULK AT MOST 1048576: true; the input reads as it did. -/
def fnSteadyUptoRow : OpenClaim := { program := "ytnljlehbjdambaa", sum := "0c0a9ed0fba1e68ad7456b001177fd5754aa91af1db9a480679dbd1ca9305524", func := "loop.example/g00477/laws.FnSteady", spec := "fnSteady", unfollowed := true, recurses := true, apart := false, narrowed := true }
def FnSteadyUptoSaid : Prop := fnSteadyUptoRow.holds Try.pinned (OpenSpec.upto fnSteadySpec)

/-- 'laws.FnExactWindowDrop', WHERE WHAT IT READS IS OF BULK AT MOST 1048576: true; the input reads as it did. -/
def fnExactWindowDropUptoRow : OpenClaim := { program := "ytnljlehbjdambaa", sum := "0c0a9ed0fba1e68ad7456b001177fd5754aa91af1db9a480679dbd1ca9305524", func := "loop.example/g00477/laws.FnExactWindowDrop", spec := "fnExactWindowDrop", unfollowed := true, recurses := true, apart := false, narrowed := true }
def FnExactWindowDropUptoSaid : Prop := fnExactWindowDropUptoRow.holds Try.pinned (OpenSpec.upto fnExactWindowDropSpec)

/-- 'laws.FnDrop', WHERE WHAT IT READS IS OF BULK AT MOST 1048576: true; the input reads as it did. -/
def fnDropUptoRow : OpenClaim := { program := "ytnljlehbjdambaa", sum := "0c0a9ed0fba1e68ad7456b001177fd5754aa91af1db9a480679dbd1ca9305524", func := "loop.example/g00477/laws.FnDrop", spec := "fnDrop", unfollowed := true, recurses := true, apart := false, narrowed := true }
def FnDropUptoSaid : Prop := fnDropUptoRow.holds Try.pinned (OpenSpec.upto fnDropSpec)

/-- 'laws.FnExactWindowAdd', WHERE WHAT IT READS IS OF BULK AT MOST 1048576: true; the input reads as it did. -/
def fnExactWindowAddUptoRow : OpenClaim := { program := "ytnljlehbjdambaa", sum := "0c0a9ed0fba1e68ad7456b001177fd5754aa91af1db9a480679dbd1ca9305524", func := "loop.example/g00477/laws.FnExactWindowAdd", spec := "fnExactWindowAdd", unfollowed := true, recurses := true, apart := false, narrowed := true }
def FnExactWindowAddUptoSaid : Prop := fnExactWindowAddUptoRow.holds Try.pinned (OpenSpec.upto fnExactWindowAddSpec)

/-- 'laws.FnWindow', WHERE WHAT IT READS IS OF BULK AT MOST 1048576: true; the input reads as it did. -/
def fnWindowUptoRow : OpenClaim := { program := "ytnljlehbjdambaa", sum := "0c0a9ed0fba1e68ad7456b001177fd5754aa91af1db9a480679dbd1ca9305524", func := "loop.example/g00477/laws.FnWindow", spec := "fnWindow", unfollowed := true, recurses := true, apart := false, narrowed := true }
def FnWindowUptoSaid : Prop := fnWindowUptoRow.holds Try.pinned (OpenSpec.upto fnWindowSpec)

end Rows
end Go.Proofs.Ytnljlehbjdambaa
