/-
  No cell of these rows narrows 'for every input' (looked for: loops, veiled, ifaces, maps, wideKeys, modest, calm, conditions, laid).
  DERIVED. THE GIVEN ROWS OF THIS SEAT. 10 by the template 'for every input the law returns true; each argument reads behind the call as it read before'; 0 by the template 'total and deterministic' (their statements: YtgkefkbpdbokbaaTotals.lean).
  GIVEN WITH THE SEED: the statements are not yours to turn. If you find one false, say at which input.
  Laid BY PROGRAM, IN A SANDBOX (cutbox-rows.mjs): the forced cells as the released guide's own fill.sh prints them over the translation 5f3ce5d7d706633c… (all of the seat's roots in one cut). By AI agents, Wed Nov 11 2026. No macro, syntax, notation, axiom, sorry.
-/
import Derived.Test.YtgkefkbpdbokbaaChecked
import GoSem.Claim
import GoSem.ClaimJoined
import GoSem.ClaimMapViews
import Derived.JoinedTies
import Derived.KernelRfl
namespace Go.Proofs.Ytgkefkbpdbokbaa
/- THE CELL 'sum', in the pinned program and in every row, IS THE sha256 OF THE DUMP (.gsa) THAT YtgkefkbpdbokbaaProg.lean LOADS. Nothing in Lean hashes anything: it is a label: what it is worth is what the hold of that sum in a sandbox is worth. -/
noncomputable def Try.pinned : Pinned := { name := "ytgkefkbpdbokbaa", sum := "5f3ce5d7d706633c37e3db1b2b86e8dba31cac4b2b102a30c0932a1eb7112bb6", checked := Try.checked }
namespace Rows
def none {H : Type} : Left H := { results := [], args := [] }

/-- 'laws.FnExactAttrsOk': WHATEVER THE INPUT: true; the input reads as it did. -/
def fnExactAttrsOkSpec : ChangeSpec := { name := "fnExactAttrsOk", fn := fun _ => fun
  | [d1, d2] => { results := [.lit (.bool true)], args := [d1, d2] }
  | _ => none }
def fnExactAttrsOkRow : OpenClaim := { program := "ytgkefkbpdbokbaa", sum := "5f3ce5d7d706633c37e3db1b2b86e8dba31cac4b2b102a30c0932a1eb7112bb6", func := "loop.example/g00477/laws.FnExactAttrsOk", spec := "fnExactAttrsOk", unfollowed := true, recurses := true, apart := false }
def FnExactAttrsOkSaid : Prop := fnExactAttrsOkRow.holds Try.pinned (OpenSpec.ofChange fnExactAttrsOkSpec)

/-- ITS FALSE NEIGHBOUR: 'it returns false'. Refute it at one input. -/
def fnExactAttrsOkWrong : ChangeSpec := { name := "fnExactAttrsOk", fn := fun _ => fun
  | [d1, d2] => { results := [.lit (.bool false)], args := [d1, d2] }
  | _ => none }
def FnExactAttrsOkWrongFalsely : Prop := fnExactAttrsOkRow.holds Try.pinned (OpenSpec.ofChange fnExactAttrsOkWrong)

/-- 'laws.FnExactForkOk': WHATEVER THE INPUT: true; the input reads as it did. -/
def fnExactForkOkSpec : ChangeSpec := { name := "fnExactForkOk", fn := fun _ => fun
  | [d1, d2] => { results := [.lit (.bool true)], args := [d1, d2] }
  | _ => none }
def fnExactForkOkRow : OpenClaim := { program := "ytgkefkbpdbokbaa", sum := "5f3ce5d7d706633c37e3db1b2b86e8dba31cac4b2b102a30c0932a1eb7112bb6", func := "loop.example/g00477/laws.FnExactForkOk", spec := "fnExactForkOk", unfollowed := true, recurses := true, apart := false }
def FnExactForkOkSaid : Prop := fnExactForkOkRow.holds Try.pinned (OpenSpec.ofChange fnExactForkOkSpec)

/-- ITS FALSE NEIGHBOUR: 'it returns false'. Refute it at one input. -/
def fnExactForkOkWrong : ChangeSpec := { name := "fnExactForkOk", fn := fun _ => fun
  | [d1, d2] => { results := [.lit (.bool false)], args := [d1, d2] }
  | _ => none }
def FnExactForkOkWrongFalsely : Prop := fnExactForkOkRow.holds Try.pinned (OpenSpec.ofChange fnExactForkOkWrong)

/-- 'laws.FnExactBranches': WHATEVER THE INPUT: true; the input reads as it did. -/
def fnExactBranchesSpec : ChangeSpec := { name := "fnExactBranches", fn := fun _ => fun
  | [d1, d2] => { results := [.lit (.bool true)], args := [d1, d2] }
  | _ => none }
def fnExactBranchesRow : OpenClaim := { program := "ytgkefkbpdbokbaa", sum := "5f3ce5d7d706633c37e3db1b2b86e8dba31cac4b2b102a30c0932a1eb7112bb6", func := "loop.example/g00477/laws.FnExactBranches", spec := "fnExactBranches", unfollowed := true, recurses := true, apart := false }
def FnExactBranchesSaid : Prop := fnExactBranchesRow.holds Try.pinned (OpenSpec.ofChange fnExactBranchesSpec)

/-- ITS FALSE NEIGHBOUR: 'it returns false'. Refute it at one input. -/
def fnExactBranchesWrong : ChangeSpec := { name := "fnExactBranches", fn := fun _ => fun
  | [d1, d2] => { results := [.lit (.bool false)], args := [d1, d2] }
  | _ => none }
def FnExactBranchesWrongFalsely : Prop := fnExactBranchesRow.holds Try.pinned (OpenSpec.ofChange fnExactBranchesWrong)

/-- 'laws.FnExactBranchOf': WHATEVER THE INPUT: true; the input reads as it did. -/
def fnExactBranchOfSpec : ChangeSpec := { name := "fnExactBranchOf", fn := fun _ => fun
  | [d1, d2, d3] => { results := [.lit (.bool true)], args := [d1, d2, d3] }
  | _ => none }
def fnExactBranchOfRow : OpenClaim := { program := "ytgkefkbpdbokbaa", sum := "5f3ce5d7d706633c37e3db1b2b86e8dba31cac4b2b102a30c0932a1eb7112bb6", func := "loop.example/g00477/laws.FnExactBranchOf", spec := "fnExactBranchOf", unfollowed := true, recurses := true, apart := false }
def FnExactBranchOfSaid : Prop := fnExactBranchOfRow.holds Try.pinned (OpenSpec.ofChange fnExactBranchOfSpec)

/-- ITS FALSE NEIGHBOUR: 'it returns false'. Refute it at one input. -/
def fnExactBranchOfWrong : ChangeSpec := { name := "fnExactBranchOf", fn := fun _ => fun
  | [d1, d2, d3] => { results := [.lit (.bool false)], args := [d1, d2, d3] }
  | _ => none }
def FnExactBranchOfWrongFalsely : Prop := fnExactBranchOfRow.holds Try.pinned (OpenSpec.ofChange fnExactBranchOfWrong)

/-- 'laws.FnExactCandidates': WHATEVER THE INPUT: true; the input reads as it did. -/
def fnExactCandidatesSpec : ChangeSpec := { name := "fnExactCandidates", fn := fun _ => fun
  | [d1, d2, d3] => { results := [.lit (.bool true)], args := [d1, d2, d3] }
  | _ => none }
def fnExactCandidatesRow : OpenClaim := { program := "ytgkefkbpdbokbaa", sum := "5f3ce5d7d706633c37e3db1b2b86e8dba31cac4b2b102a30c0932a1eb7112bb6", func := "loop.example/g00477/laws.FnExactCandidates", spec := "fnExactCandidates", unfollowed := true, recurses := true, apart := false }
def FnExactCandidatesSaid : Prop := fnExactCandidatesRow.holds Try.pinned (OpenSpec.ofChange fnExactCandidatesSpec)

/-- ITS FALSE NEIGHBOUR: 'it returns false'. Refute it at one input. -/
def fnExactCandidatesWrong : ChangeSpec := { name := "fnExactCandidates", fn := fun _ => fun
  | [d1, d2, d3] => { results := [.lit (.bool false)], args := [d1, d2, d3] }
  | _ => none }
def FnExactCandidatesWrongFalsely : Prop := fnExactCandidatesRow.holds Try.pinned (OpenSpec.ofChange fnExactCandidatesWrong)

/-- 'laws.FnExactPromise': WHATEVER THE INPUT: true; the input reads as it did. -/
def fnExactPromiseSpec : ChangeSpec := { name := "fnExactPromise", fn := fun _ => fun
  | [d1, d2] => { results := [.lit (.bool true)], args := [d1, d2] }
  | _ => none }
def fnExactPromiseRow : OpenClaim := { program := "ytgkefkbpdbokbaa", sum := "5f3ce5d7d706633c37e3db1b2b86e8dba31cac4b2b102a30c0932a1eb7112bb6", func := "loop.example/g00477/laws.FnExactPromise", spec := "fnExactPromise", unfollowed := true, recurses := true, apart := false }
def FnExactPromiseSaid : Prop := fnExactPromiseRow.holds Try.pinned (OpenSpec.ofChange fnExactPromiseSpec)

/-- ITS FALSE NEIGHBOUR: 'it returns false'. Refute it at one input. -/
def fnExactPromiseWrong : ChangeSpec := { name := "fnExactPromise", fn := fun _ => fun
  | [d1, d2] => { results := [.lit (.bool false)], args := [d1, d2] }
  | _ => none }
def FnExactPromiseWrongFalsely : Prop := fnExactPromiseRow.holds Try.pinned (OpenSpec.ofChange fnExactPromiseWrong)

/-- 'laws.FnExactStatsPure': WHATEVER THE INPUT: true; the input reads as it did. -/
def fnExactStatsPureSpec : ChangeSpec := { name := "fnExactStatsPure", fn := fun _ => fun
  | [d1, d2] => { results := [.lit (.bool true)], args := [d1, d2] }
  | _ => none }
def fnExactStatsPureRow : OpenClaim := { program := "ytgkefkbpdbokbaa", sum := "5f3ce5d7d706633c37e3db1b2b86e8dba31cac4b2b102a30c0932a1eb7112bb6", func := "loop.example/g00477/laws.FnExactStatsPure", spec := "fnExactStatsPure", unfollowed := true, recurses := true, apart := false }
def FnExactStatsPureSaid : Prop := fnExactStatsPureRow.holds Try.pinned (OpenSpec.ofChange fnExactStatsPureSpec)

/-- ITS FALSE NEIGHBOUR: 'it returns false'. Refute it at one input. -/
def fnExactStatsPureWrong : ChangeSpec := { name := "fnExactStatsPure", fn := fun _ => fun
  | [d1, d2] => { results := [.lit (.bool false)], args := [d1, d2] }
  | _ => none }
def FnExactStatsPureWrongFalsely : Prop := fnExactStatsPureRow.holds Try.pinned (OpenSpec.ofChange fnExactStatsPureWrong)

/-- 'laws.FnExactBranchTotals': WHATEVER THE INPUT: true; the input reads as it did. -/
def fnExactBranchTotalsSpec : ChangeSpec := { name := "fnExactBranchTotals", fn := fun _ => fun
  | [d1, d2, d3, d4] => { results := [.lit (.bool true)], args := [d1, d2, d3, d4] }
  | _ => none }
def fnExactBranchTotalsRow : OpenClaim := { program := "ytgkefkbpdbokbaa", sum := "5f3ce5d7d706633c37e3db1b2b86e8dba31cac4b2b102a30c0932a1eb7112bb6", func := "loop.example/g00477/laws.FnExactBranchTotals", spec := "fnExactBranchTotals", unfollowed := true, recurses := true, apart := false }
def FnExactBranchTotalsSaid : Prop := fnExactBranchTotalsRow.holds Try.pinned (OpenSpec.ofChange fnExactBranchTotalsSpec)

/-- ITS FALSE NEIGHBOUR: 'it returns false'. Refute it at one input. -/
def fnExactBranchTotalsWrong : ChangeSpec := { name := "fnExactBranchTotals", fn := fun _ => fun
  | [d1, d2, d3, d4] => { results := [.lit (.bool false)], args := [d1, d2, d3, d4] }
  | _ => none }
def FnExactBranchTotalsWrongFalsely : Prop := fnExactBranchTotalsRow.holds Try.pinned (OpenSpec.ofChange fnExactBranchTotalsWrong)

/-- 'laws.FnExactStatsAdd': WHATEVER THE INPUT: true; the input reads as it did. -/
def fnExactStatsAddSpec : ChangeSpec := { name := "fnExactStatsAdd", fn := fun _ => fun
  | [d1, d2, d3, d4] => { results := [.lit (.bool true)], args := [d1, d2, d3, d4] }
  | _ => none }
def fnExactStatsAddRow : OpenClaim := { program := "ytgkefkbpdbokbaa", sum := "5f3ce5d7d706633c37e3db1b2b86e8dba31cac4b2b102a30c0932a1eb7112bb6", func := "loop.example/g00477/laws.FnExactStatsAdd", spec := "fnExactStatsAdd", unfollowed := true, recurses := true, apart := false }
def FnExactStatsAddSaid : Prop := fnExactStatsAddRow.holds Try.pinned (OpenSpec.ofChange fnExactStatsAddSpec)

/-- ITS FALSE NEIGHBOUR: 'it returns false'. Refute it at one input. -/
def fnExactStatsAddWrong : ChangeSpec := { name := "fnExactStatsAdd", fn := fun _ => fun
  | [d1, d2, d3, d4] => { results := [.lit (.bool false)], args := [d1, d2, d3, d4] }
  | _ => none }
def FnExactStatsAddWrongFalsely : Prop := fnExactStatsAddRow.holds Try.pinned (OpenSpec.ofChange fnExactStatsAddWrong)

/-- 'laws.FnExactMerit': WHATEVER THE INPUT: true; the input reads as it did. -/
def fnExactMeritSpec : ChangeSpec := { name := "fnExactMerit", fn := fun _ => fun
  | [d1, d2, d3] => { results := [.lit (.bool true)], args := [d1, d2, d3] }
  | _ => none }
def fnExactMeritRow : OpenClaim := { program := "ytgkefkbpdbokbaa", sum := "5f3ce5d7d706633c37e3db1b2b86e8dba31cac4b2b102a30c0932a1eb7112bb6", func := "loop.example/g00477/laws.FnExactMerit", spec := "fnExactMerit", unfollowed := true, recurses := true, apart := false }
def FnExactMeritSaid : Prop := fnExactMeritRow.holds Try.pinned (OpenSpec.ofChange fnExactMeritSpec)

/-- ITS FALSE NEIGHBOUR: 'it returns false'. Refute it at one input. -/
def fnExactMeritWrong : ChangeSpec := { name := "fnExactMerit", fn := fun _ => fun
  | [d1, d2, d3] => { results := [.lit (.bool false)], args := [d1, d2, d3] }
  | _ => none }
def FnExactMeritWrongFalsely : Prop := fnExactMeritRow.holds Try.pinned (OpenSpec.ofChange fnExactMeritWrong)

/- THE SECOND FORM. 'bulk': how many values and letters a reading holds, each counted each time it is reached (what is shared counts as often as it is met; a slice's spare places count too). A statement '..UptoSaid' is the law's where the arguments, and the package variables that the reading takes, are together of bulk at most 1048576: NARROWER than '..Said'. Prove '..Said' where nothing that the law and all that it calls make is longer than what came in: it says more and counts as full. Else prove '..UptoSaid'. A law counts once. -/
mutual
def uptoBulk {H : Type} : DataW H → Nat
  | .lit (.string bytes) => bytes.length + 1
  | .lit _ => 1
  | .nil => 1
  | .ptr d => uptoBulk d + 1
  | .slice elems spare => uptoBulkAll elems + uptoBulkAll spare + 1
  | .agg parts => uptoBulkAll parts + 1
  | .iface _ d => uptoBulk d + 1
  | .map entries => uptoBulkEntries entries + 1
  | .held _ => 1
def uptoBulkAll {H : Type} : List (DataW H) → Nat
  | [] => 0
  | d :: r => uptoBulk d + uptoBulkAll r
def uptoBulkEntries {H : Type} : List (Lit × DataW H) → Nat
  | [] => 0
  | x :: r => uptoBulkEntry x + uptoBulkEntries r
def uptoBulkEntry {H : Type} : Lit × DataW H → Nat
  | (.string bytes, d) => bytes.length + uptoBulk d + 1
  | (_, d) => uptoBulk d + 1
 end
def uptoSmall : (H : Type) → List (DataW H) → Bool := fun _ ds => decide (uptoBulkAll ds ≤ 1048576)
def OpenSpec.upto (s : _root_.Go.ChangeSpec) : _root_.Go.OpenSpec := { _root_.Go.OpenSpec.ofChange s with cond := some uptoSmall }

/-- 'laws.FnExactAttrsOk', WHERE WHAT IT READS IS OF BULK AT MOST 1048576: true; the input reads as it did. -/
def fnExactAttrsOkUptoRow : OpenClaim := { program := "ytgkefkbpdbokbaa", sum := "5f3ce5d7d706633c37e3db1b2b86e8dba31cac4b2b102a30c0932a1eb7112bb6", func := "loop.example/g00477/laws.FnExactAttrsOk", spec := "fnExactAttrsOk", unfollowed := true, recurses := true, apart := false, narrowed := true }
def FnExactAttrsOkUptoSaid : Prop := fnExactAttrsOkUptoRow.holds Try.pinned (OpenSpec.upto fnExactAttrsOkSpec)

/-- 'laws.FnExactForkOk', WHERE WHAT IT READS IS OF BULK AT MOST 1048576: true; the input reads as it did. -/
def fnExactForkOkUptoRow : OpenClaim := { program := "ytgkefkbpdbokbaa", sum := "5f3ce5d7d706633c37e3db1b2b86e8dba31cac4b2b102a30c0932a1eb7112bb6", func := "loop.example/g00477/laws.FnExactForkOk", spec := "fnExactForkOk", unfollowed := true, recurses := true, apart := false, narrowed := true }
def FnExactForkOkUptoSaid : Prop := fnExactForkOkUptoRow.holds Try.pinned (OpenSpec.upto fnExactForkOkSpec)

/-- 'laws.FnExactBranches', WHERE WHAT IT READS IS OF BULK AT MOST 1048576: true; the input reads as it did. -/
def fnExactBranchesUptoRow : OpenClaim := { program := "ytgkefkbpdbokbaa", sum := "5f3ce5d7d706633c37e3db1b2b86e8dba31cac4b2b102a30c0932a1eb7112bb6", func := "loop.example/g00477/laws.FnExactBranches", spec := "fnExactBranches", unfollowed := true, recurses := true, apart := false, narrowed := true }
def FnExactBranchesUptoSaid : Prop := fnExactBranchesUptoRow.holds Try.pinned (OpenSpec.upto fnExactBranchesSpec)

/-- 'laws.FnExactBranchOf', WHERE WHAT IT READS IS OF BULK AT MOST 1048576: true; the input reads as it did. -/
def fnExactBranchOfUptoRow : OpenClaim := { program := "ytgkefkbpdbokbaa", sum := "5f3ce5d7d706633c37e3db1b2b86e8dba31cac4b2b102a30c0932a1eb7112bb6", func := "loop.example/g00477/laws.FnExactBranchOf", spec := "fnExactBranchOf", unfollowed := true, recurses := true, apart := false, narrowed := true }
def FnExactBranchOfUptoSaid : Prop := fnExactBranchOfUptoRow.holds Try.pinned (OpenSpec.upto fnExactBranchOfSpec)

/-- 'laws.FnExactCandidates', WHERE WHAT IT READS IS OF BULK AT MOST 1048576: true; the input reads as it did. -/
def fnExactCandidatesUptoRow : OpenClaim := { program := "ytgkefkbpdbokbaa", sum := "5f3ce5d7d706633c37e3db1b2b86e8dba31cac4b2b102a30c0932a1eb7112bb6", func := "loop.example/g00477/laws.FnExactCandidates", spec := "fnExactCandidates", unfollowed := true, recurses := true, apart := false, narrowed := true }
def FnExactCandidatesUptoSaid : Prop := fnExactCandidatesUptoRow.holds Try.pinned (OpenSpec.upto fnExactCandidatesSpec)

/-- 'laws.FnExactPromise', WHERE WHAT IT READS IS OF BULK AT MOST 1048576: true; the input reads as it did. -/
def fnExactPromiseUptoRow : OpenClaim := { program := "ytgkefkbpdbokbaa", sum := "5f3ce5d7d706633c37e3db1b2b86e8dba31cac4b2b102a30c0932a1eb7112bb6", func := "loop.example/g00477/laws.FnExactPromise", spec := "fnExactPromise", unfollowed := true, recurses := true, apart := false, narrowed := true }
def FnExactPromiseUptoSaid : Prop := fnExactPromiseUptoRow.holds Try.pinned (OpenSpec.upto fnExactPromiseSpec)

/-- 'laws.FnExactStatsPure', WHERE WHAT IT READS IS OF BULK AT MOST 1048576: true; the input reads as it did. -/
def fnExactStatsPureUptoRow : OpenClaim := { program := "ytgkefkbpdbokbaa", sum := "5f3ce5d7d706633c37e3db1b2b86e8dba31cac4b2b102a30c0932a1eb7112bb6", func := "loop.example/g00477/laws.FnExactStatsPure", spec := "fnExactStatsPure", unfollowed := true, recurses := true, apart := false, narrowed := true }
def FnExactStatsPureUptoSaid : Prop := fnExactStatsPureUptoRow.holds Try.pinned (OpenSpec.upto fnExactStatsPureSpec)

/-- 'laws.FnExactBranchTotals', WHERE WHAT IT READS IS OF BULK AT MOST 1048576: true; the input reads as it did. -/
def fnExactBranchTotalsUptoRow : OpenClaim := { program := "ytgkefkbpdbokbaa", sum := "5f3ce5d7d706633c37e3db1b2b86e8dba31cac4b2b102a30c0932a1eb7112bb6", func := "loop.example/g00477/laws.FnExactBranchTotals", spec := "fnExactBranchTotals", unfollowed := true, recurses := true, apart := false, narrowed := true }
def FnExactBranchTotalsUptoSaid : Prop := fnExactBranchTotalsUptoRow.holds Try.pinned (OpenSpec.upto fnExactBranchTotalsSpec)

/-- 'laws.FnExactStatsAdd', WHERE WHAT IT READS IS OF BULK AT MOST 1048576: true; the input reads as it did. -/
def fnExactStatsAddUptoRow : OpenClaim := { program := "ytgkefkbpdbokbaa", sum := "5f3ce5d7d706633c37e3db1b2b86e8dba31cac4b2b102a30c0932a1eb7112bb6", func := "loop.example/g00477/laws.FnExactStatsAdd", spec := "fnExactStatsAdd", unfollowed := true, recurses := true, apart := false, narrowed := true }
def FnExactStatsAddUptoSaid : Prop := fnExactStatsAddUptoRow.holds Try.pinned (OpenSpec.upto fnExactStatsAddSpec)

/-- 'laws.FnExactMerit', WHERE WHAT IT READS IS OF BULK AT MOST 1048576: true; the input reads as it did. -/
def fnExactMeritUptoRow : OpenClaim := { program := "ytgkefkbpdbokbaa", sum := "5f3ce5d7d706633c37e3db1b2b86e8dba31cac4b2b102a30c0932a1eb7112bb6", func := "loop.example/g00477/laws.FnExactMerit", spec := "fnExactMerit", unfollowed := true, recurses := true, apart := false, narrowed := true }
def FnExactMeritUptoSaid : Prop := fnExactMeritUptoRow.holds Try.pinned (OpenSpec.upto fnExactMeritSpec)

end Rows
end Go.Proofs.Ytgkefkbpdbokbaa
