/-
  DERIVED. GIVEN WITH THE SEED: THE CARDS: each row of YtchkmcikpamdeaaDoorRows.lean that lists a variable, with what it lists TIED to the program's text (the seventh form; the later family's looks); each row that meets fmt, with fmt's text TOLD by the authors' own Lean function (tested against real Go, not proved from fmt's source: count such statements apart). THE CARD IS WHAT COUNTS. Prove the row's statement (the work); the ties are given (YtchkmcikpamdeaaDoorTie.lean); close each card by the builder's one call (the guide's Derived/Test/ToyasCard.lean, 'card_holds'). Laid BY PROGRAM, IN A SANDBOX (cutbox-door.mjs). By AI agents, Wed Nov 11 2026. No macro, syntax, notation, axiom, sorry.
-/
import Derived.Test.YtchkmcikpamdeaaDoorRows
import GoSem.ClaimSeven
namespace Go.Proofs.YtchkmcikpamdeaaDoor
namespace Rows

/-- THE TIED CARD OF 'laws.FnExactForkText'. -/
def fnExactForkTextCard : Claim7 := { stood := { row := fnExactForkTextRow, standIns := [], harness := (true, "2532b35abd3b2030fb8c4bd463dd7841b59a6df0bbc4ddcff90a3440bf776286"), looks := false }, kinds := [], alts := [], laidByText := true, laidKinds := [.data, .data, .data], laidTests := true, laidLooks := .later }
def FnExactForkTextCardSaid : Prop := Claim7.holds Tryd.pinned (.plain (OpenSpec.ofChange fnExactForkTextSpec)) fnExactForkTextCard

/-- THE TIED CARD OF 'laws.FnCandidates'. -/
def fnCandidatesCard : Claim7 := { stood := { row := fnCandidatesRow, standIns := [], harness := (true, "2532b35abd3b2030fb8c4bd463dd7841b59a6df0bbc4ddcff90a3440bf776286"), looks := false }, kinds := [], alts := [], laidByText := true, laidKinds := [.data, .data, .data], laidTests := true, laidLooks := .later }
def FnCandidatesCardSaid : Prop := Claim7.holds Tryd.pinned (.plain (OpenSpec.ofChange fnCandidatesSpec)) fnCandidatesCard

/-- THE SECOND FORM's CARD OF 'laws.FnExactForkText'. -/
def fnExactForkTextUptoCard : Claim7 := { stood := { row := fnExactForkTextUptoRow, standIns := [], harness := (true, "2532b35abd3b2030fb8c4bd463dd7841b59a6df0bbc4ddcff90a3440bf776286"), looks := false }, kinds := [], alts := [], laidByText := true, laidKinds := [.data, .data, .data], laidTests := true, laidLooks := .later }
def FnExactForkTextUptoCardSaid : Prop := Claim7.holds Tryd.pinned (.plain (OpenSpec.upto fnExactForkTextSpec)) fnExactForkTextUptoCard

/-- THE SECOND FORM's CARD OF 'laws.FnCandidates'. -/
def fnCandidatesUptoCard : Claim7 := { stood := { row := fnCandidatesUptoRow, standIns := [], harness := (true, "2532b35abd3b2030fb8c4bd463dd7841b59a6df0bbc4ddcff90a3440bf776286"), looks := false }, kinds := [], alts := [], laidByText := true, laidKinds := [.data, .data, .data], laidTests := true, laidLooks := .later }
def FnCandidatesUptoCardSaid : Prop := Claim7.holds Tryd.pinned (.plain (OpenSpec.upto fnCandidatesSpec)) fnCandidatesUptoCard
end Rows
end Go.Proofs.YtchkmcikpamdeaaDoor
