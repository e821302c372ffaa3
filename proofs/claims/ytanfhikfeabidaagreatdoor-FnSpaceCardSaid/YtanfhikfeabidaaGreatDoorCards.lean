/-
  DERIVED. GIVEN WITH THE SEED: THE CARDS: each row of YtanfhikfeabidaaGreatDoorRows.lean that lists a variable, with what it lists TIED to the program's text (the seventh form; the later family's looks); each row that meets fmt, with fmt's text TOLD by the authors' own Lean function (tested against real Go, not proved from fmt's source: count such statements apart). THE CARD IS WHAT COUNTS. Prove the row's statement (the work); the ties are given (YtanfhikfeabidaaGreatDoorTie.lean); close each card by the builder's one call (the guide's Derived/Test/ToyasCard.lean, 'card_holds'). Laid BY PROGRAM, IN A SANDBOX (cutbox-door.mjs). By AI agents, Wed Nov 11 2026. No macro, syntax, notation, axiom, sorry.
-/
import Derived.Test.YtanfhikfeabidaaGreatDoorRows
import GoSem.ClaimSeven
namespace Go.Proofs.YtanfhikfeabidaaGreatDoor
namespace Rows

/-- THE TIED CARD OF 'laws.FnSpace'. -/
def fnSpaceCard : Claim7 := { stood := { row := fnSpaceRow, standIns := [], harness := (true, "1f5d9e29f5ba241a5902b900fd5797212b321844d3a278afec0d4615cf1f1747"), looks := true }, kinds := [], alts := [], goes := true, laidByText := true, laidKinds := [.data, .pinned], laidTests := true, laidLooks := .later }
def FnSpaceCardSaid : Prop := Claim7.holds Tryz.pinned (.plain (OpenSpec.ofChange fnSpaceSpec)) fnSpaceCard

/-- THE SECOND FORM's CARD OF 'laws.FnSpace'. -/
def fnSpaceUptoCard : Claim7 := { stood := { row := fnSpaceUptoRow, standIns := [], harness := (true, "1f5d9e29f5ba241a5902b900fd5797212b321844d3a278afec0d4615cf1f1747"), looks := true }, kinds := [], alts := [], goes := true, laidByText := true, laidKinds := [.data, .pinned], laidTests := true, laidLooks := .later }
def FnSpaceUptoCardSaid : Prop := Claim7.holds Tryz.pinned (.plain (OpenSpec.upto fnSpaceSpec)) fnSpaceUptoCard
end Rows
end Go.Proofs.YtanfhikfeabidaaGreatDoor
