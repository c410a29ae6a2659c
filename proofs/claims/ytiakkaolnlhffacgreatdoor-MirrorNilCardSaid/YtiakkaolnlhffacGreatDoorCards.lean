/-
  DERIVED. GIVEN WITH THE SEED: THE CARDS: each row of YtiakkaolnlhffacGreatDoorRows.lean that lists a variable, with what it lists TIED to the program's text (the seventh form; the later family's looks); each row that meets fmt, with fmt's text TOLD by the authors' own Lean function (tested against real Go, not proved from fmt's source: count such statements apart). THE CARD IS WHAT COUNTS. Prove the row's statement (the work); the ties are given (YtiakkaolnlhffacGreatDoorTie.lean); close each card by the builder's one call (the guide's Derived/Test/ToyasCard.lean, 'card_holds'). Laid BY PROGRAM, IN A SANDBOX (cutbox-door.mjs). By AI agents, Wed Nov 11 2026. No macro, syntax, notation, axiom, sorry.
-/
import Derived.Test.YtiakkaolnlhffacGreatDoorRows
import GoSem.ClaimSeven
namespace Go.Proofs.YtiakkaolnlhffacGreatDoor
namespace Rows

/-- THE TIED CARD OF 'valiselaw25.MirrorNil'. -/
def mirrorNilCard : Claim7 := { stood := { row := mirrorNilRow, standIns := [], harness := (true, "2a22c27212c4c9f7f996e724b0b698bf47115ecd0050bd537418604ef9dc1317"), looks := true }, kinds := [], alts := [], goes := true, laidByText := true, laidKinds := [.data, .handle, .data, .data, .data, .data, .data, .data, .pinned, .data, .data, .data, .data, .data, .data], laidTests := true, laidLooks := .later }
def MirrorNilCardSaid : Prop := Claim7.holds Tryz.pinned (.plain (OpenSpec.ofChange mirrorNilSpec)) mirrorNilCard
end Rows
end Go.Proofs.YtiakkaolnlhffacGreatDoor
