/-
  DERIVED. GIVEN WITH THE SEED: THE CARDS: each row of YtiakkaolnlhffaaGreatDoorRows.lean that lists a variable, with what it lists TIED to the program's text (the seventh form; the later family's looks); each row that meets fmt, with fmt's text TOLD by the authors' own Lean function (tested against real Go, not proved from fmt's source: count such statements apart). THE CARD IS WHAT COUNTS. Prove the row's statement (the work); the ties are given (YtiakkaolnlhffaaGreatDoorTie.lean); close each card by the builder's one call (the guide's Derived/Test/ToyasCard.lean, 'card_holds'). Laid BY PROGRAM, IN A SANDBOX (cutbox-door.mjs). By AI agents, Wed Nov 11 2026. No macro, syntax, notation, axiom, sorry.
-/
import Derived.Test.YtiakkaolnlhffaaGreatDoorRows
import GoSem.ClaimSeven
namespace Go.Proofs.YtiakkaolnlhffaaGreatDoor
namespace Rows

/-- THE TIED CARD OF 'valiselaw26.MendNil'. -/
def mendNilCard : Claim7 := { stood := { row := mendNilRow, standIns := [], harness := (true, "624abed12961ffbf33ac661c978d2dcd35c8725cbd4b3d205c7a01ce00276615"), looks := true }, kinds := [], alts := [], laidByText := true, laidKinds := [.data, .data, .data, .data, .data, .data, .data, .pinned], laidTests := true, laidLooks := .later }
def MendNilCardSaid : Prop := Claim7.holds Tryz.pinned (.plain (OpenSpec.ofChange mendNilSpec)) mendNilCard

/-- THE SECOND FORM's CARD OF 'valiselaw26.MendNil'. -/
def mendNilUptoCard : Claim7 := { stood := { row := mendNilUptoRow, standIns := [], harness := (true, "624abed12961ffbf33ac661c978d2dcd35c8725cbd4b3d205c7a01ce00276615"), looks := true }, kinds := [], alts := [], laidByText := true, laidKinds := [.data, .data, .data, .data, .data, .data, .data, .pinned], laidTests := true, laidLooks := .later }
def MendNilUptoCardSaid : Prop := Claim7.holds Tryz.pinned (.plain (OpenSpec.upto mendNilSpec)) mendNilUptoCard
end Rows
end Go.Proofs.YtiakkaolnlhffaaGreatDoor
