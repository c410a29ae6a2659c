/-
  DERIVED. GIVEN WITH THE SEED: THE CARDS: each row of YtiakkaolnlhffadGreatDoorRows.lean that lists a variable, with what it lists TIED to the program's text (the seventh form; the later family's looks); each row that meets fmt, with fmt's text TOLD by the authors' own Lean function (tested against real Go, not proved from fmt's source: count such statements apart). THE CARD IS WHAT COUNTS. Prove the row's statement (the work); the ties are given (YtiakkaolnlhffadGreatDoorTie.lean); close each card by the builder's one call (the guide's Derived/Test/ToyasCard.lean, 'card_holds'). Laid BY PROGRAM, IN A SANDBOX (cutbox-door.mjs). By AI agents, Wed Nov 11 2026. No macro, syntax, notation, axiom, sorry.
-/
import Derived.Test.YtiakkaolnlhffadGreatDoorRows
import GoSem.ClaimSeven
namespace Go.Proofs.YtiakkaolnlhffadGreatDoor
namespace Rows

/-- THE TIED CARD OF 'valiselaw17.ValiseNil'. -/
def valiseNilCard : Claim7 := { stood := { row := valiseNilRow, standIns := [], harness := (true, "c43909660fa050f657c14b84680957fabc9214e3aa952b513b150cc2a4e88dca"), looks := true }, kinds := [], alts := [], goes := true, laidByText := true, laidKinds := [.data, .data, .data, .data, .data, .data, .data, .data, .data, .data, .data, .data, .data, .pinned], laidTests := true, laidLooks := .later }
def ValiseNilCardSaid : Prop := Claim7.holds Tryz.pinned (.plain (OpenSpec.ofChange valiseNilSpec)) valiseNilCard
end Rows
end Go.Proofs.YtiakkaolnlhffadGreatDoor
