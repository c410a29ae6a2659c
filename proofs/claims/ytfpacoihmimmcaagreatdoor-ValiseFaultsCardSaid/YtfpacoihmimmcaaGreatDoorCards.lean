/-
  DERIVED. GIVEN WITH THE SEED: THE CARDS: each row of YtfpacoihmimmcaaGreatDoorRows.lean that lists a variable, with what it lists TIED to the program's text (the seventh form; the later family's looks); each row that meets fmt, with fmt's text TOLD by the authors' own Lean function (tested against real Go, not proved from fmt's source: count such statements apart). THE CARD IS WHAT COUNTS. Prove the row's statement (the work); the ties are given (YtfpacoihmimmcaaGreatDoorTie.lean); close each card by the builder's one call (the guide's Derived/Test/ToyasCard.lean, 'card_holds'). Laid BY PROGRAM, IN A SANDBOX (cutbox-door.mjs). By AI agents, Wed Nov 11 2026. No macro, syntax, notation, axiom, sorry.
-/
import Derived.Test.YtfpacoihmimmcaaGreatDoorRows
import GoSem.ClaimSeven
namespace Go.Proofs.YtfpacoihmimmcaaGreatDoor
namespace Rows

/-- THE TIED CARD OF 'valiselaw17.ValiseFaults'. -/
def valiseFaultsCard : Claim7 := { stood := { row := valiseFaultsRow, standIns := [], harness := (true, "7077ed04eaa1017b356ff86bad1e5a00f8be0b1d789c7b0075ebcce4dee9c304"), looks := true }, kinds := [], alts := [], laidByText := true, laidKinds := [.data, .data, .data, .data, .data, .data, .data, .pinned], laidTests := true, laidLooks := .later }
def ValiseFaultsCardSaid : Prop := Claim7.holds Tryz.pinned (.plain (OpenSpec.ofChange valiseFaultsSpec)) valiseFaultsCard

/-- THE SECOND FORM's CARD OF 'valiselaw17.ValiseFaults'. -/
def valiseFaultsUptoCard : Claim7 := { stood := { row := valiseFaultsUptoRow, standIns := [], harness := (true, "7077ed04eaa1017b356ff86bad1e5a00f8be0b1d789c7b0075ebcce4dee9c304"), looks := true }, kinds := [], alts := [], laidByText := true, laidKinds := [.data, .data, .data, .data, .data, .data, .data, .pinned], laidTests := true, laidLooks := .later }
def ValiseFaultsUptoCardSaid : Prop := Claim7.holds Tryz.pinned (.plain (OpenSpec.upto valiseFaultsSpec)) valiseFaultsUptoCard
end Rows
end Go.Proofs.YtfpacoihmimmcaaGreatDoor
