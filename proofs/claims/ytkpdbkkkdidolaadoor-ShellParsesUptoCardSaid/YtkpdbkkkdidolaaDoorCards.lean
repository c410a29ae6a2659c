/-
  DERIVED. GIVEN WITH THE SEED: THE CARDS: each row of YtkpdbkkkdidolaaDoorRows.lean that lists a variable, with what it lists TIED to the program's text (the seventh form; the later family's looks); each row that meets fmt, with fmt's text TOLD by the authors' own Lean function (tested against real Go, not proved from fmt's source: count such statements apart). THE CARD IS WHAT COUNTS. Prove the row's statement (the work); the ties are given (YtkpdbkkkdidolaaDoorTie.lean); close each card by the builder's one call (the guide's Derived/Test/ToyasCard.lean, 'card_holds'). Laid BY PROGRAM, IN A SANDBOX (cutbox-door.mjs). By AI agents, Wed Nov 11 2026. No macro, syntax, notation, axiom, sorry.
-/
import Derived.Test.YtkpdbkkkdidolaaDoorRows
import GoSem.ClaimSeven
namespace Go.Proofs.YtkpdbkkkdidolaaDoor
namespace Rows

/-- THE TIED CARD OF 'valiselaw20.ShellParses'. -/
def shellParsesCard : Claim7 := { stood := { row := shellParsesRow, standIns := [], harness := (true, "72abe9aca17999e48056b76c341e514fa1cb335f8d30eaea1432a1de4171f2b9"), looks := false }, kinds := [], alts := [], laidByText := true, laidKinds := [.data, .pinned], laidTests := true, laidLooks := .later }
def ShellParsesCardSaid : Prop := Claim7.holds Tryd.pinned (.plain (OpenSpec.ofChange shellParsesSpec)) shellParsesCard

/-- THE SECOND FORM's CARD OF 'valiselaw20.ShellParses'. -/
def shellParsesUptoCard : Claim7 := { stood := { row := shellParsesUptoRow, standIns := [], harness := (true, "72abe9aca17999e48056b76c341e514fa1cb335f8d30eaea1432a1de4171f2b9"), looks := false }, kinds := [], alts := [], laidByText := true, laidKinds := [.data, .pinned], laidTests := true, laidLooks := .later }
def ShellParsesUptoCardSaid : Prop := Claim7.holds Tryd.pinned (.plain (OpenSpec.upto shellParsesSpec)) shellParsesUptoCard
end Rows
end Go.Proofs.YtkpdbkkkdidolaaDoor
