/-
  DERIVED. GIVEN WITH THE SEED: THE CARDS: each row of YtlhmbncalonomaaDoorRows.lean that lists a variable, with what it lists TIED to the program's text (the seventh form; the later family's looks); each row that meets fmt, with fmt's text TOLD by the authors' own Lean function (tested against real Go, not proved from fmt's source: count such statements apart). THE CARD IS WHAT COUNTS. Prove the row's statement (the work); the ties are given (YtlhmbncalonomaaDoorTie.lean); close each card by the builder's one call (the guide's Derived/Test/ToyasCard.lean, 'card_holds'). Laid BY PROGRAM, IN A SANDBOX (cutbox-door.mjs). By AI agents, Wed Nov 11 2026. No macro, syntax, notation, axiom, sorry.
-/
import Derived.Test.YtlhmbncalonomaaDoorRows
import GoSem.ClaimSeven
namespace Go.Proofs.YtlhmbncalonomaaDoor
namespace Rows

/-- THE TIED CARD OF 'valiselaw24.TapePuts'. -/
def tapePutsCard : Claim7 := { stood := { row := tapePutsRow, standIns := [], harness := (true, "28e7fc49452679d2cabaae0db96a7920a1297ee55f6fc0d5d76043d9eb01c3ab"), looks := false }, kinds := [], alts := [], laidByText := true, laidKinds := [.data, .data, .data, .data, .data, .data, .data], laidTests := true, laidLooks := .later }
def TapePutsCardSaid : Prop := Claim7.holds Tryd.pinned (.plain (OpenSpec.ofChange tapePutsSpec)) tapePutsCard

/-- THE TIED CARD OF 'valiselaw24.TapeGets'. -/
def tapeGetsCard : Claim7 := { stood := { row := tapeGetsRow, standIns := [], harness := (true, "28e7fc49452679d2cabaae0db96a7920a1297ee55f6fc0d5d76043d9eb01c3ab"), looks := false }, kinds := [], alts := [], laidByText := true, laidKinds := [.data, .data, .data, .data, .data, .data, .data], laidTests := true, laidLooks := .later }
def TapeGetsCardSaid : Prop := Claim7.holds Tryd.pinned (.plain (OpenSpec.ofChange tapeGetsSpec)) tapeGetsCard

/-- THE TIED CARD OF 'valiselaw24.TapeGoesBack'. -/
def tapeGoesBackCard : Claim7 := { stood := { row := tapeGoesBackRow, standIns := [], harness := (true, "28e7fc49452679d2cabaae0db96a7920a1297ee55f6fc0d5d76043d9eb01c3ab"), looks := false }, kinds := [], alts := [], laidByText := true, laidKinds := [.data, .data, .data, .data, .data, .data, .data], laidTests := true, laidLooks := .later }
def TapeGoesBackCardSaid : Prop := Claim7.holds Tryd.pinned (.plain (OpenSpec.ofChange tapeGoesBackSpec)) tapeGoesBackCard

/-- THE TIED CARD OF 'valiselaw24.TapeGetsAgain'. -/
def tapeGetsAgainCard : Claim7 := { stood := { row := tapeGetsAgainRow, standIns := [], harness := (true, "28e7fc49452679d2cabaae0db96a7920a1297ee55f6fc0d5d76043d9eb01c3ab"), looks := false }, kinds := [], alts := [], laidByText := true, laidKinds := [.data, .data, .data, .data, .data, .data, .data], laidTests := true, laidLooks := .later }
def TapeGetsAgainCardSaid : Prop := Claim7.holds Tryd.pinned (.plain (OpenSpec.ofChange tapeGetsAgainSpec)) tapeGetsAgainCard

/-- THE TIED CARD OF 'valiselaw24.TapeSpoilt'. -/
def tapeSpoiltCard : Claim7 := { stood := { row := tapeSpoiltRow, standIns := [], harness := (true, "28e7fc49452679d2cabaae0db96a7920a1297ee55f6fc0d5d76043d9eb01c3ab"), looks := false }, kinds := [], alts := [], laidByText := true, laidKinds := [.data, .data, .data, .data, .data, .data, .data], laidTests := true, laidLooks := .later }
def TapeSpoiltCardSaid : Prop := Claim7.holds Tryd.pinned (.plain (OpenSpec.ofChange tapeSpoiltSpec)) tapeSpoiltCard

/-- THE TIED CARD OF 'valiselaw24.TapeApart'. -/
def tapeApartCard : Claim7 := { stood := { row := tapeApartRow, standIns := [], harness := (true, "28e7fc49452679d2cabaae0db96a7920a1297ee55f6fc0d5d76043d9eb01c3ab"), looks := false }, kinds := [], alts := [], laidByText := true, laidKinds := [.data, .data, .data, .data, .data, .data, .data], laidTests := true, laidLooks := .later }
def TapeApartCardSaid : Prop := Claim7.holds Tryd.pinned (.plain (OpenSpec.ofChange tapeApartSpec)) tapeApartCard

/-- THE SECOND FORM's CARD OF 'valiselaw24.TapePuts'. -/
def tapePutsUptoCard : Claim7 := { stood := { row := tapePutsUptoRow, standIns := [], harness := (true, "28e7fc49452679d2cabaae0db96a7920a1297ee55f6fc0d5d76043d9eb01c3ab"), looks := false }, kinds := [], alts := [], laidByText := true, laidKinds := [.data, .data, .data, .data, .data, .data, .data], laidTests := true, laidLooks := .later }
def TapePutsUptoCardSaid : Prop := Claim7.holds Tryd.pinned (.plain (OpenSpec.upto tapePutsSpec)) tapePutsUptoCard

/-- THE SECOND FORM's CARD OF 'valiselaw24.TapeGets'. -/
def tapeGetsUptoCard : Claim7 := { stood := { row := tapeGetsUptoRow, standIns := [], harness := (true, "28e7fc49452679d2cabaae0db96a7920a1297ee55f6fc0d5d76043d9eb01c3ab"), looks := false }, kinds := [], alts := [], laidByText := true, laidKinds := [.data, .data, .data, .data, .data, .data, .data], laidTests := true, laidLooks := .later }
def TapeGetsUptoCardSaid : Prop := Claim7.holds Tryd.pinned (.plain (OpenSpec.upto tapeGetsSpec)) tapeGetsUptoCard

/-- THE SECOND FORM's CARD OF 'valiselaw24.TapeGoesBack'. -/
def tapeGoesBackUptoCard : Claim7 := { stood := { row := tapeGoesBackUptoRow, standIns := [], harness := (true, "28e7fc49452679d2cabaae0db96a7920a1297ee55f6fc0d5d76043d9eb01c3ab"), looks := false }, kinds := [], alts := [], laidByText := true, laidKinds := [.data, .data, .data, .data, .data, .data, .data], laidTests := true, laidLooks := .later }
def TapeGoesBackUptoCardSaid : Prop := Claim7.holds Tryd.pinned (.plain (OpenSpec.upto tapeGoesBackSpec)) tapeGoesBackUptoCard

/-- THE SECOND FORM's CARD OF 'valiselaw24.TapeGetsAgain'. -/
def tapeGetsAgainUptoCard : Claim7 := { stood := { row := tapeGetsAgainUptoRow, standIns := [], harness := (true, "28e7fc49452679d2cabaae0db96a7920a1297ee55f6fc0d5d76043d9eb01c3ab"), looks := false }, kinds := [], alts := [], laidByText := true, laidKinds := [.data, .data, .data, .data, .data, .data, .data], laidTests := true, laidLooks := .later }
def TapeGetsAgainUptoCardSaid : Prop := Claim7.holds Tryd.pinned (.plain (OpenSpec.upto tapeGetsAgainSpec)) tapeGetsAgainUptoCard

/-- THE SECOND FORM's CARD OF 'valiselaw24.TapeSpoilt'. -/
def tapeSpoiltUptoCard : Claim7 := { stood := { row := tapeSpoiltUptoRow, standIns := [], harness := (true, "28e7fc49452679d2cabaae0db96a7920a1297ee55f6fc0d5d76043d9eb01c3ab"), looks := false }, kinds := [], alts := [], laidByText := true, laidKinds := [.data, .data, .data, .data, .data, .data, .data], laidTests := true, laidLooks := .later }
def TapeSpoiltUptoCardSaid : Prop := Claim7.holds Tryd.pinned (.plain (OpenSpec.upto tapeSpoiltSpec)) tapeSpoiltUptoCard

/-- THE SECOND FORM's CARD OF 'valiselaw24.TapeApart'. -/
def tapeApartUptoCard : Claim7 := { stood := { row := tapeApartUptoRow, standIns := [], harness := (true, "28e7fc49452679d2cabaae0db96a7920a1297ee55f6fc0d5d76043d9eb01c3ab"), looks := false }, kinds := [], alts := [], laidByText := true, laidKinds := [.data, .data, .data, .data, .data, .data, .data], laidTests := true, laidLooks := .later }
def TapeApartUptoCardSaid : Prop := Claim7.holds Tryd.pinned (.plain (OpenSpec.upto tapeApartSpec)) tapeApartUptoCard
end Rows
end Go.Proofs.YtlhmbncalonomaaDoor
