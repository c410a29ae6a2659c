/-
  DERIVED. GIVEN WITH THE SEED: THE PROGRAM's TIES (one call each: nine closed facts by the kernel) AND EACH ROW's TIE, after the 31st guide's Derived/Test/Toyas{Tie, Card}.lean. No idea stands in it: it is a product of the set-up. Laid BY PROGRAM, IN A SANDBOX (cutbox-door.mjs). By AI agents, Wed Nov 11 2026. No macro, syntax, notation, axiom, sorry.
-/
import Derived.Test.YtlhmbncalonomaaDoorRows
import Derived.LaidByTextLater
import Derived.SevenTiedAt
import Derived.LaidSub
import Derived.LaidOnce
namespace Go.Proofs.YtlhmbncalonomaaDoor
open Go
set_option maxRecDepth 100000
theorem seatTie1 : Tryd.prog.laidByTextLater [("valise/tape.numbers", Rows.laid_valise_tape_numbers), ("valise/tape.name", Rows.laid_valise_tape_name), ("valise/tape.link", Rows.laid_valise_tape_link), ("valise/tape.user", Rows.laid_valise_tape_user), ("valise/tape.team", Rows.laid_valise_tape_team), ("valise/tape.prefix", Rows.laid_valise_tape_prefix), ("valise/tape.marks", Rows.laid_valise_tape_marks)] [.data, .data, .data, .data, .data, .data, .data] true :=
  Program.laidByTextLater_by_one 52 8 17 (by kernel_rfl) (by kernel_rfl) (by kernel_rfl) (by kernel_rfl) (by kernel_rfl) (by kernel_rfl) (fun _ _ => by kernel_rfl)
theorem noOwnUnsafe : Tryd.pinned.checked.prog.headLifts.contains "ownunsafe" = false := by kernel_rfl
theorem tie : Tryd.prog.laidByTextLater [("valise/tape.numbers", Rows.laid_valise_tape_numbers), ("valise/tape.name", Rows.laid_valise_tape_name), ("valise/tape.link", Rows.laid_valise_tape_link), ("valise/tape.user", Rows.laid_valise_tape_user), ("valise/tape.team", Rows.laid_valise_tape_team), ("valise/tape.prefix", Rows.laid_valise_tape_prefix), ("valise/tape.marks", Rows.laid_valise_tape_marks)] [.data, .data, .data, .data, .data, .data, .data] true :=
  Program.laidByTextLater.sub seatTie1 ["valise/tape.numbers", "valise/tape.name", "valise/tape.link", "valise/tape.user", "valise/tape.team", "valise/tape.prefix", "valise/tape.marks"] (by kernel_rfl) (by kernel_rfl)
theorem tapePuts_row_tie : Rows.tapePutsRow.laidByTextAt .later Tryd.pinned [.data, .data, .data, .data, .data, .data, .data] true :=
  OpenClaim.laidByTextAt_later rfl rfl tie noOwnUnsafe
theorem tapeGets_row_tie : Rows.tapeGetsRow.laidByTextAt .later Tryd.pinned [.data, .data, .data, .data, .data, .data, .data] true :=
  OpenClaim.laidByTextAt_later rfl rfl tie noOwnUnsafe
theorem tapeGoesBack_row_tie : Rows.tapeGoesBackRow.laidByTextAt .later Tryd.pinned [.data, .data, .data, .data, .data, .data, .data] true :=
  OpenClaim.laidByTextAt_later rfl rfl tie noOwnUnsafe
theorem tapeGetsAgain_row_tie : Rows.tapeGetsAgainRow.laidByTextAt .later Tryd.pinned [.data, .data, .data, .data, .data, .data, .data] true :=
  OpenClaim.laidByTextAt_later rfl rfl tie noOwnUnsafe
theorem tapeSpoilt_row_tie : Rows.tapeSpoiltRow.laidByTextAt .later Tryd.pinned [.data, .data, .data, .data, .data, .data, .data] true :=
  OpenClaim.laidByTextAt_later rfl rfl tie noOwnUnsafe
theorem tapeApart_row_tie : Rows.tapeApartRow.laidByTextAt .later Tryd.pinned [.data, .data, .data, .data, .data, .data, .data] true :=
  OpenClaim.laidByTextAt_later rfl rfl tie noOwnUnsafe
theorem tapePutsUpto_row_tie : Rows.tapePutsUptoRow.laidByTextAt .later Tryd.pinned [.data, .data, .data, .data, .data, .data, .data] true :=
  OpenClaim.laidByTextAt_later rfl rfl tie noOwnUnsafe
theorem tapeGetsUpto_row_tie : Rows.tapeGetsUptoRow.laidByTextAt .later Tryd.pinned [.data, .data, .data, .data, .data, .data, .data] true :=
  OpenClaim.laidByTextAt_later rfl rfl tie noOwnUnsafe
theorem tapeGoesBackUpto_row_tie : Rows.tapeGoesBackUptoRow.laidByTextAt .later Tryd.pinned [.data, .data, .data, .data, .data, .data, .data] true :=
  OpenClaim.laidByTextAt_later rfl rfl tie noOwnUnsafe
theorem tapeGetsAgainUpto_row_tie : Rows.tapeGetsAgainUptoRow.laidByTextAt .later Tryd.pinned [.data, .data, .data, .data, .data, .data, .data] true :=
  OpenClaim.laidByTextAt_later rfl rfl tie noOwnUnsafe
theorem tapeSpoiltUpto_row_tie : Rows.tapeSpoiltUptoRow.laidByTextAt .later Tryd.pinned [.data, .data, .data, .data, .data, .data, .data] true :=
  OpenClaim.laidByTextAt_later rfl rfl tie noOwnUnsafe
theorem tapeApartUpto_row_tie : Rows.tapeApartUptoRow.laidByTextAt .later Tryd.pinned [.data, .data, .data, .data, .data, .data, .data] true :=
  OpenClaim.laidByTextAt_later rfl rfl tie noOwnUnsafe
end Go.Proofs.YtlhmbncalonomaaDoor
