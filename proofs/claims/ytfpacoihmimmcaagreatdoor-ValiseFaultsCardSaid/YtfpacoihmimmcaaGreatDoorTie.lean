/-
  DERIVED. GIVEN WITH THE SEED: THE PROGRAM's TIES (one call each: nine closed facts by the kernel) AND EACH ROW's TIE, after the 31st guide's Derived/Test/Toyas{Tie, Card}.lean. No idea stands in it: it is a product of the set-up. Laid BY PROGRAM, IN A SANDBOX (cutbox-door.mjs). By AI agents, Wed Nov 11 2026. No macro, syntax, notation, axiom, sorry.
-/
import Derived.Test.YtfpacoihmimmcaaGreatDoorRows
import Derived.LaidByTextLater
import Derived.SevenTiedAt
import Derived.LaidSub
import Derived.LaidOnce
namespace Go.Proofs.YtfpacoihmimmcaaGreatDoor
open Go
set_option maxRecDepth 100000
theorem seatTie1 : Tryz.prog.laidByTextLater [("unicode/utf8.acceptRanges", Rows.laid_unicode_utf8_acceptRanges), ("valise/field.table", Rows.laid_valise_field_table), ("valise/header.order", Rows.laid_valise_header_order), ("valise/header.further", Rows.laid_valise_header_further), ("valise/header.least", Rows.laid_valise_header_least), ("valise/inflate.lengths", Rows.laid_valise_inflate_lengths), ("valise/inflate.distances", Rows.laid_valise_inflate_distances)] [.data, .data, .data, .data, .data, .data, .data] true :=
  Program.laidByTextLater_by_one 108 8 61 (by kernel_rfl) (by kernel_rfl) (by kernel_rfl) (by kernel_rfl) (by kernel_rfl) (by kernel_rfl) (fun _ _ => by kernel_rfl)
theorem pin_laid_unicode_utf8_first : Tryz.pinned.checked.prog.pinnedFits "unicode/utf8.first" = true := by kernel_rfl
theorem noOwnUnsafe : Tryz.pinned.checked.prog.headLifts.contains "ownunsafe" = false := by kernel_rfl
theorem fits1 : Tryz.pinned.checked.prog.listedFits [("unicode/utf8.acceptRanges", Rows.laid_unicode_utf8_acceptRanges), ("valise/field.table", Rows.laid_valise_field_table), ("valise/header.order", Rows.laid_valise_header_order), ("valise/header.further", Rows.laid_valise_header_further), ("valise/header.least", Rows.laid_valise_header_least), ("valise/inflate.lengths", Rows.laid_valise_inflate_lengths), ("valise/inflate.distances", Rows.laid_valise_inflate_distances), ("unicode/utf8.first", Rows.laid_unicode_utf8_first)] = true := by
  unfold Program.listedFits
  rw [noOwnUnsafe]
  kernel_rfl
theorem tie : Tryz.prog.laidByTextLater [("unicode/utf8.acceptRanges", Rows.laid_unicode_utf8_acceptRanges), ("valise/field.table", Rows.laid_valise_field_table), ("valise/header.order", Rows.laid_valise_header_order), ("valise/header.further", Rows.laid_valise_header_further), ("valise/header.least", Rows.laid_valise_header_least), ("valise/inflate.lengths", Rows.laid_valise_inflate_lengths), ("valise/inflate.distances", Rows.laid_valise_inflate_distances)] [.data, .data, .data, .data, .data, .data, .data] true :=
  Program.laidByTextLater.sub seatTie1 ["unicode/utf8.acceptRanges", "valise/field.table", "valise/header.order", "valise/header.further", "valise/header.least", "valise/inflate.lengths", "valise/inflate.distances"] (by kernel_rfl) (by kernel_rfl)
theorem valiseFaults_row_tie : Rows.valiseFaultsRow.laidByTextAt .later Tryz.pinned [.data, .data, .data, .data, .data, .data, .data, .pinned] true :=
  OpenClaim.laidByTextAt_pinned rfl rfl tie rfl rfl rfl rfl (fun y hy _e => by
    simp only [Rows.valiseFaultsRow, List.zip_cons_cons, List.zip_nil_right, List.mem_cons, List.mem_nil_iff, or_false] at hy
    rcases hy with rfl | rfl | rfl | rfl | rfl | rfl | rfl | rfl
    · cases _e
    · cases _e
    · cases _e
    · cases _e
    · cases _e
    · cases _e
    · cases _e
    · exact ⟨pin_laid_unicode_utf8_first, by kernel_rfl⟩) fits1
theorem valiseFaultsUpto_row_tie : Rows.valiseFaultsUptoRow.laidByTextAt .later Tryz.pinned [.data, .data, .data, .data, .data, .data, .data, .pinned] true :=
  OpenClaim.laidByTextAt_pinned rfl rfl tie rfl rfl rfl rfl (fun y hy _e => by
    simp only [Rows.valiseFaultsUptoRow, List.zip_cons_cons, List.zip_nil_right, List.mem_cons, List.mem_nil_iff, or_false] at hy
    rcases hy with rfl | rfl | rfl | rfl | rfl | rfl | rfl | rfl
    · cases _e
    · cases _e
    · cases _e
    · cases _e
    · cases _e
    · cases _e
    · cases _e
    · exact ⟨pin_laid_unicode_utf8_first, by kernel_rfl⟩) fits1
end Go.Proofs.YtfpacoihmimmcaaGreatDoor
