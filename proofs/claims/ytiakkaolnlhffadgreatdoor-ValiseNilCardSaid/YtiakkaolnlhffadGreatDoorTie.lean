/-
  DERIVED. GIVEN WITH THE SEED: THE PROGRAM's TIES (one call each: nine closed facts by the kernel) AND EACH ROW's TIE, after the 31st guide's Derived/Test/Toyas{Tie, Card}.lean. No idea stands in it: it is a product of the set-up. Laid BY PROGRAM, IN A SANDBOX (cutbox-door.mjs). By AI agents, Wed Nov 11 2026. No macro, syntax, notation, axiom, sorry.
-/
import Derived.Test.YtiakkaolnlhffadGreatDoorRows
import Derived.LaidByTextLater
import Derived.SevenTiedAt
import Derived.LaidSub
import Derived.LaidOnce
namespace Go.Proofs.YtiakkaolnlhffadGreatDoor
open Go
set_option maxRecDepth 100000
theorem seatTie1 : Tryz.prog.laidByTextLater [("unicode/utf8.acceptRanges", Rows.laid_unicode_utf8_acceptRanges), ("valise/field.table", Rows.laid_valise_field_table), ("valise/header.order", Rows.laid_valise_header_order), ("valise/header.further", Rows.laid_valise_header_further), ("valise/header.least", Rows.laid_valise_header_least), ("valise/block.lengthBase", Rows.laid_valise_block_lengthBase), ("valise/block.lengthBits", Rows.laid_valise_block_lengthBits), ("valise/block.distBase", Rows.laid_valise_block_distBase), ("valise/block.distBits", Rows.laid_valise_block_distBits), ("valise/inflate.lengths", Rows.laid_valise_inflate_lengths), ("valise/inflate.distances", Rows.laid_valise_inflate_distances), ("valise/deflate.levels", Rows.laid_valise_deflate_levels), ("valise/record.days", Rows.laid_valise_record_days)] [.data, .data, .data, .data, .data, .data, .data, .data, .data, .data, .data, .data, .data] true :=
  Program.laidByTextLater_by_one 148 8 61 (by kernel_rfl) (by kernel_rfl) (by kernel_rfl) (by kernel_rfl) (by kernel_rfl) (by kernel_rfl) (fun _ _ => by kernel_rfl)
theorem pin_laid_unicode_utf8_first : Tryz.pinned.checked.prog.pinnedFits "unicode/utf8.first" = true := by kernel_rfl
theorem noOwnUnsafe : Tryz.pinned.checked.prog.headLifts.contains "ownunsafe" = false := by kernel_rfl
theorem fits1 : Tryz.pinned.checked.prog.listedFits [("unicode/utf8.acceptRanges", Rows.laid_unicode_utf8_acceptRanges), ("valise/field.table", Rows.laid_valise_field_table), ("valise/header.order", Rows.laid_valise_header_order), ("valise/header.further", Rows.laid_valise_header_further), ("valise/header.least", Rows.laid_valise_header_least), ("valise/block.lengthBase", Rows.laid_valise_block_lengthBase), ("valise/block.lengthBits", Rows.laid_valise_block_lengthBits), ("valise/block.distBase", Rows.laid_valise_block_distBase), ("valise/block.distBits", Rows.laid_valise_block_distBits), ("valise/inflate.lengths", Rows.laid_valise_inflate_lengths), ("valise/inflate.distances", Rows.laid_valise_inflate_distances), ("valise/deflate.levels", Rows.laid_valise_deflate_levels), ("valise/record.days", Rows.laid_valise_record_days), ("unicode/utf8.first", Rows.laid_unicode_utf8_first)] = true := by
  unfold Program.listedFits
  rw [noOwnUnsafe]
  kernel_rfl
theorem tie : Tryz.prog.laidByTextLater [("unicode/utf8.acceptRanges", Rows.laid_unicode_utf8_acceptRanges), ("valise/field.table", Rows.laid_valise_field_table), ("valise/header.order", Rows.laid_valise_header_order), ("valise/header.further", Rows.laid_valise_header_further), ("valise/header.least", Rows.laid_valise_header_least), ("valise/block.lengthBase", Rows.laid_valise_block_lengthBase), ("valise/block.lengthBits", Rows.laid_valise_block_lengthBits), ("valise/block.distBase", Rows.laid_valise_block_distBase), ("valise/block.distBits", Rows.laid_valise_block_distBits), ("valise/inflate.lengths", Rows.laid_valise_inflate_lengths), ("valise/inflate.distances", Rows.laid_valise_inflate_distances), ("valise/deflate.levels", Rows.laid_valise_deflate_levels), ("valise/record.days", Rows.laid_valise_record_days)] [.data, .data, .data, .data, .data, .data, .data, .data, .data, .data, .data, .data, .data] true :=
  Program.laidByTextLater.sub seatTie1 ["unicode/utf8.acceptRanges", "valise/field.table", "valise/header.order", "valise/header.further", "valise/header.least", "valise/block.lengthBase", "valise/block.lengthBits", "valise/block.distBase", "valise/block.distBits", "valise/inflate.lengths", "valise/inflate.distances", "valise/deflate.levels", "valise/record.days"] (by kernel_rfl) (by kernel_rfl)
theorem valiseNil_row_tie : Rows.valiseNilRow.laidByTextAt .later Tryz.pinned [.data, .data, .data, .data, .data, .data, .data, .data, .data, .data, .data, .data, .data, .pinned] true :=
  OpenClaim.laidByTextAt_pinned rfl rfl tie rfl rfl rfl rfl (fun y hy _e => by
    simp only [Rows.valiseNilRow, List.zip_cons_cons, List.zip_nil_right, List.mem_cons, List.mem_nil_iff, or_false] at hy
    rcases hy with rfl | rfl | rfl | rfl | rfl | rfl | rfl | rfl | rfl | rfl | rfl | rfl | rfl | rfl
    · cases _e
    · cases _e
    · cases _e
    · cases _e
    · cases _e
    · cases _e
    · cases _e
    · cases _e
    · cases _e
    · cases _e
    · cases _e
    · cases _e
    · cases _e
    · exact ⟨pin_laid_unicode_utf8_first, by kernel_rfl⟩) fits1
end Go.Proofs.YtiakkaolnlhffadGreatDoor
