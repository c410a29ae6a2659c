/- The row's tie, of an own making: the facts one by one. -/
import Derived.Test.YtiakkaolnlhffacGreatDoorRows
import Derived.LaidByTextLater
import Derived.SevenTiedAt
import Derived.Deep.DeepLaidRun
import Derived.LaidHandle
namespace Go.Proofs.YtiakkaolnlhffacGreatDoor.Ti
open Go
set_option maxRecDepth 100000
def tieList : List (String × DataW Unit) := [("valise/record.days", Rows.laid_valise_record_days), ("errors.errorType", Rows.laid_errors_errorType), ("valise/inflate.lengths", Rows.laid_valise_inflate_lengths), ("valise/inflate.distances", Rows.laid_valise_inflate_distances), ("valise/header.order", Rows.laid_valise_header_order), ("valise/header.further", Rows.laid_valise_header_further), ("valise/header.least", Rows.laid_valise_header_least), ("valise/field.table", Rows.laid_valise_field_table), ("unicode/utf8.acceptRanges", Rows.laid_unicode_utf8_acceptRanges), ("valise/deflate.levels", Rows.laid_valise_deflate_levels), ("valise/block.lengthBase", Rows.laid_valise_block_lengthBase), ("valise/block.lengthBits", Rows.laid_valise_block_lengthBits), ("valise/block.distBase", Rows.laid_valise_block_distBase), ("valise/block.distBits", Rows.laid_valise_block_distBits)]
theorem byRun3 {P : Program} {laid : List (String × DataW Unit)} {kinds : List LaidKind} {tests : Bool} (n fuel : Nat)
    (hw : P.worded (varsWordLater tests) = true) (hw' : P.worded (varsWordLater !tests) = false) (hroot : P.worded rootWordLater = true) (hk : laid.map (fun x => P.kindOfLater x.1) = kinds.map some)
    (hg : (P.funcNamed "gosem.cut.vars").isSome = true)
    (hn : varsNamedLaterB P (varsId P) laid = true)
    (hd : ∀ os tape, varsDone P n (varsId P) os tape = true)
    (h1 : ∀ os tape, (DataW.laidRun P (varsWorld P n (varsId P) os tape).memory fuel ((laid.filter fun x => x.2.handleName?.isNone).map (·.1))).map (·.1) = some (laid.filter fun x => x.2.handleName?.isNone))
    (h2 : ∀ os tape, (DataW.laidRun P (varsWorld P n (varsId P) os tape).memory fuel ((laid.filter fun x => x.2.handleName?.isNone).map (·.1))).map (fun x => nodupB (x.2.map MemPlace.codeOf)) = some true)
    (h2' : ∀ os tape, (DataW.laidRun P (varsWorld P n (varsId P) os tape).memory fuel ((laid.filter fun x => x.2.handleName?.isNone).map (·.1))).map (fun x => laidRowsB P (varsWorld P n (varsId P) os tape).memory x.2) = some true)
    (h3 : ∀ os tape, (laid.filter fun x => x.2.handleName?.isSome).all (handleAtB P (varsWorld P n (varsId P) os tape).memory) = true) :
    P.laidByTextLater laid kinds tests := by
  unfold varsNamedLaterB at hn
  cases hc : (P.funcs[varsId P]?).bind (·.body) with
  | none => simp [hc] at hn
  | some code =>
   cases hs : code.laysInOrder [] with
   | none => simp [hc, hs] at hn
   | some stored =>
    simp only [hc, hs, Bool.and_eq_true] at hn
    refine ⟨⟨hw, hw', hroot, hk⟩, varsId P, code, stored, varsId_spec hg, hc, ⟨hs, hn.1.1, hn.1.2⟩, hn.2, fun os tape _ => ?_⟩
    have d := hd os tape
    have m := laidMet_of_run3 fuel (h1 os tape) (h2 os tape) (h2' os tape)
    have hh := h3 os tape
    unfold varsDone at d
    unfold varsWorld at m hh
    cases hr : runN P n (Machine.entering P (World.unlaid P os) tape (varsId P) ⟨#[], #[], []⟩) with
    | next mm => simp [hr] at d
    | ended o w =>
      cases o with
      | done v => simp only [hr] at m hh; exact ⟨n, v, w, hr, laidMetH_of_parts m hh⟩
      | _ => simp [hr] at d
theorem a1 : Tryz.prog.worded (varsWordLater true) = true := by kernel_rfl
theorem a2 : Tryz.prog.worded (varsWordLater !true) = false := by kernel_rfl
theorem a3 : Tryz.prog.worded rootWordLater = true := by kernel_rfl
theorem a4 : tieList.map (fun x => Tryz.prog.kindOfLater x.1) = ([.data, .handle, .data, .data, .data, .data, .data, .data, .data, .data, .data, .data, .data, .data] : List LaidKind).map some := by kernel_rfl
theorem a5 : (Tryz.prog.funcNamed "gosem.cut.vars").isSome = true := by kernel_rfl
theorem a6 : varsNamedLaterB Tryz.prog (varsId Tryz.prog) tieList = true := by kernel_rfl
theorem a7 (os : Os) (tape : Tape) : varsDone Tryz.prog 400 (varsId Tryz.prog) os tape = true := by kernel_rfl
theorem a8 (os : Os) (tape : Tape) : (DataW.laidRun Tryz.prog (varsWorld Tryz.prog 400 (varsId Tryz.prog) os tape).memory 8 ((tieList.filter fun x => x.2.handleName?.isNone).map (·.1))).map (·.1) = some (tieList.filter fun x => x.2.handleName?.isNone) := by kernel_rfl
theorem a9 (os : Os) (tape : Tape) : (DataW.laidRun Tryz.prog (varsWorld Tryz.prog 400 (varsId Tryz.prog) os tape).memory 8 ((tieList.filter fun x => x.2.handleName?.isNone).map (·.1))).map (fun x => nodupB (x.2.map MemPlace.codeOf)) = some true := by kernel_rfl
theorem a10 (os : Os) (tape : Tape) : (DataW.laidRun Tryz.prog (varsWorld Tryz.prog 400 (varsId Tryz.prog) os tape).memory 8 ((tieList.filter fun x => x.2.handleName?.isNone).map (·.1))).map (fun x => laidRowsB Tryz.prog (varsWorld Tryz.prog 400 (varsId Tryz.prog) os tape).memory x.2) = some true := by kernel_rfl
theorem a11 (os : Os) (tape : Tape) : (tieList.filter fun x => x.2.handleName?.isSome).all (handleAtB Tryz.prog (varsWorld Tryz.prog 400 (varsId Tryz.prog) os tape).memory) = true := by kernel_rfl
end Go.Proofs.YtiakkaolnlhffacGreatDoor.Ti
namespace Go.Proofs.YtiakkaolnlhffacGreatDoor
open Go
theorem pin_laid_unicode_utf8_first : Tryz.pinned.checked.prog.pinnedFits "unicode/utf8.first" = true := by kernel_rfl
theorem noOwnUnsafe : Tryz.pinned.checked.prog.headLifts.contains "ownunsafe" = false := by kernel_rfl
theorem fits1 : Tryz.pinned.checked.prog.listedFits [("valise/record.days", Rows.laid_valise_record_days), ("errors.errorType", Rows.laid_errors_errorType), ("valise/inflate.lengths", Rows.laid_valise_inflate_lengths), ("valise/inflate.distances", Rows.laid_valise_inflate_distances), ("valise/header.order", Rows.laid_valise_header_order), ("valise/header.further", Rows.laid_valise_header_further), ("valise/header.least", Rows.laid_valise_header_least), ("valise/field.table", Rows.laid_valise_field_table), ("unicode/utf8.first", Rows.laid_unicode_utf8_first), ("unicode/utf8.acceptRanges", Rows.laid_unicode_utf8_acceptRanges), ("valise/deflate.levels", Rows.laid_valise_deflate_levels), ("valise/block.lengthBase", Rows.laid_valise_block_lengthBase), ("valise/block.lengthBits", Rows.laid_valise_block_lengthBits), ("valise/block.distBase", Rows.laid_valise_block_distBase), ("valise/block.distBits", Rows.laid_valise_block_distBits)] = true := by
  unfold Program.listedFits
  rw [noOwnUnsafe]
  kernel_rfl
theorem tie : Tryz.prog.laidByTextLater Ti.tieList [.data, .handle, .data, .data, .data, .data, .data, .data, .data, .data, .data, .data, .data, .data] true :=
  Ti.byRun3 400 8 Ti.a1 Ti.a2 Ti.a3 Ti.a4 Ti.a5 Ti.a6 Ti.a7 Ti.a8 Ti.a9 Ti.a10 Ti.a11
theorem mirrorNil_row_tie : Rows.mirrorNilRow.laidByTextAt .later Tryz.pinned [.data, .handle, .data, .data, .data, .data, .data, .data, .pinned, .data, .data, .data, .data, .data, .data] true :=
  OpenClaim.laidByTextAt_pinned rfl rfl tie rfl rfl rfl rfl (fun y hy _e => by
    simp only [Rows.mirrorNilRow, List.zip_cons_cons, List.zip_nil_right, List.mem_cons, List.mem_nil_iff, or_false] at hy
    rcases hy with rfl | rfl | rfl | rfl | rfl | rfl | rfl | rfl | rfl | rfl | rfl | rfl | rfl | rfl | rfl
    · cases _e
    · cases _e
    · cases _e
    · cases _e
    · cases _e
    · cases _e
    · cases _e
    · cases _e
    · exact ⟨pin_laid_unicode_utf8_first, by kernel_rfl⟩
    · cases _e
    · cases _e
    · cases _e
    · cases _e
    · cases _e
    · cases _e) fits1
end Go.Proofs.YtiakkaolnlhffacGreatDoor
