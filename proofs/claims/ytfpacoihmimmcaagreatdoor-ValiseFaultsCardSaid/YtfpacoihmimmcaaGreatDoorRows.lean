/-
  NARROWER THAN 'FOR EVERY INPUT', by the rows' own cells (each row's printed sentence says how): ValiseFaults: laid.
  DERIVED. THE GIVEN ROWS OF THIS SEAT. 1 by the template 'for every input the law returns true; each argument reads behind the call as it read before'; 0 by the template 'total and deterministic' (their statements: YtfpacoihmimmcaaGreatDoorTotals.lean).
  GIVEN WITH THE SEED: the statements are not yours to turn. If you find one false, say at which input.
  Laid BY PROGRAM, IN A SANDBOX (cutbox-rows.mjs): the forced cells as the released guide's own fill.sh prints them over the translation d1c6499a3bfc91b1… (all of the seat's roots in one cut). By AI agents, Wed Nov 11 2026. No macro, syntax, notation, axiom, sorry.
-/
import Derived.Test.YtfpacoihmimmcaaGreatDoorChecked
import GoSem.PinnedTables
import GoSem.Claim
import GoSem.ClaimJoined
import GoSem.ClaimMapViews
import Derived.JoinedTies
import Derived.KernelRfl
namespace Go.Proofs.YtfpacoihmimmcaaGreatDoor
/- THE CELL 'sum', in the pinned program and in every row, IS THE sha256 OF THE DUMP (.gsa) THAT YtfpacoihmimmcaaGreatDoorProg.lean LOADS. Nothing in Lean hashes anything: it is a label: what it is worth is what the hold of that sum in a sandbox is worth. -/
noncomputable def Tryz.pinned : Pinned := { name := "ytfpacoihmimmcaagreatdoor", sum := "d1c6499a3bfc91b1ae292fd65a49c6ceb22d5bb34f906cd591f0fe042a3110b7", checked := Tryz.checked }
namespace Rows
def none {H : Type} : Left H := { results := [], args := [] }

/- WHAT THE LISTED PACKAGE-LEVEL VARIABLES READ AS WHEN THE CALL BEGINS. Each datum BY PROGRAM (the guide's laid-datum.mjs) off the statement by which the dump's own 'gosem.cut.vars' lays the variable. In a bare row this is a premise. The card (YtfpacoihmimmcaaGreatDoorCards.lean) ties it to the program's text. -/
def laid_unicode_utf8_acceptRanges {H : Type} : DataW H := .agg [.agg [.lit (.int .u8 128), .lit (.int .u8 191)], .agg [.lit (.int .u8 160), .lit (.int .u8 191)], .agg [.lit (.int .u8 128), .lit (.int .u8 159)], .agg [.lit (.int .u8 144), .lit (.int .u8 191)], .agg [.lit (.int .u8 128), .lit (.int .u8 143)], .agg [.lit (.int .u8 0), .lit (.int .u8 0)], .agg [.lit (.int .u8 0), .lit (.int .u8 0)], .agg [.lit (.int .u8 0), .lit (.int .u8 0)], .agg [.lit (.int .u8 0), .lit (.int .u8 0)], .agg [.lit (.int .u8 0), .lit (.int .u8 0)], .agg [.lit (.int .u8 0), .lit (.int .u8 0)], .agg [.lit (.int .u8 0), .lit (.int .u8 0)], .agg [.lit (.int .u8 0), .lit (.int .u8 0)], .agg [.lit (.int .u8 0), .lit (.int .u8 0)], .agg [.lit (.int .u8 0), .lit (.int .u8 0)], .agg [.lit (.int .u8 0), .lit (.int .u8 0)]]
def laid_valise_field_table {H : Type} : DataW H := .agg [.lit (.int .u32 0), .lit (.int .u32 498536548), .lit (.int .u32 997073096), .lit (.int .u32 651767980), .lit (.int .u32 1994146192), .lit (.int .u32 1802195444), .lit (.int .u32 1303535960), .lit (.int .u32 1342533948), .lit (.int .u32 3988292384), .lit (.int .u32 4027552580), .lit (.int .u32 3604390888), .lit (.int .u32 3412177804), .lit (.int .u32 2607071920), .lit (.int .u32 2262029012), .lit (.int .u32 2685067896), .lit (.int .u32 3183342108)]
def laid_valise_header_order {H : Type} : DataW H := .agg [.lit (.int .i64 16), .lit (.int .i64 17), .lit (.int .i64 18), .lit (.int .i64 0), .lit (.int .i64 8), .lit (.int .i64 7), .lit (.int .i64 9), .lit (.int .i64 6), .lit (.int .i64 10), .lit (.int .i64 5), .lit (.int .i64 11), .lit (.int .i64 4), .lit (.int .i64 12), .lit (.int .i64 3), .lit (.int .i64 13), .lit (.int .i64 2), .lit (.int .i64 14), .lit (.int .i64 1), .lit (.int .i64 15)]
def laid_valise_header_further {H : Type} : DataW H := .agg [.lit (.int .i64 0), .lit (.int .i64 0), .lit (.int .i64 0), .lit (.int .i64 0), .lit (.int .i64 0), .lit (.int .i64 0), .lit (.int .i64 0), .lit (.int .i64 0), .lit (.int .i64 0), .lit (.int .i64 0), .lit (.int .i64 0), .lit (.int .i64 0), .lit (.int .i64 0), .lit (.int .i64 0), .lit (.int .i64 0), .lit (.int .i64 0), .lit (.int .i64 2), .lit (.int .i64 3), .lit (.int .i64 7)]
def laid_valise_header_least {H : Type} : DataW H := .agg [.lit (.int .i64 1), .lit (.int .i64 1), .lit (.int .i64 1), .lit (.int .i64 1), .lit (.int .i64 1), .lit (.int .i64 1), .lit (.int .i64 1), .lit (.int .i64 1), .lit (.int .i64 1), .lit (.int .i64 1), .lit (.int .i64 1), .lit (.int .i64 1), .lit (.int .i64 1), .lit (.int .i64 1), .lit (.int .i64 1), .lit (.int .i64 1), .lit (.int .i64 3), .lit (.int .i64 3), .lit (.int .i64 11)]
def laid_valise_inflate_lengths {H : Type} : DataW H := .agg [.agg [.lit (.int .i64 3), .lit (.int .i64 0)], .agg [.lit (.int .i64 4), .lit (.int .i64 0)], .agg [.lit (.int .i64 5), .lit (.int .i64 0)], .agg [.lit (.int .i64 6), .lit (.int .i64 0)], .agg [.lit (.int .i64 7), .lit (.int .i64 0)], .agg [.lit (.int .i64 8), .lit (.int .i64 0)], .agg [.lit (.int .i64 9), .lit (.int .i64 0)], .agg [.lit (.int .i64 10), .lit (.int .i64 0)], .agg [.lit (.int .i64 11), .lit (.int .i64 1)], .agg [.lit (.int .i64 13), .lit (.int .i64 1)], .agg [.lit (.int .i64 15), .lit (.int .i64 1)], .agg [.lit (.int .i64 17), .lit (.int .i64 1)], .agg [.lit (.int .i64 19), .lit (.int .i64 2)], .agg [.lit (.int .i64 23), .lit (.int .i64 2)], .agg [.lit (.int .i64 27), .lit (.int .i64 2)], .agg [.lit (.int .i64 31), .lit (.int .i64 2)], .agg [.lit (.int .i64 35), .lit (.int .i64 3)], .agg [.lit (.int .i64 43), .lit (.int .i64 3)], .agg [.lit (.int .i64 51), .lit (.int .i64 3)], .agg [.lit (.int .i64 59), .lit (.int .i64 3)], .agg [.lit (.int .i64 67), .lit (.int .i64 4)], .agg [.lit (.int .i64 83), .lit (.int .i64 4)], .agg [.lit (.int .i64 99), .lit (.int .i64 4)], .agg [.lit (.int .i64 115), .lit (.int .i64 4)], .agg [.lit (.int .i64 131), .lit (.int .i64 5)], .agg [.lit (.int .i64 163), .lit (.int .i64 5)], .agg [.lit (.int .i64 195), .lit (.int .i64 5)], .agg [.lit (.int .i64 227), .lit (.int .i64 5)], .agg [.lit (.int .i64 258), .lit (.int .i64 0)]]
def laid_valise_inflate_distances {H : Type} : DataW H := .agg [.agg [.lit (.int .i64 1), .lit (.int .i64 0)], .agg [.lit (.int .i64 2), .lit (.int .i64 0)], .agg [.lit (.int .i64 3), .lit (.int .i64 0)], .agg [.lit (.int .i64 4), .lit (.int .i64 0)], .agg [.lit (.int .i64 5), .lit (.int .i64 1)], .agg [.lit (.int .i64 7), .lit (.int .i64 1)], .agg [.lit (.int .i64 9), .lit (.int .i64 2)], .agg [.lit (.int .i64 13), .lit (.int .i64 2)], .agg [.lit (.int .i64 17), .lit (.int .i64 3)], .agg [.lit (.int .i64 25), .lit (.int .i64 3)], .agg [.lit (.int .i64 33), .lit (.int .i64 4)], .agg [.lit (.int .i64 49), .lit (.int .i64 4)], .agg [.lit (.int .i64 65), .lit (.int .i64 5)], .agg [.lit (.int .i64 97), .lit (.int .i64 5)], .agg [.lit (.int .i64 129), .lit (.int .i64 6)], .agg [.lit (.int .i64 193), .lit (.int .i64 6)], .agg [.lit (.int .i64 257), .lit (.int .i64 7)], .agg [.lit (.int .i64 385), .lit (.int .i64 7)], .agg [.lit (.int .i64 513), .lit (.int .i64 8)], .agg [.lit (.int .i64 769), .lit (.int .i64 8)], .agg [.lit (.int .i64 1025), .lit (.int .i64 9)], .agg [.lit (.int .i64 1537), .lit (.int .i64 9)], .agg [.lit (.int .i64 2049), .lit (.int .i64 10)], .agg [.lit (.int .i64 3073), .lit (.int .i64 10)], .agg [.lit (.int .i64 4097), .lit (.int .i64 11)], .agg [.lit (.int .i64 6145), .lit (.int .i64 11)], .agg [.lit (.int .i64 8193), .lit (.int .i64 12)], .agg [.lit (.int .i64 12289), .lit (.int .i64 12)], .agg [.lit (.int .i64 16385), .lit (.int .i64 13)], .agg [.lit (.int .i64 24577), .lit (.int .i64 13)]]
/-- One of Go's own tables, pinned by name: the form's constant. -/
def laid_unicode_utf8_first : DataW Unit := Go.Pinned.utf8First

/-- 'valiselaw17.ValiseFaults': WHATEVER THE INPUT: true; the input reads as it did. -/
def valiseFaultsSpec : ChangeSpec := { name := "valiseFaults", fn := fun _ => fun
  | [d1, d2] => { results := [.lit (.bool true)], args := [d1, d2] }
  | _ => none }
def valiseFaultsRow : OpenClaim := { program := "ytfpacoihmimmcaagreatdoor", sum := "d1c6499a3bfc91b1ae292fd65a49c6ceb22d5bb34f906cd591f0fe042a3110b7", func := "valise/valiselaw17.ValiseFaults", spec := "valiseFaults", inPlace := ["internal/bytealg.CountString", "internal/bytealg.IndexByteString", "internal/bytealg.IndexString", "(*internal/sync.Mutex).Lock", "internal/race.Disable", "sync/atomic.CompareAndSwapInt32", "internal/race.Enable", "internal/race.Acquire", "(*internal/sync.Mutex).lockSlow", "internal/sync.runtime_canSpin", "internal/sync.runtime_doSpin", "internal/sync.throw", "internal/sync.runtime_nanotime", "internal/sync.runtime_SemacquireMutex", "sync/atomic.AddInt32", "(*internal/sync.Mutex).Unlock", "internal/race.ReleaseMerge", "(*internal/sync.Mutex).unlockSlow", "internal/sync.fatal", "internal/sync.runtime_Semrelease", "internal/reflectlite.TypeOf"], unfollowed := true, recurses := true, named := ["unicode/utf8.first", "unicode/utf8.acceptRanges", "valise/field.table", "internal/bytealg.MaxLen", "valise/inflate.lengths", "valise/inflate.distances", "valise/header.order", "valise/header.further", "valise/header.least"], apart := false, laid := [("unicode/utf8.acceptRanges", laid_unicode_utf8_acceptRanges), ("valise/field.table", laid_valise_field_table), ("valise/header.order", laid_valise_header_order), ("valise/header.further", laid_valise_header_further), ("valise/header.least", laid_valise_header_least), ("valise/inflate.lengths", laid_valise_inflate_lengths), ("valise/inflate.distances", laid_valise_inflate_distances), ("unicode/utf8.first", laid_unicode_utf8_first)] }
def ValiseFaultsSaid : Prop := valiseFaultsRow.holds Tryz.pinned (OpenSpec.ofChange valiseFaultsSpec)

/-- ITS FALSE NEIGHBOUR: 'it returns false'. Refute it at one input. -/
def valiseFaultsWrong : ChangeSpec := { name := "valiseFaults", fn := fun _ => fun
  | [d1, d2] => { results := [.lit (.bool false)], args := [d1, d2] }
  | _ => none }
def ValiseFaultsWrongFalsely : Prop := valiseFaultsRow.holds Tryz.pinned (OpenSpec.ofChange valiseFaultsWrong)

/- THE SECOND FORM. 'bulk': how many values and letters a reading holds, each counted each time it is reached (what is shared counts as often as it is met; a slice's spare places count too). A statement '..UptoSaid' is the law's where the arguments, and the package variables that the reading takes, are together of bulk at most 1048576: NARROWER than '..Said'. Prove '..Said' where nothing that the law and all that it calls make is longer than what came in: it says more and counts as full. Else prove '..UptoSaid'. A law counts once. -/
mutual
def uptoBulk {H : Type} : DataW H → Nat
  | .lit (.string bytes) => bytes.length + 1
  | .lit _ => 1
  | .nil => 1
  | .ptr d => uptoBulk d + 1
  | .slice elems spare => uptoBulkAll elems + uptoBulkAll spare + 1
  | .agg parts => uptoBulkAll parts + 1
  | .iface _ d => uptoBulk d + 1
  | .map entries => uptoBulkEntries entries + 1
  | .held _ => 1
def uptoBulkAll {H : Type} : List (DataW H) → Nat
  | [] => 0
  | d :: r => uptoBulk d + uptoBulkAll r
def uptoBulkEntries {H : Type} : List (Lit × DataW H) → Nat
  | [] => 0
  | x :: r => uptoBulkEntry x + uptoBulkEntries r
def uptoBulkEntry {H : Type} : Lit × DataW H → Nat
  | (.string bytes, d) => bytes.length + uptoBulk d + 1
  | (_, d) => uptoBulk d + 1
 end
def uptoSmall : (H : Type) → List (DataW H) → Bool := fun _ ds => decide (uptoBulkAll ds ≤ 1048576)
def OpenSpec.upto (s : _root_.Go.ChangeSpec) : _root_.Go.OpenSpec := { _root_.Go.OpenSpec.ofChange s with cond := some uptoSmall }

/-- 'valiselaw17.ValiseFaults', WHERE WHAT IT READS IS OF BULK AT MOST 1048576: true; the input reads as it did. -/
def valiseFaultsUptoRow : OpenClaim := { program := "ytfpacoihmimmcaagreatdoor", sum := "d1c6499a3bfc91b1ae292fd65a49c6ceb22d5bb34f906cd591f0fe042a3110b7", func := "valise/valiselaw17.ValiseFaults", spec := "valiseFaults", inPlace := ["internal/bytealg.CountString", "internal/bytealg.IndexByteString", "internal/bytealg.IndexString", "(*internal/sync.Mutex).Lock", "internal/race.Disable", "sync/atomic.CompareAndSwapInt32", "internal/race.Enable", "internal/race.Acquire", "(*internal/sync.Mutex).lockSlow", "internal/sync.runtime_canSpin", "internal/sync.runtime_doSpin", "internal/sync.throw", "internal/sync.runtime_nanotime", "internal/sync.runtime_SemacquireMutex", "sync/atomic.AddInt32", "(*internal/sync.Mutex).Unlock", "internal/race.ReleaseMerge", "(*internal/sync.Mutex).unlockSlow", "internal/sync.fatal", "internal/sync.runtime_Semrelease", "internal/reflectlite.TypeOf"], unfollowed := true, recurses := true, named := ["unicode/utf8.first", "unicode/utf8.acceptRanges", "valise/field.table", "internal/bytealg.MaxLen", "valise/inflate.lengths", "valise/inflate.distances", "valise/header.order", "valise/header.further", "valise/header.least"], apart := false, laid := [("unicode/utf8.acceptRanges", laid_unicode_utf8_acceptRanges), ("valise/field.table", laid_valise_field_table), ("valise/header.order", laid_valise_header_order), ("valise/header.further", laid_valise_header_further), ("valise/header.least", laid_valise_header_least), ("valise/inflate.lengths", laid_valise_inflate_lengths), ("valise/inflate.distances", laid_valise_inflate_distances), ("unicode/utf8.first", laid_unicode_utf8_first)], narrowed := true }
def ValiseFaultsUptoSaid : Prop := valiseFaultsUptoRow.holds Tryz.pinned (OpenSpec.upto valiseFaultsSpec)

end Rows
end Go.Proofs.YtfpacoihmimmcaaGreatDoor
