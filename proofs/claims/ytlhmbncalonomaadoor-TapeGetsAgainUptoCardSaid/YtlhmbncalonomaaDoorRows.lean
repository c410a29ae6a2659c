/-
  NARROWER THAN 'FOR EVERY INPUT', by the rows' own cells (each row's printed sentence says how): TapePuts: laid · TapeGets: laid · TapeGoesBack: laid · TapeGetsAgain: laid · TapeSpoilt: laid · TapeApart: laid.
  DERIVED. THE GIVEN ROWS OF THIS SEAT. 6 by the template 'for every input the law returns true; each argument reads behind the call as it read before'; 0 by the template 'total and deterministic' (their statements: YtlhmbncalonomaaDoorTotals.lean).
  GIVEN WITH THE SEED: the statements are not yours to turn. If you find one false, say at which input.
  Laid BY PROGRAM, IN A SANDBOX (cutbox-rows.mjs): the forced cells as the released guide's own fill.sh prints them over the translation 91cb3aea6c7497f7… (all of the seat's roots in one cut). By AI agents, Wed Nov 11 2026. No macro, syntax, notation, axiom, sorry.
-/
import Derived.Test.YtlhmbncalonomaaDoorChecked
import GoSem.Claim
import GoSem.ClaimJoined
import GoSem.ClaimMapViews
import Derived.JoinedTies
import Derived.KernelRfl
namespace Go.Proofs.YtlhmbncalonomaaDoor
/- THE CELL 'sum', in the pinned program and in every row, IS THE sha256 OF THE DUMP (.gsa) THAT YtlhmbncalonomaaDoorProg.lean LOADS. Nothing in Lean hashes anything: it is a label: what it is worth is what the hold of that sum in a sandbox is worth. -/
noncomputable def Tryd.pinned : Pinned := { name := "ytlhmbncalonomaadoor", sum := "91cb3aea6c7497f7cd886742fd0a5ae2fbf91e89c560c0327a377eca49c8f002", checked := Tryd.checked }
namespace Rows
def none {H : Type} : Left H := { results := [], args := [] }

/- WHAT THE LISTED PACKAGE-LEVEL VARIABLES READ AS WHEN THE CALL BEGINS. Each datum BY PROGRAM (the guide's laid-datum.mjs) off the statement by which the dump's own 'gosem.cut.vars' lays the variable. In a bare row this is a premise. The card (YtlhmbncalonomaaDoorCards.lean) ties it to the program's text. -/
def laid_valise_tape_numbers {H : Type} : DataW H := .agg [.agg [.lit (.int .i64 100), .lit (.int .i64 8)], .agg [.lit (.int .i64 108), .lit (.int .i64 8)], .agg [.lit (.int .i64 116), .lit (.int .i64 8)], .agg [.lit (.int .i64 124), .lit (.int .i64 12)], .agg [.lit (.int .i64 136), .lit (.int .i64 12)], .agg [.lit (.int .i64 148), .lit (.int .i64 8)], .agg [.lit (.int .i64 329), .lit (.int .i64 8)], .agg [.lit (.int .i64 337), .lit (.int .i64 8)]]
def laid_valise_tape_name {H : Type} : DataW H := .agg [.lit (.int .i64 0), .lit (.int .i64 100)]
def laid_valise_tape_link {H : Type} : DataW H := .agg [.lit (.int .i64 157), .lit (.int .i64 100)]
def laid_valise_tape_user {H : Type} : DataW H := .agg [.lit (.int .i64 265), .lit (.int .i64 32)]
def laid_valise_tape_team {H : Type} : DataW H := .agg [.lit (.int .i64 297), .lit (.int .i64 32)]
def laid_valise_tape_prefix {H : Type} : DataW H := .agg [.lit (.int .i64 345), .lit (.int .i64 155)]
def laid_valise_tape_marks {H : Type} : DataW H := .agg [.lit (.int .i64 257), .lit (.int .i64 8)]

/-- 'valiselaw24.TapePuts': WHATEVER THE INPUT: true; the input reads as it did. -/
def tapePutsSpec : ChangeSpec := { name := "tapePuts", fn := fun _ => fun
  | [d] => { results := [.lit (.bool true)], args := [d] }
  | _ => none }
def tapePutsRow : OpenClaim := { program := "ytlhmbncalonomaadoor", sum := "91cb3aea6c7497f7cd886742fd0a5ae2fbf91e89c560c0327a377eca49c8f002", func := "valise/valiselaw24.TapePuts", spec := "tapePuts", inPlace := ["internal/bytealg.IndexByteString", "internal/bytealg.IndexString"], named := ["internal/bytealg.MaxLen", "valise/tape.name", "valise/tape.prefix", "valise/tape.link", "valise/tape.user", "valise/tape.team", "valise/tape.marks", "valise/tape.numbers"], apart := false, laid := [("valise/tape.numbers", laid_valise_tape_numbers), ("valise/tape.name", laid_valise_tape_name), ("valise/tape.link", laid_valise_tape_link), ("valise/tape.user", laid_valise_tape_user), ("valise/tape.team", laid_valise_tape_team), ("valise/tape.prefix", laid_valise_tape_prefix), ("valise/tape.marks", laid_valise_tape_marks)] }
def TapePutsSaid : Prop := tapePutsRow.holds Tryd.pinned (OpenSpec.ofChange tapePutsSpec)

/-- ITS FALSE NEIGHBOUR: 'it returns false'. Refute it at one input. -/
def tapePutsWrong : ChangeSpec := { name := "tapePuts", fn := fun _ => fun
  | [d] => { results := [.lit (.bool false)], args := [d] }
  | _ => none }
def TapePutsWrongFalsely : Prop := tapePutsRow.holds Tryd.pinned (OpenSpec.ofChange tapePutsWrong)

/-- 'valiselaw24.TapeGets': WHATEVER THE INPUT: true; the input reads as it did. -/
def tapeGetsSpec : ChangeSpec := { name := "tapeGets", fn := fun _ => fun
  | [d] => { results := [.lit (.bool true)], args := [d] }
  | _ => none }
def tapeGetsRow : OpenClaim := { program := "ytlhmbncalonomaadoor", sum := "91cb3aea6c7497f7cd886742fd0a5ae2fbf91e89c560c0327a377eca49c8f002", func := "valise/valiselaw24.TapeGets", spec := "tapeGets", inPlace := ["internal/bytealg.IndexByteString", "internal/bytealg.IndexString"], named := ["valise/tape.numbers", "valise/tape.marks", "valise/tape.name", "valise/tape.prefix", "valise/tape.user", "valise/tape.team", "valise/tape.link", "internal/bytealg.MaxLen"], apart := false, laid := [("valise/tape.numbers", laid_valise_tape_numbers), ("valise/tape.name", laid_valise_tape_name), ("valise/tape.link", laid_valise_tape_link), ("valise/tape.user", laid_valise_tape_user), ("valise/tape.team", laid_valise_tape_team), ("valise/tape.prefix", laid_valise_tape_prefix), ("valise/tape.marks", laid_valise_tape_marks)] }
def TapeGetsSaid : Prop := tapeGetsRow.holds Tryd.pinned (OpenSpec.ofChange tapeGetsSpec)

/-- ITS FALSE NEIGHBOUR: 'it returns false'. Refute it at one input. -/
def tapeGetsWrong : ChangeSpec := { name := "tapeGets", fn := fun _ => fun
  | [d] => { results := [.lit (.bool false)], args := [d] }
  | _ => none }
def TapeGetsWrongFalsely : Prop := tapeGetsRow.holds Tryd.pinned (OpenSpec.ofChange tapeGetsWrong)

/-- 'valiselaw24.TapeGoesBack': WHATEVER THE INPUT: true; the input reads as it did. -/
def tapeGoesBackSpec : ChangeSpec := { name := "tapeGoesBack", fn := fun _ => fun
  | [d1, d2, d3] => { results := [.lit (.bool true)], args := [d1, d2, d3] }
  | _ => none }
def tapeGoesBackRow : OpenClaim := { program := "ytlhmbncalonomaadoor", sum := "91cb3aea6c7497f7cd886742fd0a5ae2fbf91e89c560c0327a377eca49c8f002", func := "valise/valiselaw24.TapeGoesBack", spec := "tapeGoesBack", inPlace := ["internal/bytealg.IndexByteString", "internal/bytealg.IndexString"], named := ["internal/bytealg.MaxLen", "valise/tape.name", "valise/tape.prefix", "valise/tape.link", "valise/tape.user", "valise/tape.team", "valise/tape.marks", "valise/tape.numbers"], apart := false, laid := [("valise/tape.numbers", laid_valise_tape_numbers), ("valise/tape.name", laid_valise_tape_name), ("valise/tape.link", laid_valise_tape_link), ("valise/tape.user", laid_valise_tape_user), ("valise/tape.team", laid_valise_tape_team), ("valise/tape.prefix", laid_valise_tape_prefix), ("valise/tape.marks", laid_valise_tape_marks)] }
def TapeGoesBackSaid : Prop := tapeGoesBackRow.holds Tryd.pinned (OpenSpec.ofChange tapeGoesBackSpec)

/-- ITS FALSE NEIGHBOUR: 'it returns false'. Refute it at one input. -/
def tapeGoesBackWrong : ChangeSpec := { name := "tapeGoesBack", fn := fun _ => fun
  | [d1, d2, d3] => { results := [.lit (.bool false)], args := [d1, d2, d3] }
  | _ => none }
def TapeGoesBackWrongFalsely : Prop := tapeGoesBackRow.holds Tryd.pinned (OpenSpec.ofChange tapeGoesBackWrong)

/-- 'valiselaw24.TapeGetsAgain': WHATEVER THE INPUT: true; the input reads as it did. -/
def tapeGetsAgainSpec : ChangeSpec := { name := "tapeGetsAgain", fn := fun _ => fun
  | [d] => { results := [.lit (.bool true)], args := [d] }
  | _ => none }
def tapeGetsAgainRow : OpenClaim := { program := "ytlhmbncalonomaadoor", sum := "91cb3aea6c7497f7cd886742fd0a5ae2fbf91e89c560c0327a377eca49c8f002", func := "valise/valiselaw24.TapeGetsAgain", spec := "tapeGetsAgain", inPlace := ["internal/bytealg.IndexByteString", "internal/bytealg.IndexString"], named := ["valise/tape.numbers", "valise/tape.marks", "valise/tape.name", "valise/tape.prefix", "valise/tape.user", "valise/tape.team", "valise/tape.link", "internal/bytealg.MaxLen"], apart := false, laid := [("valise/tape.numbers", laid_valise_tape_numbers), ("valise/tape.name", laid_valise_tape_name), ("valise/tape.link", laid_valise_tape_link), ("valise/tape.user", laid_valise_tape_user), ("valise/tape.team", laid_valise_tape_team), ("valise/tape.prefix", laid_valise_tape_prefix), ("valise/tape.marks", laid_valise_tape_marks)] }
def TapeGetsAgainSaid : Prop := tapeGetsAgainRow.holds Tryd.pinned (OpenSpec.ofChange tapeGetsAgainSpec)

/-- ITS FALSE NEIGHBOUR: 'it returns false'. Refute it at one input. -/
def tapeGetsAgainWrong : ChangeSpec := { name := "tapeGetsAgain", fn := fun _ => fun
  | [d] => { results := [.lit (.bool false)], args := [d] }
  | _ => none }
def TapeGetsAgainWrongFalsely : Prop := tapeGetsAgainRow.holds Tryd.pinned (OpenSpec.ofChange tapeGetsAgainWrong)

/-- 'valiselaw24.TapeSpoilt': WHATEVER THE INPUT: true; the input reads as it did. -/
def tapeSpoiltSpec : ChangeSpec := { name := "tapeSpoilt", fn := fun _ => fun
  | [d1, d2, d3, d4] => { results := [.lit (.bool true)], args := [d1, d2, d3, d4] }
  | _ => none }
def tapeSpoiltRow : OpenClaim := { program := "ytlhmbncalonomaadoor", sum := "91cb3aea6c7497f7cd886742fd0a5ae2fbf91e89c560c0327a377eca49c8f002", func := "valise/valiselaw24.TapeSpoilt", spec := "tapeSpoilt", inPlace := ["internal/bytealg.IndexByteString", "internal/bytealg.IndexString"], named := ["internal/bytealg.MaxLen", "valise/tape.name", "valise/tape.prefix", "valise/tape.link", "valise/tape.user", "valise/tape.team", "valise/tape.marks", "valise/tape.numbers"], apart := false, laid := [("valise/tape.numbers", laid_valise_tape_numbers), ("valise/tape.name", laid_valise_tape_name), ("valise/tape.link", laid_valise_tape_link), ("valise/tape.user", laid_valise_tape_user), ("valise/tape.team", laid_valise_tape_team), ("valise/tape.prefix", laid_valise_tape_prefix), ("valise/tape.marks", laid_valise_tape_marks)] }
def TapeSpoiltSaid : Prop := tapeSpoiltRow.holds Tryd.pinned (OpenSpec.ofChange tapeSpoiltSpec)

/-- ITS FALSE NEIGHBOUR: 'it returns false'. Refute it at one input. -/
def tapeSpoiltWrong : ChangeSpec := { name := "tapeSpoilt", fn := fun _ => fun
  | [d1, d2, d3, d4] => { results := [.lit (.bool false)], args := [d1, d2, d3, d4] }
  | _ => none }
def TapeSpoiltWrongFalsely : Prop := tapeSpoiltRow.holds Tryd.pinned (OpenSpec.ofChange tapeSpoiltWrong)

/-- 'valiselaw24.TapeApart': WHATEVER THE INPUT: true; the input reads as it did. -/
def tapeApartSpec : ChangeSpec := { name := "tapeApart", fn := fun _ => fun
  | [d] => { results := [.lit (.bool true)], args := [d] }
  | _ => none }
def tapeApartRow : OpenClaim := { program := "ytlhmbncalonomaadoor", sum := "91cb3aea6c7497f7cd886742fd0a5ae2fbf91e89c560c0327a377eca49c8f002", func := "valise/valiselaw24.TapeApart", spec := "tapeApart", inPlace := ["internal/bytealg.IndexByteString", "internal/bytealg.IndexString"], named := ["internal/bytealg.MaxLen", "valise/tape.name", "valise/tape.prefix", "valise/tape.link", "valise/tape.user", "valise/tape.team", "valise/tape.marks", "valise/tape.numbers"], apart := false, laid := [("valise/tape.numbers", laid_valise_tape_numbers), ("valise/tape.name", laid_valise_tape_name), ("valise/tape.link", laid_valise_tape_link), ("valise/tape.user", laid_valise_tape_user), ("valise/tape.team", laid_valise_tape_team), ("valise/tape.prefix", laid_valise_tape_prefix), ("valise/tape.marks", laid_valise_tape_marks)] }
def TapeApartSaid : Prop := tapeApartRow.holds Tryd.pinned (OpenSpec.ofChange tapeApartSpec)

/-- ITS FALSE NEIGHBOUR: 'it returns false'. Refute it at one input. -/
def tapeApartWrong : ChangeSpec := { name := "tapeApart", fn := fun _ => fun
  | [d] => { results := [.lit (.bool false)], args := [d] }
  | _ => none }
def TapeApartWrongFalsely : Prop := tapeApartRow.holds Tryd.pinned (OpenSpec.ofChange tapeApartWrong)

/- THE SECOND FORM. 'bulk': how many values and letters a reading holds, each counted each time it is reached (what is shared counts as often as it is met; a slice's spare places count too). A statement '..UptoSaid' is the law's where the arguments, and the package variables that the reading takes, are together of bulk at most 1048576: NARROWER than '..Said'. Prove '..Said' where nothing that the law and all that it calls make is longer than what came in: it says more and counts as full. Else prove '..UptoSaid'. A law counts once. -/
mutual
def uptoBulk {H : Type} : DataW H → Nat
  | .lit (.string bytes) => bytes.length + 1
  | .lit _ => 1
  | .nil => 1
  | .ptr d => uptoBulk d + 1
  | .slice elems spare => uptoBulkAll elems + uptoBulkAll spare + 1
  | .agg parts => uptoBulkAll parts + 1
  | .iface _ d => uptoBulk d + 1
  | .map entries => uptoBulkEntries entries + 1
  | .held _ => 1
def uptoBulkAll {H : Type} : List (DataW H) → Nat
  | [] => 0
  | d :: r => uptoBulk d + uptoBulkAll r
def uptoBulkEntries {H : Type} : List (Lit × DataW H) → Nat
  | [] => 0
  | x :: r => uptoBulkEntry x + uptoBulkEntries r
def uptoBulkEntry {H : Type} : Lit × DataW H → Nat
  | (.string bytes, d) => bytes.length + uptoBulk d + 1
  | (_, d) => uptoBulk d + 1
 end
def uptoSmall : (H : Type) → List (DataW H) → Bool := fun _ ds => decide (uptoBulkAll ds ≤ 1048576)
def OpenSpec.upto (s : _root_.Go.ChangeSpec) : _root_.Go.OpenSpec := { _root_.Go.OpenSpec.ofChange s with cond := some uptoSmall }

/-- 'valiselaw24.TapePuts', WHERE WHAT IT READS IS OF BULK AT MOST 1048576: true; the input reads as it did. -/
def tapePutsUptoRow : OpenClaim := { program := "ytlhmbncalonomaadoor", sum := "91cb3aea6c7497f7cd886742fd0a5ae2fbf91e89c560c0327a377eca49c8f002", func := "valise/valiselaw24.TapePuts", spec := "tapePuts", inPlace := ["internal/bytealg.IndexByteString", "internal/bytealg.IndexString"], named := ["internal/bytealg.MaxLen", "valise/tape.name", "valise/tape.prefix", "valise/tape.link", "valise/tape.user", "valise/tape.team", "valise/tape.marks", "valise/tape.numbers"], apart := false, laid := [("valise/tape.numbers", laid_valise_tape_numbers), ("valise/tape.name", laid_valise_tape_name), ("valise/tape.link", laid_valise_tape_link), ("valise/tape.user", laid_valise_tape_user), ("valise/tape.team", laid_valise_tape_team), ("valise/tape.prefix", laid_valise_tape_prefix), ("valise/tape.marks", laid_valise_tape_marks)], narrowed := true }
def TapePutsUptoSaid : Prop := tapePutsUptoRow.holds Tryd.pinned (OpenSpec.upto tapePutsSpec)

/-- 'valiselaw24.TapeGets', WHERE WHAT IT READS IS OF BULK AT MOST 1048576: true; the input reads as it did. -/
def tapeGetsUptoRow : OpenClaim := { program := "ytlhmbncalonomaadoor", sum := "91cb3aea6c7497f7cd886742fd0a5ae2fbf91e89c560c0327a377eca49c8f002", func := "valise/valiselaw24.TapeGets", spec := "tapeGets", inPlace := ["internal/bytealg.IndexByteString", "internal/bytealg.IndexString"], named := ["valise/tape.numbers", "valise/tape.marks", "valise/tape.name", "valise/tape.prefix", "valise/tape.user", "valise/tape.team", "valise/tape.link", "internal/bytealg.MaxLen"], apart := false, laid := [("valise/tape.numbers", laid_valise_tape_numbers), ("valise/tape.name", laid_valise_tape_name), ("valise/tape.link", laid_valise_tape_link), ("valise/tape.user", laid_valise_tape_user), ("valise/tape.team", laid_valise_tape_team), ("valise/tape.prefix", laid_valise_tape_prefix), ("valise/tape.marks", laid_valise_tape_marks)], narrowed := true }
def TapeGetsUptoSaid : Prop := tapeGetsUptoRow.holds Tryd.pinned (OpenSpec.upto tapeGetsSpec)

/-- 'valiselaw24.TapeGoesBack', WHERE WHAT IT READS IS OF BULK AT MOST 1048576: true; the input reads as it did. -/
def tapeGoesBackUptoRow : OpenClaim := { program := "ytlhmbncalonomaadoor", sum := "91cb3aea6c7497f7cd886742fd0a5ae2fbf91e89c560c0327a377eca49c8f002", func := "valise/valiselaw24.TapeGoesBack", spec := "tapeGoesBack", inPlace := ["internal/bytealg.IndexByteString", "internal/bytealg.IndexString"], named := ["internal/bytealg.MaxLen", "valise/tape.name", "valise/tape.prefix", "valise/tape.link", "valise/tape.user", "valise/tape.team", "valise/tape.marks", "valise/tape.numbers"], apart := false, laid := [("valise/tape.numbers", laid_valise_tape_numbers), ("valise/tape.name", laid_valise_tape_name), ("valise/tape.link", laid_valise_tape_link), ("valise/tape.user", laid_valise_tape_user), ("valise/tape.team", laid_valise_tape_team), ("valise/tape.prefix", laid_valise_tape_prefix), ("valise/tape.marks", laid_valise_tape_marks)], narrowed := true }
def TapeGoesBackUptoSaid : Prop := tapeGoesBackUptoRow.holds Tryd.pinned (OpenSpec.upto tapeGoesBackSpec)

/-- 'valiselaw24.TapeGetsAgain', WHERE WHAT IT READS IS OF BULK AT MOST 1048576: true; the input reads as it did. -/
def tapeGetsAgainUptoRow : OpenClaim := { program := "ytlhmbncalonomaadoor", sum := "91cb3aea6c7497f7cd886742fd0a5ae2fbf91e89c560c0327a377eca49c8f002", func := "valise/valiselaw24.TapeGetsAgain", spec := "tapeGetsAgain", inPlace := ["internal/bytealg.IndexByteString", "internal/bytealg.IndexString"], named := ["valise/tape.numbers", "valise/tape.marks", "valise/tape.name", "valise/tape.prefix", "valise/tape.user", "valise/tape.team", "valise/tape.link", "internal/bytealg.MaxLen"], apart := false, laid := [("valise/tape.numbers", laid_valise_tape_numbers), ("valise/tape.name", laid_valise_tape_name), ("valise/tape.link", laid_valise_tape_link), ("valise/tape.user", laid_valise_tape_user), ("valise/tape.team", laid_valise_tape_team), ("valise/tape.prefix", laid_valise_tape_prefix), ("valise/tape.marks", laid_valise_tape_marks)], narrowed := true }
def TapeGetsAgainUptoSaid : Prop := tapeGetsAgainUptoRow.holds Tryd.pinned (OpenSpec.upto tapeGetsAgainSpec)

/-- 'valiselaw24.TapeSpoilt', WHERE WHAT IT READS IS OF BULK AT MOST 1048576: true; the input reads as it did. -/
def tapeSpoiltUptoRow : OpenClaim := { program := "ytlhmbncalonomaadoor", sum := "91cb3aea6c7497f7cd886742fd0a5ae2fbf91e89c560c0327a377eca49c8f002", func := "valise/valiselaw24.TapeSpoilt", spec := "tapeSpoilt", inPlace := ["internal/bytealg.IndexByteString", "internal/bytealg.IndexString"], named := ["internal/bytealg.MaxLen", "valise/tape.name", "valise/tape.prefix", "valise/tape.link", "valise/tape.user", "valise/tape.team", "valise/tape.marks", "valise/tape.numbers"], apart := false, laid := [("valise/tape.numbers", laid_valise_tape_numbers), ("valise/tape.name", laid_valise_tape_name), ("valise/tape.link", laid_valise_tape_link), ("valise/tape.user", laid_valise_tape_user), ("valise/tape.team", laid_valise_tape_team), ("valise/tape.prefix", laid_valise_tape_prefix), ("valise/tape.marks", laid_valise_tape_marks)], narrowed := true }
def TapeSpoiltUptoSaid : Prop := tapeSpoiltUptoRow.holds Tryd.pinned (OpenSpec.upto tapeSpoiltSpec)

/-- 'valiselaw24.TapeApart', WHERE WHAT IT READS IS OF BULK AT MOST 1048576: true; the input reads as it did. -/
def tapeApartUptoRow : OpenClaim := { program := "ytlhmbncalonomaadoor", sum := "91cb3aea6c7497f7cd886742fd0a5ae2fbf91e89c560c0327a377eca49c8f002", func := "valise/valiselaw24.TapeApart", spec := "tapeApart", inPlace := ["internal/bytealg.IndexByteString", "internal/bytealg.IndexString"], named := ["internal/bytealg.MaxLen", "valise/tape.name", "valise/tape.prefix", "valise/tape.link", "valise/tape.user", "valise/tape.team", "valise/tape.marks", "valise/tape.numbers"], apart := false, laid := [("valise/tape.numbers", laid_valise_tape_numbers), ("valise/tape.name", laid_valise_tape_name), ("valise/tape.link", laid_valise_tape_link), ("valise/tape.user", laid_valise_tape_user), ("valise/tape.team", laid_valise_tape_team), ("valise/tape.prefix", laid_valise_tape_prefix), ("valise/tape.marks", laid_valise_tape_marks)], narrowed := true }
def TapeApartUptoSaid : Prop := tapeApartUptoRow.holds Tryd.pinned (OpenSpec.upto tapeApartSpec)

end Rows
end Go.Proofs.YtlhmbncalonomaaDoor
