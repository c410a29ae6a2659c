-- Own text: written by a program of this session (myprint.py) for this seat.
import Derived.Test.YtkpdbkkkdidolaaDoorProg
import Derived.Below
import Derived.Deep.Draws
import Derived.Deep.AppendLies
import Derived.Maps.AppendAt
import Derived.OwnWalk
import Derived.Laws.BytesArg
import Derived.Laws.MakeOwn
import Derived.Laws.OwnMore
import Derived.Deep.OwnRows
import Derived.Tactics
import Derived.Lib.ConvBytes
import Derived.Laws.Slices
import Derived.WalkKit
import Derived.KernelRfl
import Derived.RowKit3
import Derived.Deep.LoopGhost
import Derived.Deep.QuietTactic
import Derived.BigQuiet
import Derived.WideLaws
import Derived.Deep.DeepCutAuto
import Derived.Deep.CutBlock
import Derived.Deep.RegionHeld3
import Derived.Laws.Rows
import Derived.Lib.AppendStr
import Derived.ArgAppend
import Derived.Laws.IdiomCopy
import Derived.OrdersHeld
import Derived.Laws.BitsLemmas
import Derived.RowKit
import Derived.Test.YtkpdbkkkdidolaaDoorWWords
import Derived.Test.YtkpdbkkkdidolaaDoorWLast
import Derived.Test.YtkpdbkkkdidolaaDoorWTab
import Derived.Test.YtkpdbkkkdidolaaDoorWFour
import Derived.Test.YtkpdbkkkdidolaaDoorWQPut
import Derived.Test.YtkpdbkkkdidolaaDoorWApart
import Derived.Test.YtkpdbkkkdidolaaDoorWArr
import Derived.Test.YtkpdbkkkdidolaaDoorWZeros
import Derived.Test.YtkpdbkkkdidolaaDoorWFoot
import Derived.Test.YtkpdbkkkdidolaaDoorWKept
import Derived.Test.YtkpdbkkkdidolaaDoorWShare
import Derived.Test.YtkpdbkkkdidolaaDoorWN
import Derived.Test.YtkpdbkkkdidolaaDoorWFootNe
import Derived.Test.YtkpdbkkkdidolaaDoorWAt
import Derived.Test.YtkpdbkkkdidolaaDoorWEqStruct
import Derived.Test.YtkpdbkkkdidolaaDoorWRepsOne
import Derived.Test.YtkpdbkkkdidolaaDoorWInv
import Derived.Test.YtkpdbkkkdidolaaDoorWInvWords
import Derived.Test.YtkpdbkkkdidolaaDoorWGuard
import Derived.Test.YtkpdbkkkdidolaaDoorWNEv
import Derived.Test.YtkpdbkkkdidolaaDoorWMore
namespace Go.Proofs.YtkpdbkkkdidolaaDoor.Q
open Go.RowKit Go.Proofs.YtkpdbkkkdidolaaDoorW.PrintWords Go.Proofs.YtkpdbkkkdidolaaDoorW.PrintLast Go.Proofs.YtkpdbkkkdidolaaDoorW.PrintMore
attribute [local go_sem] max2_int min2_int max_two min_two max_three min_three max_four min_four   -- for this text's walks alone
set_option linter.unusedVariables false
set_option linter.unusedSimpArgs false



def errW : Option Int → Value
  | none => .nilIface
  | some c => .iface 0 (.int .i64 c)
theorem errW_none : errW none = .nilIface := rfl
theorem errW_some (c : Int) : errW (some c) = .iface 0 (.int .i64 c) := rfl

theorem info5 : (Tryd.prog.info? 5).map (fun i => (i.zero, i.size, i.bytes)) = some (some (.int .u8 0), 1, 1) := by kernel_rfl
theorem info9 : (Tryd.prog.info? 9).map (fun i => (i.zero, i.size, i.bytes)) = some (some (.string ⟨#[]⟩), 1, 16) := by kernel_rfl
-- the values' own types

end Go.Proofs.YtkpdbkkkdidolaaDoor.Q
