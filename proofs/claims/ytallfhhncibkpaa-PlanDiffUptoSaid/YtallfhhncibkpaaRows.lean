/-
  No cell of these rows narrows 'for every input' (looked for: loops, veiled, ifaces, maps, wideKeys, modest, calm, conditions, laid).
  DERIVED. THE GIVEN ROWS OF THIS SEAT. 4 by the template 'for every input the law returns true; each argument reads behind the call as it read before'; 0 by the template 'total and deterministic' (their statements: YtallfhhncibkpaaTotals.lean).
  GIVEN WITH THE SEED: the statements are not yours to turn. If you find one false, say at which input.
  Laid BY PROGRAM, IN A SANDBOX (cutbox-rows.mjs): the forced cells as the released guide's own fill.sh prints them over the translation 70a38260a8352308… (all of the seat's roots in one cut). By AI agents, Wed Nov 11 2026. No macro, syntax, notation, axiom, sorry.
-/
import Derived.Test.YtallfhhncibkpaaChecked
import GoSem.Claim
import GoSem.ClaimJoined
import GoSem.ClaimMapViews
import Derived.JoinedTies
import Derived.KernelRfl
namespace Go.Proofs.Ytallfhhncibkpaa
/- THE CELL 'sum', in the pinned program and in every row, IS THE sha256 OF THE DUMP (.gsa) THAT YtallfhhncibkpaaProg.lean LOADS. Nothing in Lean hashes anything: it is a label: what it is worth is what the hold of that sum in a sandbox is worth. -/
noncomputable def Try.pinned : Pinned := { name := "ytallfhhncibkpaa", sum := "70a38260a8352308d559d067cbfa7ea10edbcebc5304ad1d529c0ec3b45f17e4", checked := Try.checked }
namespace Rows
def none {H : Type} : Left H := { results := [], args := [] }

/-- 'valiselaw15.PlanFits': WHATEVER THE INPUT: true; the input reads as it did. -/
def planFitsSpec : ChangeSpec := { name := "planFits", fn := fun _ => fun
  | [d1, d2] => { results := [.lit (.bool true)], args := [d1, d2] }
  | _ => none }
def planFitsRow : OpenClaim := { program := "ytallfhhncibkpaa", sum := "70a38260a8352308d559d067cbfa7ea10edbcebc5304ad1d529c0ec3b45f17e4", func := "valise/valiselaw15.PlanFits", spec := "planFits", apart := false }
def PlanFitsSaid : Prop := planFitsRow.holds Try.pinned (OpenSpec.ofChange planFitsSpec)

/-- ITS FALSE NEIGHBOUR: 'it returns false'. Refute it at one input. -/
def planFitsWrong : ChangeSpec := { name := "planFits", fn := fun _ => fun
  | [d1, d2] => { results := [.lit (.bool false)], args := [d1, d2] }
  | _ => none }
def PlanFitsWrongFalsely : Prop := planFitsRow.holds Try.pinned (OpenSpec.ofChange planFitsWrong)

/-- 'valiselaw15.PlanLimits': WHATEVER THE INPUT: true; the input reads as it did. -/
def planLimitsSpec : ChangeSpec := { name := "planLimits", fn := fun _ => fun
  | [d1, d2, d3] => { results := [.lit (.bool true)], args := [d1, d2, d3] }
  | _ => none }
def planLimitsRow : OpenClaim := { program := "ytallfhhncibkpaa", sum := "70a38260a8352308d559d067cbfa7ea10edbcebc5304ad1d529c0ec3b45f17e4", func := "valise/valiselaw15.PlanLimits", spec := "planLimits", apart := false }
def PlanLimitsSaid : Prop := planLimitsRow.holds Try.pinned (OpenSpec.ofChange planLimitsSpec)

/-- ITS FALSE NEIGHBOUR: 'it returns false'. Refute it at one input. -/
def planLimitsWrong : ChangeSpec := { name := "planLimits", fn := fun _ => fun
  | [d1, d2, d3] => { results := [.lit (.bool false)], args := [d1, d2, d3] }
  | _ => none }
def PlanLimitsWrongFalsely : Prop := planLimitsRow.holds Try.pinned (OpenSpec.ofChange planLimitsWrong)

/-- 'valiselaw15.PlanDiffs': WHATEVER THE INPUT: true; the input reads as it did. -/
def planDiffsSpec : ChangeSpec := { name := "planDiffs", fn := fun _ => fun
  | [d1, d2] => { results := [.lit (.bool true)], args := [d1, d2] }
  | _ => none }
def planDiffsRow : OpenClaim := { program := "ytallfhhncibkpaa", sum := "70a38260a8352308d559d067cbfa7ea10edbcebc5304ad1d529c0ec3b45f17e4", func := "valise/valiselaw15.PlanDiffs", spec := "planDiffs", apart := false }
def PlanDiffsSaid : Prop := planDiffsRow.holds Try.pinned (OpenSpec.ofChange planDiffsSpec)

/-- ITS FALSE NEIGHBOUR: 'it returns false'. Refute it at one input. -/
def planDiffsWrong : ChangeSpec := { name := "planDiffs", fn := fun _ => fun
  | [d1, d2] => { results := [.lit (.bool false)], args := [d1, d2] }
  | _ => none }
def PlanDiffsWrongFalsely : Prop := planDiffsRow.holds Try.pinned (OpenSpec.ofChange planDiffsWrong)

/-- 'valiselaw15.PlanDiff': WHATEVER THE INPUT: true; the input reads as it did. -/
def planDiffSpec : ChangeSpec := { name := "planDiff", fn := fun _ => fun
  | [d1, d2] => { results := [.lit (.bool true)], args := [d1, d2] }
  | _ => none }
def planDiffRow : OpenClaim := { program := "ytallfhhncibkpaa", sum := "70a38260a8352308d559d067cbfa7ea10edbcebc5304ad1d529c0ec3b45f17e4", func := "valise/valiselaw15.PlanDiff", spec := "planDiff", apart := false }
def PlanDiffSaid : Prop := planDiffRow.holds Try.pinned (OpenSpec.ofChange planDiffSpec)

/-- ITS FALSE NEIGHBOUR: 'it returns false'. Refute it at one input. -/
def planDiffWrong : ChangeSpec := { name := "planDiff", fn := fun _ => fun
  | [d1, d2] => { results := [.lit (.bool false)], args := [d1, d2] }
  | _ => none }
def PlanDiffWrongFalsely : Prop := planDiffRow.holds Try.pinned (OpenSpec.ofChange planDiffWrong)

/- THE SECOND FORM. 'bulk': how many values and letters a reading holds, each counted each time it is reached (what is shared counts as often as it is met; a slice's spare places count too). A statement '..UptoSaid' is the law's where the arguments, and the package variables that the reading takes, are together of bulk at most 1048576: NARROWER than '..Said'. Prove '..Said' where nothing that the law and all that it calls make is longer than what came in: it says more and counts as full. Else prove '..UptoSaid'. A law counts once. -/
mutual
def uptoBulk {H : Type} : DataW H → Nat
  | .lit (.string bytes) => bytes.length + 1
  | .lit _ => 1
  | .nil => 1
  | .ptr d => uptoBulk d + 1
  | .slice elems spare => uptoBulkAll elems + uptoBulkAll spare + 1
  | .agg parts => uptoBulkAll parts + 1
  | .iface _ d => uptoBulk d + 1
  | .map entries => uptoBulkEntries entries + 1
  | .held _ => 1
def uptoBulkAll {H : Type} : List (DataW H) → Nat
  | [] => 0
  | d :: r => uptoBulk d + uptoBulkAll r
def uptoBulkEntries {H : Type} : List (Lit × DataW H) → Nat
  | [] => 0
  | x :: r => uptoBulkEntry x + uptoBulkEntries r
def uptoBulkEntry {H : Type} : Lit × DataW H → Nat
  | (.string bytes, d) => bytes.length + uptoBulk d + 1
  | (_, d) => uptoBulk d + 1
 end
def uptoSmall : (H : Type) → List (DataW H) → Bool := fun _ ds => decide (uptoBulkAll ds ≤ 1048576)
def OpenSpec.upto (s : _root_.Go.ChangeSpec) : _root_.Go.OpenSpec := { _root_.Go.OpenSpec.ofChange s with cond := some uptoSmall }

/-- 'valiselaw15.PlanFits', WHERE WHAT IT READS IS OF BULK AT MOST 1048576: true; the input reads as it did. -/
def planFitsUptoRow : OpenClaim := { program := "ytallfhhncibkpaa", sum := "70a38260a8352308d559d067cbfa7ea10edbcebc5304ad1d529c0ec3b45f17e4", func := "valise/valiselaw15.PlanFits", spec := "planFits", apart := false, narrowed := true }
def PlanFitsUptoSaid : Prop := planFitsUptoRow.holds Try.pinned (OpenSpec.upto planFitsSpec)

/-- 'valiselaw15.PlanLimits', WHERE WHAT IT READS IS OF BULK AT MOST 1048576: true; the input reads as it did. -/
def planLimitsUptoRow : OpenClaim := { program := "ytallfhhncibkpaa", sum := "70a38260a8352308d559d067cbfa7ea10edbcebc5304ad1d529c0ec3b45f17e4", func := "valise/valiselaw15.PlanLimits", spec := "planLimits", apart := false, narrowed := true }
def PlanLimitsUptoSaid : Prop := planLimitsUptoRow.holds Try.pinned (OpenSpec.upto planLimitsSpec)

/-- 'valiselaw15.PlanDiffs', WHERE WHAT IT READS IS OF BULK AT MOST 1048576: true; the input reads as it did. -/
def planDiffsUptoRow : OpenClaim := { program := "ytallfhhncibkpaa", sum := "70a38260a8352308d559d067cbfa7ea10edbcebc5304ad1d529c0ec3b45f17e4", func := "valise/valiselaw15.PlanDiffs", spec := "planDiffs", apart := false, narrowed := true }
def PlanDiffsUptoSaid : Prop := planDiffsUptoRow.holds Try.pinned (OpenSpec.upto planDiffsSpec)

/-- 'valiselaw15.PlanDiff', WHERE WHAT IT READS IS OF BULK AT MOST 1048576: true; the input reads as it did. -/
def planDiffUptoRow : OpenClaim := { program := "ytallfhhncibkpaa", sum := "70a38260a8352308d559d067cbfa7ea10edbcebc5304ad1d529c0ec3b45f17e4", func := "valise/valiselaw15.PlanDiff", spec := "planDiff", apart := false, narrowed := true }
def PlanDiffUptoSaid : Prop := planDiffUptoRow.holds Try.pinned (OpenSpec.upto planDiffSpec)

end Rows
end Go.Proofs.Ytallfhhncibkpaa
