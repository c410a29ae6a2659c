/- The row's closed facts, one by one. -/
import Derived.Test.YtiakkaolnlhffacGreatDoorRows
import Derived.JoinedOf
import Derived.KernelRfl
namespace Go.Proofs.YtiakkaolnlhffacGreatDoor.Nf
theorem t0 : (Rows.mirrorNilRow.wf (OpenSpec.ofChange Rows.mirrorNilSpec)) = true := by kernel_rfl
theorem t1 : (laidOutB Tryz.prog) = true := by kernel_rfl
theorem t2 : (mapsRowed Tryz.prog) = true := by kernel_rfl
theorem t3 : (Tryz.f3.params.all (Tryz.prog.readableRec ·)) = true := by kernel_rfl
theorem t4 : (namedTie Tryz.prog Rows.mirrorNilRow.named Rows.mirrorNilSpec.vars) = true := by kernel_rfl
theorem t5 : ((Rows.mirrorNilRow.stops == [])) = true := by kernel_rfl
theorem t6 : ((Tryz.prog.stops == [])) = true := by kernel_rfl
theorem t7 : ((Rows.mirrorNilRow.knobs == [])) = true := by kernel_rfl
theorem t8 : ((Tryz.prog.stopKnobs == [])) = true := by kernel_rfl
theorem t9 : ((Rows.mirrorNilRow.inPlace == Tryz.prog.inPlace 3)) = true := by kernel_rfl
theorem t10 : ((Rows.mirrorNilRow.unfollowed == Tryz.prog.unfollowed 3)) = true := by kernel_rfl
theorem t11 : ((Rows.mirrorNilRow.recurses == Tryz.prog.recurses 3)) = true := by kernel_rfl
theorem t12 : ((Rows.mirrorNilRow.named == Tryz.prog.varsNamed 3)) = true := by kernel_rfl
theorem t13 : ((Rows.mirrorNilRow.maps == (Tryz.f3.params.toList ++ Rows.mirrorNilSpec.plain.varTypes Tryz.prog).any (Tryz.prog.mapsRec ·))) = true := by kernel_rfl
theorem t14 : ((Rows.mirrorNilRow.ifaces == (Tryz.f3.params.toList ++ Rows.mirrorNilSpec.plain.varTypes Tryz.prog).any (Tryz.prog.ifacesRec ·))) = true := by kernel_rfl
theorem t15 : ((Rows.mirrorNilRow.mapsOut == Tryz.prog.mapsAmong Tryz.f3.resultTypes.toList)) = true := by kernel_rfl
theorem t16 : ((Rows.mirrorNilRow.loops == (Tryz.f3.params.toList ++ Rows.mirrorNilSpec.plain.varTypes Tryz.prog).any (Tryz.prog.loopsFrom ·))) = true := by kernel_rfl
theorem t17 : ((Rows.mirrorNilRow.wideKeys == (Tryz.f3.params.toList ++ Rows.mirrorNilSpec.plain.varTypes Tryz.prog ++ Tryz.f3.resultTypes.toList).any (Tryz.prog.wideKeysFrom ·))) = true := by kernel_rfl
theorem t18 : (Rows.mirrorNilSpec.vars.all (Tryz.prog.varReadable ·)) = true := by kernel_rfl
theorem t19 : (Tryz.f3.resultTypes.all (fun t => Tryz.prog.readableRec t && decide (t < Tryz.prog.types.size))) = true := by kernel_rfl
theorem t20 : ((Rows.mirrorNilRow.ifacesOut == Tryz.f3.resultTypes.toList.any (Tryz.prog.ifacesRec ·))) = true := by kernel_rfl
theorem t21 : ((Rows.mirrorNilRow.loopsOut == Tryz.f3.resultTypes.toList.any (Tryz.prog.loopsFrom ·))) = true := by kernel_rfl
theorem t22 : ((Rows.mirrorNilRow.plainKeys == Tryz.prog.plainKeys)) = true := by kernel_rfl
theorem t23 : (Rows.mirrorNilRow.shortTexts.isNone) = true := by kernel_rfl
theorem t24 : (Tryz.prog.stopsHeard) = true := by kernel_rfl
theorem t25 : (Tryz.prog.mayEnter) = true := by kernel_rfl
theorem t26 : ((Rows.mirrorNilRow.lifted == Tryz.prog.liftsFinal)) = true := by kernel_rfl
theorem t27 : ((Tryz.prog.make == some Rows.mirrorNilRow.make)) = true := by kernel_rfl
theorem t28 : ((Rows.mirrorNilRow.kinds == (if Rows.mirrorNilRow.domain.isEmpty then [] else Tryz.f3.params.toList.map fun t => match Tryz.prog.underlying t with | some (.int k) => some k | _ => none))) = true := by kernel_rfl
theorem t29 : ((Rows.mirrorNilRow.pinned == Rows.mirrorNilRow.pinnedBy)) = true := by kernel_rfl
theorem t30 : ((Rows.mirrorNilRow.veiled == (Tryz.f3.params.toList ++ Rows.mirrorNilSpec.plain.varTypes Tryz.prog ++ Tryz.f3.resultTypes.toList).any (Tryz.prog.veiledRec ·))) = true := by kernel_rfl
theorem t31 : (Rows.mirrorNilRow.veiledFits Tryz.prog Tryz.f3.params.toList (Tryz.f3.params.toList ++ Rows.mirrorNilSpec.plain.varTypes Tryz.prog ++ Tryz.f3.resultTypes.toList)) = true := by kernel_rfl
theorem and2 {a b : Bool} (h : a = true) (k : b = true) : (a && b) = true := by rw [h, k]; rfl
set_option maxRecDepth 100000 in
theorem closed : joinedFacts Tryz.prog 3 Tryz.f3 Rows.mirrorNilSpec Rows.mirrorNilRow = true := by
  unfold joinedFacts
  refine and2 ?_ t31
  refine and2 ?_ t30
  refine and2 ?_ t29
  refine and2 ?_ t28
  refine and2 ?_ t27
  refine and2 ?_ t26
  refine and2 ?_ t25
  refine and2 ?_ t24
  refine and2 ?_ t23
  refine and2 ?_ t22
  refine and2 ?_ t21
  refine and2 ?_ t20
  refine and2 ?_ t19
  refine and2 ?_ t18
  refine and2 ?_ t17
  refine and2 ?_ t16
  refine and2 ?_ t15
  refine and2 ?_ t14
  refine and2 ?_ t13
  refine and2 ?_ t12
  refine and2 ?_ t11
  refine and2 ?_ t10
  refine and2 ?_ t9
  refine and2 ?_ t8
  refine and2 ?_ t7
  refine and2 ?_ t6
  refine and2 ?_ t5
  refine and2 ?_ t4
  refine and2 ?_ t3
  refine and2 ?_ t2
  refine and2 ?_ t1
  exact t0
end Go.Proofs.YtiakkaolnlhffacGreatDoor.Nf
