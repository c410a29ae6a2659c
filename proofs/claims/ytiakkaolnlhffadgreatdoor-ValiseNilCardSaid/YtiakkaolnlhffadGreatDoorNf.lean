/- The row's closed facts, one by one. -/
import Derived.Test.YtiakkaolnlhffadGreatDoorCards
import Derived.JoinedOf
import Derived.KernelRfl
namespace Go.Proofs.YtiakkaolnlhffadGreatDoor.Nf
theorem t0 : (Rows.valiseNilRow.wf (OpenSpec.ofChange Rows.valiseNilSpec)) = true := by kernel_rfl
theorem t1 : (laidOutB Tryz.prog) = true := by kernel_rfl
theorem t2 : (mapsRowed Tryz.prog) = true := by kernel_rfl
theorem t3 : (Tryz.f3.params.all (Tryz.prog.readableRec ·)) = true := by kernel_rfl
theorem t4 : (namedTie Tryz.prog Rows.valiseNilRow.named Rows.valiseNilSpec.vars) = true := by kernel_rfl
theorem t5 : ((Rows.valiseNilRow.stops == [])) = true := by kernel_rfl
theorem t6 : ((Tryz.prog.stops == [])) = true := by kernel_rfl
theorem t7 : ((Rows.valiseNilRow.knobs == [])) = true := by kernel_rfl
theorem t8 : ((Tryz.prog.stopKnobs == [])) = true := by kernel_rfl
theorem t9 : ((Rows.valiseNilRow.inPlace == Tryz.prog.inPlace 3)) = true := by kernel_rfl
theorem t10 : ((Rows.valiseNilRow.unfollowed == Tryz.prog.unfollowed 3)) = true := by kernel_rfl
theorem t11 : ((Rows.valiseNilRow.recurses == Tryz.prog.recurses 3)) = true := by kernel_rfl
theorem t12 : ((Rows.valiseNilRow.named == Tryz.prog.varsNamed 3)) = true := by kernel_rfl
theorem t13 : ((Rows.valiseNilRow.maps == (Tryz.f3.params.toList ++ Rows.valiseNilSpec.plain.varTypes Tryz.prog).any (Tryz.prog.mapsRec ·))) = true := by kernel_rfl
theorem t14 : ((Rows.valiseNilRow.ifaces == (Tryz.f3.params.toList ++ Rows.valiseNilSpec.plain.varTypes Tryz.prog).any (Tryz.prog.ifacesRec ·))) = true := by kernel_rfl
theorem t15 : ((Rows.valiseNilRow.mapsOut == Tryz.prog.mapsAmong Tryz.f3.resultTypes.toList)) = true := by kernel_rfl
theorem t16 : ((Rows.valiseNilRow.loops == (Tryz.f3.params.toList ++ Rows.valiseNilSpec.plain.varTypes Tryz.prog).any (Tryz.prog.loopsFrom ·))) = true := by kernel_rfl
theorem t17 : ((Rows.valiseNilRow.wideKeys == (Tryz.f3.params.toList ++ Rows.valiseNilSpec.plain.varTypes Tryz.prog ++ Tryz.f3.resultTypes.toList).any (Tryz.prog.wideKeysFrom ·))) = true := by kernel_rfl
theorem t18 : (Rows.valiseNilSpec.vars.all (Tryz.prog.varReadable ·)) = true := by kernel_rfl
theorem t19 : (Tryz.f3.resultTypes.all (fun t => Tryz.prog.readableRec t && decide (t < Tryz.prog.types.size))) = true := by kernel_rfl
theorem t20 : ((Rows.valiseNilRow.ifacesOut == Tryz.f3.resultTypes.toList.any (Tryz.prog.ifacesRec ·))) = true := by kernel_rfl
theorem t21 : ((Rows.valiseNilRow.loopsOut == Tryz.f3.resultTypes.toList.any (Tryz.prog.loopsFrom ·))) = true := by kernel_rfl
theorem t22 : ((Rows.valiseNilRow.plainKeys == Tryz.prog.plainKeys)) = true := by kernel_rfl
theorem t23 : (Rows.valiseNilRow.shortTexts.isNone) = true := by kernel_rfl
theorem t24 : (Tryz.prog.stopsHeard) = true := by kernel_rfl
theorem t25 : (Tryz.prog.mayEnter) = true := by kernel_rfl
theorem t26 : ((Rows.valiseNilRow.lifted == Tryz.prog.liftsFinal)) = true := by kernel_rfl
theorem t27 : ((Tryz.prog.make == some Rows.valiseNilRow.make)) = true := by kernel_rfl
theorem t28 : ((Rows.valiseNilRow.kinds == (if Rows.valiseNilRow.domain.isEmpty then [] else Tryz.f3.params.toList.map fun t => match Tryz.prog.underlying t with | some (.int k) => some k | _ => none))) = true := by kernel_rfl
theorem t29 : ((Rows.valiseNilRow.pinned == Rows.valiseNilRow.pinnedBy)) = true := by kernel_rfl
theorem t30 : ((Rows.valiseNilRow.veiled == (Tryz.f3.params.toList ++ Rows.valiseNilSpec.plain.varTypes Tryz.prog ++ Tryz.f3.resultTypes.toList).any (Tryz.prog.veiledRec ·))) = true := by kernel_rfl
theorem t31 : (Rows.valiseNilRow.veiledFits Tryz.prog Tryz.f3.params.toList (Tryz.f3.params.toList ++ Rows.valiseNilSpec.plain.varTypes Tryz.prog ++ Tryz.f3.resultTypes.toList)) = true := by kernel_rfl
theorem and2 {a b : Bool} (h : a = true) (k : b = true) : (a && b) = true := by rw [h, k]; rfl
set_option maxRecDepth 100000 in
theorem closed : joinedFacts Tryz.prog 3 Tryz.f3 Rows.valiseNilSpec Rows.valiseNilRow = true := by
  unfold joinedFacts
  refine and2 ?_ t31
  refine and2 ?_ t30
  refine and2 ?_ t29
  refine and2 ?_ t28
  refine and2 ?_ t27
  refine and2 ?_ t26
  refine and2 ?_ t25
  refine and2 ?_ t24
  refine and2 ?_ t23
  refine and2 ?_ t22
  refine and2 ?_ t21
  refine and2 ?_ t20
  refine and2 ?_ t19
  refine and2 ?_ t18
  refine and2 ?_ t17
  refine and2 ?_ t16
  refine and2 ?_ t15
  refine and2 ?_ t14
  refine and2 ?_ t13
  refine and2 ?_ t12
  refine and2 ?_ t11
  refine and2 ?_ t10
  refine and2 ?_ t9
  refine and2 ?_ t8
  refine and2 ?_ t7
  refine and2 ?_ t6
  refine and2 ?_ t5
  refine and2 ?_ t4
  refine and2 ?_ t3
  refine and2 ?_ t2
  refine and2 ?_ t1
  exact t0
end Go.Proofs.YtiakkaolnlhffadGreatDoor.Nf
