/- The row of PlanDiffs (own text): the arguments opened, the walk, all read again. -/
import Derived.Test.YtallfhhncibkpaaOpn
import Derived.Test.YtallfhhncibkpaaDiffsPure
import Derived.Test.YtallfhhncibkpaaDiffsWalk
import Derived.JoinedCond
import Derived.Deep.CondSized
import Derived.ChangeOld
import Derived.ShutString
import Derived.SizedLaws
namespace Go.Proofs.Ytallfhhncibkpaa.RPlanDiffsUpto
open Go.ChangeShapes Go.WideShapes Go.ChangeAt Go.RowKit Go.Proofs.Ytallfhhncibkpaa.Opn Go.Proofs.YtallfhhncibkpaaW.PrintWords
open Go.ChangeMaps (open_string shut_string)
set_option linter.unusedVariables false
set_option linter.unusedSimpArgs false
theorem own : ownKnob Try.prog.godebug = none := by kernel_rfl
theorem laidOut : laidOutB Try.prog = true := by kernel_rfl
set_option maxRecDepth 100000 in
theorem lifted (os : Os) (started : os.Started) (H : Type) (enc : TypeId × Value → H) (F : Stop.Interp) :
    ReturnsInHanded {} Try.checked os 5 .any ((Rows.OpenSpec.upto Rows.planDiffsSpec).pre6 enc Try.prog Try.f5 Rows.planDiffsUptoRow.domain false) (((Rows.OpenSpec.upto Rows.planDiffsSpec).at F).post enc Try.prog Try.f5 false true false false) := by
  refine returnsInHanded_of_cond_sized (C := Try.checked) (s := (Rows.OpenSpec.upto Rows.planDiffsSpec)) (k := Rows.uptoSmall) rfl own started (by kernel_rfl) Try.func5
    (OpenSpec.witness (enc := enc) (C := Try.checked) (s := (Rows.OpenSpec.upto Rows.planDiffsSpec)) (k := Rows.uptoSmall) rfl false ⟨#[], #[.slice none 0 0, .slice none 0 0], []⟩ 8 (by kernel_rfl) (by kernel_rfl) (by kernel_rfl)
      (x := ([.nil, .nil], [], [])) (by kernel_rfl) rfl (by kernel_rfl)) ?_
  intro W base args ds gs before hval0 hW hcnd hk hsz0 _
  have hval : ∀ (j : Nat) t v, Try.f5.params[j]? = some t → args[j]? = some v → Value.okWide Try.prog W .any base t v := hval0
  have hW' := hW
  obtain ⟨p, q, hA0, hV, rfl, hfz, hnd⟩ := hW
  have hA : DataW.TrodAll enc Try.prog W 0 (fun _ => true) true Try.f5.params.toList args.toList ds p := hA0
  obtain ⟨rfl, rfl⟩ := trodVars_none hV
  have hsz : (DataW.weightsEach Try.prog (Try.f5.params.toList ++ []) (ds ++ [])).all (· ≤ reachBytes) = true := hsz0
  rw [Try.params5] at hA hval hsz
  have hA1 := hA
  obtain ⟨v0, vs0, d0, ds0, p0, q0, hargs, rfl, rfl, h0, r0⟩ := trodAll_cons hA
  obtain ⟨v1, vs1, d1, ds1, p1, q1, rfl, rfl, rfl, h1, r1⟩ := trodAll_cons r0
  obtain ⟨rfl, rfl, rfl⟩ := trodAll_nil r1
  obtain rfl : args = #[v0, v1] := by cases args; simp_all
  have hbulk : Rows.uptoBulkAll [d0, d1] ≤ 1048576 := of_decide_eq_true hk
  simp only [Rows.uptoBulkAll] at hbulk
  clear hA0 hval0
  have o34 : Opens Try.prog 34 (Kd.slice 5 (Kd.int .u8)) _ _ := opens_slice 0 Try.underlying34 (by kernel_rfl) (opens_int Try.underlying5)
  obtain ⟨A, c, xs, rfl, hl, hC, hb0, _⟩ := o34.sl Try.underlying34 (hval 0 34 v0 rfl rfl) h0
  obtain ⟨A1, c1, xs1, rfl, hl1, hC1, hb1, _⟩ := o34.sl Try.underlying34 (hval 1 34 v1 rfl rfl) h1
  have hx0 := bk_length xs
  have hx1 := bk_length xs1
  obtain ⟨k, hk1, hk2, hk3⟩ := DiffsPure.all xs xs1 (by omega)
  have walk := DiffsWalk.walk k A c xs A1 c1 xs1 W hC hl hC1 hl1 (by omega) (by omega) _ _ hk1 hk2 hk3
  refine walk.mono fun e W' ⟨he, bel⟩ => ?_
  subst he
  exact ⟨_, rfl, _, _, _, [], _, [], hW', trodAll_mk1 (shut_bool Try.underlying4 _), trodAll_below laidOut bel (by kernel_rfl) hA1, rfl, bel.frame _, fun h => by cases h⟩
theorem over : Rows.planDiffsUptoRow.holds Try.pinned ((Rows.OpenSpec.upto Rows.planDiffsSpec)) :=
  OpenClaim.holds_of_cond 5 Try.f5 rfl rfl rfl rfl rfl rfl rfl ⟨rfl, rfl, rfl, rfl, rfl⟩ rfl rfl rfl rfl rfl (by kernel_rfl) Try.func5 (by kernel_rfl)
    (of_decide_eq_true (by kernel_rfl)) (by unfold Func.isWrapper; first | (rw [if_pos (by decide +kernel)]; kernel_rfl) | (rw [if_neg (by decide +kernel)]; exact ⟨rfl, rfl⟩))
    (fun os started H enc _ F => lifted os started H enc F)
end Go.Proofs.Ytallfhhncibkpaa.RPlanDiffsUpto
namespace Go.Proofs.Ytallfhhncibkpaa
/-- The row, under a short name, for the claim. -/
theorem planDiffs_upto_holds : Rows.PlanDiffsUptoSaid := RPlanDiffsUpto.over
#print axioms planDiffs_upto_holds
end Go.Proofs.Ytallfhhncibkpaa
