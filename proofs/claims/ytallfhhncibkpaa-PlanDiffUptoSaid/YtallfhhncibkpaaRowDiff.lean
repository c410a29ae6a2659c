/- The row of PlanDiff (own text): the arguments opened, the walk, all read again. -/
import Derived.Test.YtallfhhncibkpaaOpn
import Derived.Test.YtallfhhncibkpaaDiffJoin
import Derived.JoinedCond
import Derived.Deep.CondSized
import Derived.ChangeOld
import Derived.ShutString
import Derived.SizedLaws
namespace Go.Proofs.Ytallfhhncibkpaa.RPlanDiffUpto
open Go.ChangeShapes Go.WideShapes Go.ChangeAt Go.RowKit Go.Proofs.Ytallfhhncibkpaa.Opn Go.Proofs.YtallfhhncibkpaaW.PrintWords
open Go.ChangeMaps (open_string shut_string)
set_option linter.unusedVariables false
set_option linter.unusedSimpArgs false
theorem own : ownKnob Try.prog.godebug = none := by kernel_rfl
theorem laidOut : laidOutB Try.prog = true := by kernel_rfl
set_option maxRecDepth 100000 in
theorem lifted (os : Os) (started : os.Started) (H : Type) (enc : TypeId × Value → H) (F : Stop.Interp) :
    ReturnsInHanded {} Try.checked os 6 .any ((Rows.OpenSpec.upto Rows.planDiffSpec).pre6 enc Try.prog Try.f6 Rows.planDiffUptoRow.domain false) (((Rows.OpenSpec.upto Rows.planDiffSpec).at F).post enc Try.prog Try.f6 false true false false) := by
  refine returnsInHanded_of_cond_sized (C := Try.checked) (s := (Rows.OpenSpec.upto Rows.planDiffSpec)) (k := Rows.uptoSmall) rfl own started (by kernel_rfl) Try.func6
    (OpenSpec.witness (enc := enc) (C := Try.checked) (s := (Rows.OpenSpec.upto Rows.planDiffSpec)) (k := Rows.uptoSmall) rfl false ⟨#[], #[.slice none 0 0, .slice none 0 0], []⟩ 8 (by kernel_rfl) (by kernel_rfl) (by kernel_rfl)
      (x := ([.nil, .nil], [], [])) (by kernel_rfl) rfl (by kernel_rfl)) ?_
  intro W base args ds gs before hval0 hW hcnd hk hsz0 _
  have hval : ∀ (j : Nat) t v, Try.f6.params[j]? = some t → args[j]? = some v → Value.okWide Try.prog W .any base t v := hval0
  have hW' := hW
  obtain ⟨p, q, hA0, hV, rfl, hfz, hnd⟩ := hW
  have hA : DataW.TrodAll enc Try.prog W 0 (fun _ => true) true Try.f6.params.toList args.toList ds p := hA0
  obtain ⟨rfl, rfl⟩ := trodVars_none hV
  have hsz : (DataW.weightsEach Try.prog (Try.f6.params.toList ++ []) (ds ++ [])).all (· ≤ reachBytes) = true := hsz0
  rw [Try.params6] at hA hval hsz
  have hA1 := hA
  obtain ⟨v0, vs0, d0, ds0, p0, q0, hargs, rfl, rfl, h0, r0⟩ := trodAll_cons hA
  obtain ⟨v1, vs1, d1, ds1, p1, q1, rfl, rfl, rfl, h1, r1⟩ := trodAll_cons r0
  obtain ⟨rfl, rfl, rfl⟩ := trodAll_nil r1
  obtain rfl : args = #[v0, v1] := by cases args; simp_all
  have hbulk : Rows.uptoBulkAll [d0, d1] ≤ 1048576 := of_decide_eq_true hk
  simp only [Rows.uptoBulkAll] at hbulk
  clear hA0 hval0
  have o34 : Opens Try.prog 34 (Kd.slice 5 (Kd.int .u8)) _ _ := opens_slice 0 Try.underlying34 (by kernel_rfl) (opens_int Try.underlying5)
  obtain ⟨A, c, xs, rfl, hl, hC, hb0, _⟩ := o34.sl Try.underlying34 (hval 0 34 v0 rfl rfl) h0
  obtain ⟨A1, c1, xs1, rfl, hl1, hC1, hb1, _⟩ := o34.sl Try.underlying34 (hval 1 34 v1 rfl rfl) h1
  have hx0 := bk_length xs
  have hx1 := bk_length xs1
  obtain ⟨k, l, hG, e1, e2, e3, e4, e5, e6, e7⟩ := DiffJoin.all xs xs1 (by omega) (by omega)
  have walk := DiffWalk.walk k A c xs A1 c1 xs1 W hC hl hC1 hl1 (by omega) (by omega) _ l hG e1 e2 e3 e4 e5 (DiffPure.lays_diffs xs xs1) e6 e7
  refine walk.mono fun e W' ⟨he, bel⟩ => ?_
  subst he
  exact ⟨_, rfl, _, _, _, [], _, [], hW', trodAll_mk1 (shut_bool Try.underlying4 _), trodAll_below laidOut bel (by kernel_rfl) hA1, rfl, bel.frame _, fun h => by cases h⟩
theorem over : Rows.planDiffUptoRow.holds Try.pinned ((Rows.OpenSpec.upto Rows.planDiffSpec)) :=
  OpenClaim.holds_of_cond 6 Try.f6 rfl rfl rfl rfl rfl rfl rfl ⟨rfl, rfl, rfl, rfl, rfl⟩ rfl rfl rfl rfl rfl (by kernel_rfl) Try.func6 (by kernel_rfl)
    (of_decide_eq_true (by kernel_rfl)) (by unfold Func.isWrapper; first | (rw [if_pos (by decide +kernel)]; kernel_rfl) | (rw [if_neg (by decide +kernel)]; exact ⟨rfl, rfl⟩))
    (fun os started H enc _ F => lifted os started H enc F)
end Go.Proofs.Ytallfhhncibkpaa.RPlanDiffUpto
namespace Go.Proofs.Ytallfhhncibkpaa
/-- The row, under a short name, for the claim. -/
theorem planDiff_upto_holds : Rows.PlanDiffUptoSaid := RPlanDiffUpto.over
#print axioms planDiff_upto_holds
end Go.Proofs.Ytallfhhncibkpaa
