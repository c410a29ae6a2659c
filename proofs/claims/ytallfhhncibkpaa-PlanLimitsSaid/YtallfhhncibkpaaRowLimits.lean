/- The row of PlanLimits (own text): the arguments opened, the walk, all read again. -/
import Derived.Test.YtallfhhncibkpaaOpn
import Derived.Test.YtallfhhncibkpaaLimPure
import Derived.JoinedCond
import Derived.Deep.CondSized
import Derived.ChangeOld
import Derived.ShutString
import Derived.SizedLaws
namespace Go.Proofs.Ytallfhhncibkpaa.RPlanLimits
open Go.ChangeShapes Go.WideShapes Go.ChangeAt Go.RowKit Go.Proofs.Ytallfhhncibkpaa.Opn Go.Proofs.YtallfhhncibkpaaW.PrintWords
open Go.ChangeMaps (open_string shut_string)
set_option linter.unusedVariables false
set_option linter.unusedSimpArgs false
theorem own : ownKnob Try.prog.godebug = none := by kernel_rfl
theorem laidOut : laidOutB Try.prog = true := by kernel_rfl
set_option maxRecDepth 100000 in
theorem lifted (os : Os) (started : os.Started) (H : Type) (enc : TypeId × Value → H) :
    ReturnsInHanded {} Try.checked os 4 .any (Rows.planLimitsSpec.pre6 enc Try.prog Try.f4 Rows.planLimitsRow.domain false) (Rows.planLimitsSpec.post enc Try.prog Try.f4 false true false false) := by
  refine returnsInHanded_of_change_sized (C := Try.checked) own started (by kernel_rfl) Try.func4
    (ChangeSpec.witness6 (enc := enc) (C := Try.checked) false ⟨#[], #[.int .i64 0, .int .i64 0, .agg #[.int .i64 0, .int .i64 0]], []⟩ 8 (by kernel_rfl) (by kernel_rfl) (by kernel_rfl) (by kernel_rfl)) ?_
  intro W base args ds gs before hval0 hW hcnd hsz0 _
  have hval : ∀ (j : Nat) t v, Try.f4.params[j]? = some t → args[j]? = some v → Value.okWide Try.prog W .any base t v := hval0
  have hW' := hW
  obtain ⟨p, q, hA0, hV, rfl, hfz, hnd⟩ := hW
  have hA : DataW.TrodAll enc Try.prog W 0 (fun _ => true) true Try.f4.params.toList args.toList ds p := hA0
  obtain ⟨rfl, rfl⟩ := trodVars_none hV
  have hsz : (DataW.weightsEach Try.prog (Try.f4.params.toList ++ []) (ds ++ [])).all (· ≤ reachBytes) = true := hsz0
  rw [Try.params4] at hA hval hsz
  have hA1 := hA
  obtain ⟨v0, vs0, d0, ds0, p0, q0, hargs, rfl, rfl, h0, r0⟩ := trodAll_cons hA
  obtain ⟨v1, vs1, d1, ds1, p1, q1, rfl, rfl, rfl, h1, r1⟩ := trodAll_cons r0
  obtain ⟨v2, vs2, d2, ds2, p2, q2, rfl, rfl, rfl, h2, r2⟩ := trodAll_cons r1
  obtain ⟨rfl, rfl, rfl⟩ := trodAll_nil r2
  obtain rfl : args = #[v0, v1, v2] := by cases args; simp_all
  clear hA0 hval0
  obtain ⟨a0, rfl, rfl, rfl, w0⟩ := open_int Try.underlying3 (hval 0 3 v0 rfl rfl) h0
  obtain ⟨a1, rfl, rfl, rfl, w1⟩ := open_int Try.underlying3 (hval 1 3 v1 rfl rfl) h1
  have o28 : Opens Try.prog 28 (Kd.pair (Kd.int .i64) (Kd.int .i64)) _ _ := opens_struct Try.underlying28 (by kernel_rfl) (opensF_cons (by rfl) (by kernel_rfl) (opens_int Try.underlying3) (opensF_last (by rfl) (by kernel_rfl) (opens_int Try.underlying3)))
  obtain ⟨x, cs, rfl, hx, _, _⟩ := o28.agg Try.underlying28 (hval 2 28 v2 rfl rfl) h2
  obtain ⟨c0, c1, hcs, hc0, hc1⟩ := hx
  obtain rfl : cs = #[.int .i64 x.1, .int .i64 x.2] := by
    cases cs
    rw [hc0, hc1] at hcs
    simpa using hcs
  have walk := PPlanLimits.valiselaw15_PlanLimits.calls 2 a0 a1 x.1 x.2 true W (LimPure.pure _ _ _ _)
  refine walk.mono fun e W' ⟨he, bel⟩ => ?_
  subst he
  exact ⟨_, rfl, _, _, _, [], _, [], hW', trodAll_mk1 (shut_bool Try.underlying4 _), trodAll_below laidOut bel (by kernel_rfl) hA1, rfl, bel.frame _, fun h => by cases h⟩
theorem over : Rows.planLimitsRow.holds Try.pinned (OpenSpec.ofChange Rows.planLimitsSpec) :=
  OpenClaim.holds_of_wide 4 Try.f4 rfl rfl rfl rfl rfl rfl rfl ⟨rfl, rfl, rfl, rfl, rfl⟩ rfl rfl rfl rfl rfl (by kernel_rfl) Try.func4 (by kernel_rfl)
    (of_decide_eq_true (by kernel_rfl)) (by unfold Func.isWrapper; first | (rw [if_pos (by decide +kernel)]; kernel_rfl) | (rw [if_neg (by decide +kernel)]; exact ⟨rfl, rfl⟩))
    (fun os started H enc _ => lifted os started H enc)
end Go.Proofs.Ytallfhhncibkpaa.RPlanLimits
namespace Go.Proofs.Ytallfhhncibkpaa
/-- The row, under a short name, for the claim. -/
theorem planLimits_holds : Rows.PlanLimitsSaid := RPlanLimits.over
#print axioms planLimits_holds
end Go.Proofs.Ytallfhhncibkpaa
