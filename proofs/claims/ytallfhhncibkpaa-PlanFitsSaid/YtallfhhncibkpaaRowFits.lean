/- The row of PlanFits (own text): the arguments opened, the walk, all read again. -/
import Derived.Test.YtallfhhncibkpaaOpn
import Derived.Test.YtallfhhncibkpaaFitPure
import Derived.JoinedCond
import Derived.Deep.CondSized
import Derived.ChangeOld
import Derived.ShutString
import Derived.SizedLaws
namespace Go.Proofs.Ytallfhhncibkpaa.RPlanFits
open Go.ChangeShapes Go.WideShapes Go.ChangeAt Go.RowKit Go.Proofs.Ytallfhhncibkpaa.Opn Go.Proofs.YtallfhhncibkpaaW.PrintWords
open Go.ChangeMaps (open_string shut_string)
set_option linter.unusedVariables false
set_option linter.unusedSimpArgs false
theorem own : ownKnob Try.prog.godebug = none := by kernel_rfl
theorem laidOut : laidOutB Try.prog = true := by kernel_rfl
set_option maxRecDepth 100000 in
theorem lifted (os : Os) (started : os.Started) (H : Type) (enc : TypeId × Value → H) :
    ReturnsInHanded {} Try.checked os 3 .any (Rows.planFitsSpec.pre6 enc Try.prog Try.f3 Rows.planFitsRow.domain false) (Rows.planFitsSpec.post enc Try.prog Try.f3 false true false false) := by
  refine returnsInHanded_of_change_sized (C := Try.checked) own started (by kernel_rfl) Try.func3
    (ChangeSpec.witness6 (enc := enc) (C := Try.checked) false ⟨#[], #[.slice none 0 0, .int .i64 0], []⟩ 8 (by kernel_rfl) (by kernel_rfl) (by kernel_rfl) (by kernel_rfl)) ?_
  intro W base args ds gs before hval0 hW hcnd hsz0 _
  have hval : ∀ (j : Nat) t v, Try.f3.params[j]? = some t → args[j]? = some v → Value.okWide Try.prog W .any base t v := hval0
  have hW' := hW
  obtain ⟨p, q, hA0, hV, rfl, hfz, hnd⟩ := hW
  have hA : DataW.TrodAll enc Try.prog W 0 (fun _ => true) true Try.f3.params.toList args.toList ds p := hA0
  obtain ⟨rfl, rfl⟩ := trodVars_none hV
  have hsz : (DataW.weightsEach Try.prog (Try.f3.params.toList ++ []) (ds ++ [])).all (· ≤ reachBytes) = true := hsz0
  rw [Try.params3] at hA hval hsz
  have hA1 := hA
  obtain ⟨v0, vs0, d0, ds0, p0, q0, hargs, rfl, rfl, h0, r0⟩ := trodAll_cons hA
  obtain ⟨v1, vs1, d1, ds1, p1, q1, rfl, rfl, rfl, h1, r1⟩ := trodAll_cons r0
  obtain ⟨rfl, rfl, rfl⟩ := trodAll_nil r1
  obtain rfl : args = #[v0, v1] := by cases args; simp_all
  clear hA0 hval0
  have o24 : Opens Try.prog 24 PPlanFits.k24 _ _ := opens_iso (fun x : PPlanFits.S24 => (x.f0, x.f1)) (fun x => ⟨x.1, x.2⟩) (fun _ => rfl) (opens_struct Try.underlying24 (by kernel_rfl) (opensF_cons (by rfl) (by kernel_rfl) (opens_int Try.underlying3) (opensF_last (by rfl) (by kernel_rfl) (opens_int Try.underlying3))))
  have o22 : Opens Try.prog 22 (Kd.slice 24 PPlanFits.k24) _ _ := opens_slice PPlanFits.z24 Try.underlying22 (by kernel_rfl) o24
  have hs : ∀ A len c, v0 = .slice A len c → len * 16 ≤ 140737488351232 := fun A len c e => sized_any hsz (j := 0) (t := 22) rfl rfl Try.underlying22 (by kernel_rfl) (e ▸ h0)
  obtain ⟨A, c, xs, rfl, hl, hC, _, _⟩ := o22.sl Try.underlying22 (hval 0 22 v0 rfl rfl) h0
  obtain ⟨a1, rfl, rfl, rfl, w1⟩ := open_int Try.underlying3 (hval 1 3 v1 rfl rfl) h1
  have hs' := hs _ _ _ rfl
  clear hs
  obtain ⟨k, hk⟩ := FitPure.pure xs a1 (by omega)
  have walk := PPlanFits.valiselaw15_PlanFits.calls k A c xs a1 true W hC hl hk
  refine walk.mono fun e W' ⟨he, bel⟩ => ?_
  subst he
  exact ⟨_, rfl, _, _, _, [], _, [], hW', trodAll_mk1 (shut_bool Try.underlying4 _), trodAll_below laidOut bel (by kernel_rfl) hA1, rfl, bel.frame _, fun h => by cases h⟩
theorem over : Rows.planFitsRow.holds Try.pinned (OpenSpec.ofChange Rows.planFitsSpec) :=
  OpenClaim.holds_of_wide 3 Try.f3 rfl rfl rfl rfl rfl rfl rfl ⟨rfl, rfl, rfl, rfl, rfl⟩ rfl rfl rfl rfl rfl (by kernel_rfl) Try.func3 (by kernel_rfl)
    (of_decide_eq_true (by kernel_rfl)) (by unfold Func.isWrapper; first | (rw [if_pos (by decide +kernel)]; kernel_rfl) | (rw [if_neg (by decide +kernel)]; exact ⟨rfl, rfl⟩))
    (fun os started H enc _ => lifted os started H enc)
end Go.Proofs.Ytallfhhncibkpaa.RPlanFits
namespace Go.Proofs.Ytallfhhncibkpaa
/-- The row, under a short name, for the claim. -/
theorem planFits_holds : Rows.PlanFitsSaid := RPlanFits.over
#print axioms planFits_holds
end Go.Proofs.Ytallfhhncibkpaa
