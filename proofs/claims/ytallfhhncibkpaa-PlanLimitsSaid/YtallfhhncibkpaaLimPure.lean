/- PlanLimits, the plain law: the two printed functions tell the same number, at every four numbers. -/
import Derived.Test.YtallfhhncibkpaaPPlanLimitsx
namespace Go.Proofs.Ytallfhhncibkpaa.LimPure
open Go.RowKit Go.Proofs.Ytallfhhncibkpaa.PPlanLimits Go.Proofs.YtallfhhncibkpaaW.PrintWords

theorem limits_same (a b c d : Int) : plan_Limits.f 2 a b c d = valiseref15_Limits.f 2 a b c d := by
  simp only [plan_Limits.f, valiseref15_Limits.f, plan_Limits.j0, plan_Limits.j1, valiseref15_Limits.j0, valiseref15_Limits.j1]
  by_cases h1 : a < 0 <;> by_cases h2 : b < 0 <;> by_cases h3 : c < 0 <;> by_cases h4 : c > 65535 <;> by_cases h5 : d < 0 <;> by_cases h6 : d > 4294967295 <;> simp [h1, h2, h3, h4, h5, h6]
  all_goals by_cases h7 : c = 0 <;> simp [h7]
  all_goals repeat' split
  all_goals first | rfl | omega

theorem ite_ex {α : Type} {c : Prop} [Decidable c] {x y : Option α} (hx : ∃ r, x = some r) (hy : ∃ r, y = some r) : ∃ r, (if c then x else y) = some r := by
  split
  · exact hx
  · exact hy

theorem limits_some (a b c d : Int) : ∃ r, valiseref15_Limits.f 2 a b c d = some r := by
  simp only [valiseref15_Limits.f, valiseref15_Limits.j0, valiseref15_Limits.j1]
  repeat' (first | refine ite_ex ?_ ?_ | exact ⟨_, rfl⟩)

theorem pure (a b c d : Int) : valiselaw15_PlanLimits.f 2 a b c d = some true := by
  obtain ⟨r, hr⟩ := limits_some a b c d
  unfold valiselaw15_PlanLimits.f valiselaw15_num.f
  rw [limits_same, hr]
  simp
end Go.Proofs.Ytallfhhncibkpaa.LimPure
