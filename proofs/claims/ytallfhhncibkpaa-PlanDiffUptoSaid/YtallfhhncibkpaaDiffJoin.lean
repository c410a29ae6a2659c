/- PlanDiff: what the walk asks, at one number of rounds. -/
import Derived.Test.YtallfhhncibkpaaDiffWalk
namespace Go.Proofs.Ytallfhhncibkpaa.DiffJoin
open Go.RowKit Go.Proofs.Ytallfhhncibkpaa.Q Go.Proofs.Ytallfhhncibkpaa.DiffsPure Go.Proofs.Ytallfhhncibkpaa.DiffPure Go.Proofs.YtallfhhncibkpaaW.PrintWords

theorem all (old next : List Int) (ho : old.length ≤ 1048576) (hn : next.length ≤ 1048576) : ∃ k l, G old next next.length (diffs old next) l ∧ valiselaw15_copied.f k old = some old ∧ valiselaw15_copied.f k next = some next ∧
    plan_Diff.f k old next = some (diffs old next) ∧ plan_Diff.f k next next = some [] ∧ journal_right.f k (next.length : Int) (diffs old next) = some true ∧ valiselaw15_same.f k next next = some true ∧ valiselaw15_again.f k old next = some true := by
  obtain ⟨l, hG⟩ := g_all old next
  obtain ⟨k1, h1⟩ := copied_ev old ho
  obtain ⟨k2, h2⟩ := copied_ev next hn
  obtain ⟨k3, h3⟩ := plan_diff old next hn
  obtain ⟨k4, h4⟩ := plan_diff next next hn
  obtain ⟨k5, h5⟩ := right_f old next hn
  obtain ⟨k6, h6⟩ := same_f next (by omega)
  obtain ⟨k7, h7⟩ := again_f old next ho hn
  rw [diffs_self] at h4
  exact ⟨k1 + k2 + k3 + k4 + k5 + k6 + k7, l, hG, h1 _ (by omega), h2 _ (by omega), h3 _ (by omega), h4 _ (by omega), h5 _ (by omega), h6 _ (by omega), h7 _ (by omega)⟩
end Go.Proofs.Ytallfhhncibkpaa.DiffJoin
