/- PlanFits, the plain law: the copy is the list, both Fits tell the same. -/
import Derived.Test.YtallfhhncibkpaaPPlanFitsx
namespace Go.Proofs.Ytallfhhncibkpaa.FitPure
open Go.RowKit Go.Proofs.Ytallfhhncibkpaa.PPlanFits Go.Proofs.YtallfhhncibkpaaW.PrintWords

theorem rd_eq (l : List S24) (i : Nat) (h : i < l.length) : rd_T24 l (i : Int) = l[i] := by
  simp [rd_T24, List.getD_eq_getElem?_getD, h]

theorem wrap_succ (i n : Nat) (h : i < n) (hn : n ≤ 9223372036854775807) : wrap64 ((i : Int) + 1) = ((i + 1 : Nat) : Int) := by
  unfold wrap64; omega

theorem fit_same (l : List S24) (a : Int) (hn : l.length ≤ 9223372036854775807) : ∀ (k i : Nat), plan_Fit.l0 k a l (l.length : Int) (i : Int) = valiseref15_Fit.l0 k l a (i : Int) := by
  intro k
  induction k with
  | zero => intro i; rfl
  | succ k ih =>
    intro i
    simp only [plan_Fit.l0, valiseref15_Fit.l0]
    by_cases h : (i : Int) < (l.length : Int)
    · have h0 : (0 : Int) ≤ (i : Int) := by omega
      simp only [if_pos h, if_pos h0, wrap_succ i l.length (by omega) hn, ih]
    · simp only [if_neg h]

theorem fit_ends (l : List S24) (a : Int) (hn : l.length ≤ 9223372036854775807) : ∀ (d k i : Nat), l.length - i = d → d < k → ∃ r, valiseref15_Fit.l0 k l a (i : Int) = some r := by
  intro d
  induction d with
  | zero =>
    intro k i hd hk
    obtain ⟨k, rfl⟩ : ∃ m, k = m + 1 := ⟨k - 1, by omega⟩
    simp only [valiseref15_Fit.l0]
    rw [if_neg (by omega)]
    exact ⟨_, rfl⟩
  | succ d ih =>
    intro k i hd hk
    obtain ⟨k, rfl⟩ : ∃ m, k = m + 1 := ⟨k - 1, by omega⟩
    have := ih k (i + 1) (by omega) (by omega)
    simp only [valiseref15_Fit.l0]
    rw [if_pos (by omega), if_pos (by omega), wrap_succ i l.length (by omega) hn]
    repeat' split
    all_goals first | exact this | exact ⟨_, rfl⟩

theorem l1_ends (l : List S24) (a t : Int) (hn : l.length ≤ 9223372036854775807) (k0 : Nat) (hf : ∀ k, k0 ≤ k → valiseref15_Fit.f k l a = some t) : ∀ (d k i : Nat), l.length - i = d → d + k0 < k → valiselaw15_PlanFits.l1 k l a l t (i : Int) = some true := by
  intro d
  induction d with
  | zero =>
    intro k i hd hk
    obtain ⟨k, rfl⟩ : ∃ m, k = m + 1 := ⟨k - 1, by omega⟩
    simp only [valiselaw15_PlanFits.l1]
    rw [if_neg (by omega), hf k (by omega)]
    simp
  | succ d ih =>
    intro k i hd hk
    obtain ⟨k, rfl⟩ : ∃ m, k = m + 1 := ⟨k - 1, by omega⟩
    simp only [valiselaw15_PlanFits.l1]
    rw [if_pos (by omega), if_pos (by omega), if_pos (by omega), if_neg (by simp), wrap_succ i l.length (by omega) hn]
    exact ih k (i + 1) (by omega) (by omega)

theorem l0_ends (l : List S24) (a t : Int) (hn : l.length < 8796093022208) (k0 : Nat) (hp : ∀ k, k0 ≤ k → plan_Fit.f k l a = some t) (hf : ∀ k, k0 ≤ k → valiseref15_Fit.f k l a = some t) :
    ∀ (d k i : Nat), l.length - i = d → i ≤ l.length → d + l.length + 1 + k0 < k → valiselaw15_PlanFits.l0 k l a (l.take i) (i : Int) = some true := by
  intro d
  induction d with
  | zero =>
    intro k i hd hi hk
    obtain ⟨k, rfl⟩ : ∃ m, k = m + 1 := ⟨k - 1, by omega⟩
    obtain rfl : i = l.length := by omega
    simp only [valiselaw15_PlanFits.l0]
    rw [if_neg (by omega), List.take_length, hp k (by omega)]
    exact l1_ends l a t (by omega) k0 hf l.length k 0 (by omega) (by omega)
  | succ d ih =>
    intro k i hd hi hk
    obtain ⟨k, rfl⟩ : ∃ m, k = m + 1 := ⟨k - 1, by omega⟩
    simp only [valiselaw15_PlanFits.l0]
    rw [if_pos (by omega), if_pos (by omega), if_pos (by simp; omega), wrap_succ i l.length (by omega) (by omega)]
    have e : l.take i ++ [(⟨(rd_T24 l (i : Int)).f0, (rd_T24 l (i : Int)).f1⟩ : S24)] = l.take (i + 1) := by
      have hlt : i < l.length := by omega
      rw [rd_eq l i hlt, List.take_succ_eq_append_getElem hlt]
    rw [e]
    exact ih k (i + 1) (by omega) (by omega) (by omega)

theorem pure (l : List S24) (a : Int) (hn : l.length < 8796093022208) : ∃ k, valiselaw15_PlanFits.f k l a = some true := by
  obtain ⟨t, k0, ht⟩ : ∃ t k0, ∀ k, k0 ≤ k → valiseref15_Fit.f k l a = some t := by
    by_cases h : a < 0
    · exact ⟨-1, 0, fun k _ => by unfold valiseref15_Fit.f; rw [if_pos h]⟩
    · obtain ⟨r, hr⟩ := fit_ends l a (by omega) l.length (l.length + 1) 0 (by omega) (by omega)
      refine ⟨r, l.length + 1, fun k hk => ?_⟩
      have hr' : valiseref15_Fit.f (l.length + 1) l a = some r := by unfold valiseref15_Fit.f; rw [if_neg h]; exact hr
      exact at_rounds (valiseref15_Fit.mono l a) hk hr'
  have hp : ∀ k, k0 ≤ k → plan_Fit.f k l a = some t := by
    intro k hk
    have := ht k hk
    unfold valiseref15_Fit.f at this
    unfold plan_Fit.f
    rw [show (0 : Int) = ((0 : Nat) : Int) from rfl] at *
    rw [fit_same l a (by omega)]
    exact this
  exact ⟨l.length + l.length + 2 + k0, l0_ends l a t hn k0 hp ht l.length _ 0 (by omega) (by omega) (by omega)⟩
end Go.Proofs.Ytallfhhncibkpaa.FitPure
