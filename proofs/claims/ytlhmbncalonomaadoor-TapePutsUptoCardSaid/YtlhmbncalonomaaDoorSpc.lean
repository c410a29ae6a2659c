/- Plain lemmas: a name cut by the program and by the document; the suffix. -/
import Derived.Test.YtlhmbncalonomaaDoorQ1
namespace Go.Proofs.YtlhmbncalonomaaDoor.Spc
open Go.RowKit Go.Proofs.YtlhmbncalonomaaDoor.Q Go.Proofs.YtlhmbncalonomaaDoorW.PrintWords
set_option linter.unusedVariables false
set_option linter.unusedSimpArgs false
theorem w64 {n : Int} (h : -9223372036854775808 ≤ n ∧ n ≤ 9223372036854775807) : wrap64 n = n := by unfold wrap64; omega
theorem ext_size (s : ByteArray) (a b : Nat) (h : a ≤ b) (hb : b ≤ s.size) : (s.extract a b).size = b - a := by
  rw [ByteArray.size_extract]; omega
theorem split_no (s : ByteArray) (hs : s.size ≤ 1048576) : ∀ (d i k : Nat), 1 ≤ i → (155 < i ∨ s.size ≤ i) → s.size - i ≤ d → d < k → valiseref24_split.l0 k s (i : Int) = some (⟨#[]⟩, ⟨#[]⟩, false)
  | d, i, 0, _, _, _, hk => by omega
  | d, i, k + 1, h1, hc, hd, hk => by
    simp only [valiseref24_split.l0]
    by_cases hlt : (i : Int) < (s.size : Int)
    · have e1 : wrap64 ((i : Int) + 1) = ((i + 1 : Nat) : Int) := by rw [w64 (by omega)]; rfl
      have hn : ¬ (i : Int) ≤ 155 := by omega
      have ih := split_no s hs (d - 1) (i + 1) k (by omega) (by omega) (by omega) (by omega)
      rw [if_pos hlt, if_pos (by omega)]
      by_cases h47 : bt s (i : Int) = 47
      · rw [if_pos h47, if_neg hn, e1, ih]
      · rw [if_neg h47, e1, ih]
    · rw [if_neg hlt]
theorem cut_split (s : ByteArray) (hs : s.size ≤ 1048576) : ∀ (d i k : Nat), 1 ≤ i → s.size - i ≤ d → d < k → ∃ p r p' r' ok, tape_cut.l0 k s (i : Int) = some (p, r, ok) ∧ valiseref24_split.l0 k s (i : Int) = some (p', r', ok) ∧
    (ok = true → p = p' ∧ r = r' ∧ p.size ≤ 155 ∧ r.size ≤ 100 ∧ 1 ≤ r.size)
  | d, i, 0, _, _, hk => by omega
  | d, i, k + 1, h1, hd, hk => by
    simp only [valiseref24_split.l0, tape_cut.l0]
    by_cases hlt : (i : Int) < (s.size : Int)
    · have e1 : wrap64 ((i : Int) + 1) = ((i + 1 : Nat) : Int) := by rw [w64 (by omega)]; rfl
      have e2 : wrap64 ((wrap64 ((s.size : Int) - (i : Int))) - 1) = (s.size : Int) - i - 1 := by rw [w64 (n := (s.size : Int) - i) (by omega), w64 (by omega)]
      obtain ⟨p, r, p', r', ok, g1, g2, g3⟩ := cut_split s hs (d - 1) (i + 1) k (by omega) (by omega) (by omega)
      rw [if_pos hlt, if_pos hlt, if_pos (show (0 : Int) ≤ i by omega), if_pos (show (0 : Int) ≤ i by omega), e1, e2]
      by_cases h47 : bt s (i : Int) = 47
      · rw [if_pos h47, if_pos h47]
        by_cases h100 : (s.size : Int) - i - 1 ≤ 100
        · rw [if_pos h100, if_pos (show (i : Int) ≤ (s.size : Int) by omega), if_pos (show (0 : Int) ≤ ((i + 1 : Nat) : Int) by omega), if_pos (show ((i + 1 : Nat) : Int) ≤ (s.size : Int) by omega)]
          by_cases h155 : (i : Int) ≤ 155
          · rw [if_pos h155, if_pos h155]
            by_cases h0 : (s.size : Int) - i - 1 ≥ 1
            · rw [if_pos h0, if_pos h100, if_pos (show (i : Int) ≤ (s.size : Int) by omega), if_pos (show (0 : Int) ≤ ((i + 1 : Nat) : Int) by omega), if_pos (show ((i + 1 : Nat) : Int) ≤ (s.size : Int) by omega)]
              rw [decide_eq_true (show ((s.size : Int) - i - 1 > 0) by omega)]
              refine ⟨_, _, _, _, true, rfl, rfl, fun _ => ⟨rfl, rfl, ?_, ?_, ?_⟩⟩
              · rw [ext_size _ _ _ (by omega) (by omega)]; omega
              · rw [ext_size _ _ _ (by omega) (by omega)]; omega
              · rw [ext_size _ _ _ (by omega) (by omega)]; omega
            · rw [if_neg h0, split_no s hs (d - 1) (i + 1) k (by omega) (by omega) (by omega) (by omega)]
              rw [decide_eq_false (show ¬ ((s.size : Int) - i - 1 > 0) by omega)]
              exact ⟨_, _, _, _, false, rfl, rfl, fun h => by cases h⟩
          · rw [if_neg h155, if_neg h155, split_no s hs (d - 1) (i + 1) k (by omega) (by omega) (by omega) (by omega)]
            exact ⟨_, _, _, _, false, rfl, rfl, fun h => by cases h⟩
        · rw [if_neg h100]
          refine ⟨p, r, p', r', ok, g1, ?_, g3⟩
          by_cases h155 : (i : Int) ≤ 155
          · rw [if_pos h155, if_pos (show (s.size : Int) - i - 1 ≥ 1 by omega), if_neg h100]; exact g2
          · rw [if_neg h155]; exact g2
      · rw [if_neg h47, if_neg h47]
        exact ⟨p, r, p', r', ok, g1, g2, g3⟩
    · rw [if_neg hlt, if_neg hlt]
      exact ⟨_, _, _, _, false, rfl, rfl, fun h => by cases h⟩
/-- What cut tells. -/
def cutP (s : ByteArray) : ByteArray × ByteArray × Bool := (tape_cut.f (s.size + 2) s).getD (⟨#[]⟩, ⟨#[]⟩, false)
/-- What split tells. -/
def splitP (s : ByteArray) : ByteArray × ByteArray × Bool := (valiseref24_split.f (s.size + 2) s).getD (⟨#[]⟩, ⟨#[]⟩, false)
theorem cuts (s : ByteArray) (hs : s.size ≤ 1048576) : tape_cut.f (s.size + 2) s = some (cutP s) ∧ valiseref24_split.f (s.size + 2) s = some (splitP s) ∧ (cutP s).2.2 = (splitP s).2.2 ∧
    ((cutP s).2.2 = true → cutP s = splitP s ∧ (cutP s).1.size ≤ 155 ∧ (cutP s).2.1.size ≤ 100 ∧ 1 ≤ (cutP s).2.1.size) := by
  by_cases h : (s.size : Int) ≤ 100
  · have e1 : tape_cut.f (s.size + 2) s = some (⟨#[]⟩, s, decide ((s.size : Int) > 0)) := by unfold tape_cut.f; rw [if_pos h]
    have e2 : valiseref24_split.f (s.size + 2) s = some (⟨#[]⟩, s, decide ((s.size : Int) > 0)) := by unfold valiseref24_split.f; rw [if_pos h]
    have c1 : cutP s = (⟨#[]⟩, s, decide ((s.size : Int) > 0)) := by unfold cutP; rw [e1]; rfl
    have c2 : splitP s = (⟨#[]⟩, s, decide ((s.size : Int) > 0)) := by unfold splitP; rw [e2]; rfl
    rw [c1, c2]
    refine ⟨e1, e2, rfl, fun h0 => ⟨rfl, ?_, ?_, ?_⟩⟩
    · show (0 : Nat) ≤ 155
      omega
    · show s.size ≤ 100
      omega
    · have := of_decide_eq_true h0
      show 1 ≤ s.size
      omega
  · obtain ⟨p, r, p', r', ok, g1, g2, g3⟩ := cut_split s hs s.size 1 (s.size + 2) (by omega) (by omega) (by omega)
    have e1 : tape_cut.f (s.size + 2) s = some (p, r, ok) := by unfold tape_cut.f; rw [if_neg h]; exact g1
    have e2 : valiseref24_split.f (s.size + 2) s = some (p', r', ok) := by unfold valiseref24_split.f; rw [if_neg h]; exact g2
    have c1 : cutP s = (p, r, ok) := by unfold cutP; rw [e1]; rfl
    have c2 : splitP s = (p', r', ok) := by unfold splitP; rw [e2]; rfl
    rw [c1, c2]
    refine ⟨e1, e2, rfl, fun h0 => ?_⟩
    obtain ⟨h1, h2, h3, h4, h5⟩ := g3 h0
    exact ⟨by rw [h1, h2], h3, h4, h5⟩
end Go.Proofs.YtlhmbncalonomaaDoor.Spc
