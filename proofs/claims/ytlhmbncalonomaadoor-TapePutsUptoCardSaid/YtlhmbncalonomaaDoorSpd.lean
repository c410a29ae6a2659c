/- Plain lemmas: the program's and the document's soundness are one. -/
import Derived.Test.YtlhmbncalonomaaDoorSpc
import Derived.Test.YtlhmbncalonomaaDoorSnd
import Derived.Test.YtlhmbncalonomaaDoorQ2
namespace Go.Proofs.YtlhmbncalonomaaDoor.Spd
open Go.RowKit Go.Proofs.YtlhmbncalonomaaDoor.Q Go.Proofs.YtlhmbncalonomaaDoor.Snd Go.Proofs.YtlhmbncalonomaaDoor.Spc Go.Proofs.YtlhmbncalonomaaDoorW.PrintWords
set_option linter.unusedVariables false
set_option linter.unusedSimpArgs false
/-- Has a text a zero byte? -/
def z0 (s : ByteArray) : Bool := s.data.toList.any (· == 0)
theorem indexByte_pos (l : List UInt8) : decide (0 ≤ Lib.indexByte l 0) = l.any (· == 0) := by
  induction l with
  | nil => rfl
  | cons b r ih =>
    simp only [Lib.indexByte, List.any_cons]
    by_cases hb : b == 0
    · simp [hb]
    · simp only [hb, Bool.false_or, ← ih]
      have := Lib.indexByte_ge r 0
      by_cases h1 : Lib.indexByte r 0 = -1
      · simp [h1]
      · simp [h1]; omega
theorem has0_z0 (s : ByteArray) : has0 s = z0 s := indexByte_pos _
theorem z0_app (a b : ByteArray) : z0 (a ++ b) = (z0 a || z0 b) := by
  unfold z0
  rw [ByteArray.data_append, Array.toList_append, List.any_append]
theorem bt0 (s : ByteArray) (i : Nat) (h : i < s.size) : (bt s (i : Int) = 0) ↔ (s.data.toList[i]'(by rw [Array.length_toList]; exact h) = 0) := by
  unfold bt
  simp only [Int.toNat_natCast, h, dif_pos]
  have e : s[i] = s.data.toList[i]'(by rw [Array.length_toList]; exact h) := rfl
  rw [e]
  generalize s.data.toList[i]'(by rw [Array.length_toList]; exact h) = c
  constructor
  · intro hc
    have : c.toNat = 0 := by omega
    exact UInt8.toNat_inj.1 this
  · rintro rfl; rfl
theorem zeros_eq (s : ByteArray) (hs : s.size ≤ 1048576) : ∀ (d i k : Nat), s.size - i ≤ d → d < k → valiseref24_zeros.l0 k s (i : Int) = some ((s.data.toList.drop i).any (· == 0))
  | d, i, 0, _, hk => by omega
  | d, i, k + 1, hd, hk => by
    simp only [valiseref24_zeros.l0]
    by_cases hlt : (i : Int) < (s.size : Int)
    · have e1 : wrap64 ((i : Int) + 1) = ((i + 1 : Nat) : Int) := by rw [w64 (by omega)]; rfl
      have hl : i < s.data.toList.length := by rw [Array.length_toList]; exact (by omega : i < s.size)
      rw [if_pos hlt, if_pos (by omega), List.drop_eq_getElem_cons hl, List.any_cons, e1, zeros_eq s hs (d - 1) (i + 1) k (by omega) (by omega)]
      by_cases hc : s.data.toList[i] = 0
      · rw [if_pos ((bt0 s i (by omega)).2 hc)]; simp [hc]
      · rw [if_neg (fun h => hc ((bt0 s i (by omega)).1 h)), beq_eq_false_iff_ne.2 hc, Bool.false_or]
    · rw [if_neg hlt, List.drop_eq_nil_of_le (by rw [Array.length_toList]; exact (by omega : s.size ≤ i))]; rfl
theorem zeros_f (s : ByteArray) (hs : s.size ≤ 1048576) (k : Nat) (hk : s.size < k) : valiseref24_zeros.f k s = some (z0 s) := by
  have := zeros_eq s hs s.size 0 k (by omega) hk
  rw [List.drop_zero] at this
  exact this
/-- Does a name end in a slash? -/
def sl47 (s : ByteArray) : Bool := decide (1 ≤ s.size) && decide (bt s ((s.size : Int) - 1) = 47)
theorem suffix_eq (s : ByteArray) (hs : s.size ≤ 1048576) : strings_HasSuffix.f s ⟨#[47]⟩ = some (sl47 s) := by
  have e0 : ((⟨#[47]⟩ : ByteArray).size : Int) = 1 := rfl
  unfold strings_HasSuffix.f stringslite_HasSuffix.f sl47
  rw [e0]
  by_cases h : (s.size : Int) ≥ 1
  · have e1 : wrap64 ((s.size : Int) - 1) = (s.size : Int) - 1 := w64 (by omega)
    rw [if_pos h, e1, if_pos (by omega), if_pos (by omega), decide_eq_true (by omega : 1 ≤ s.size)]
    simp only [Option.bind_some, Bool.true_and, Option.some.injEq]
    have hl : s.size - 1 < s.data.toList.length := by rw [Array.length_toList]; exact (by omega : s.size - 1 < s.size)
    have e2 : (s.extract ((s.size : Int) - 1).toNat s.size).toList = [s.data.toList[s.size - 1]] := by
      have e3 : ((s.size : Int) - 1).toNat = s.size - 1 := by omega
      rw [e3]
      have e4 : ∀ t : ByteArray, t.toList = t.data.toList := fun t => by obtain ⟨⟨l⟩⟩ := t; simp
      rw [e4, ByteArray.data_extract, Array.toList_extract, List.extract_eq_take_drop]
      have e5 : s.size - (s.size - 1) = 1 := by omega
      rw [e5, List.drop_eq_getElem_cons hl]
      rfl
    rw [e2]
    have e6 : ((⟨#[47]⟩ : ByteArray)).toList = [47] := by decide +kernel
    rw [e6]
    have e7 : (s.size : Int) - 1 = ((s.size - 1 : Nat) : Int) := by omega
    rw [e7]
    unfold bt
    have e8 : s.size - 1 < s.size := by omega
    simp only [Int.toNat_natCast, e8, dif_pos]
    have e : s[s.size - 1] = s.data.toList[s.size - 1] := rfl
    rw [e]
    generalize s.data.toList[s.size - 1] = c
    by_cases hc : c = 47
    · subst hc; rfl
    · have : ¬ ((c.toNat : Int) = 47) := fun h => hc (UInt8.toNat_inj.1 (by show c.toNat = 47; omega))
      simp [hc, this]
  · rw [if_neg h, decide_eq_false (by omega : ¬ 1 ≤ s.size)]
    rfl
/-- What the kind asks. -/
def finB (f0 f1 : ByteArray) (f4 : Int) (n9 : Nat) : Bool :=
  if f4 = 0 then !sl47 f0 && decide (f1.size = 0) else if f4 = 2 then !sl47 f0 && decide (1 ≤ f1.size) && decide (f1.size ≤ 100) && decide (n9 = 0) else if f4 = 5 then sl47 f0 && decide (f1.size = 0) && decide (n9 = 0) else false
theorem empty_iff (s : ByteArray) : (s.toList = ([] : List UInt8)) ↔ s.size = 0 := by
  have e4 : s.toList = s.data.toList := by obtain ⟨⟨l⟩⟩ := s; simp
  rw [e4]
  constructor
  · intro h
    have : s.data.toList.length = 0 := by rw [h]; rfl
    rw [Array.length_toList] at this
    exact this
  · intro h
    apply List.eq_nil_of_length_eq_zero
    rw [Array.length_toList]
    exact h
theorem j1_eq (k : Nat) (b : Bool) (f0 f1 f2 f3 : ByteArray) (f4 f5 f6 f7 f8 : Int) (l9 : List Int) (h0 : f0.size ≤ 1048576) (hn : 1 ≤ f0.size) : valiseref24_Sound.j1 (k + 1) b f0 f1 f2 f3 f4 f5 f6 f7 f8 l9 = some (!b && finB f0 f1 f4 l9.length) := by
  simp only [valiseref24_Sound.j1]
  cases b with
  | true => rfl
  | false =>
    have e1 : wrap64 ((f0.size : Int) - 1) = (f0.size : Int) - 1 := w64 (by omega)
    have hs : sl47 f0 = decide (bt f0 ((f0.size : Int) - 1) = 47) := by unfold sl47; rw [decide_eq_true hn, Bool.true_and]
    have he : (f1.toList == ([] : List UInt8)) = decide (f1.size = 0) := by
      rw [Bool.eq_iff_iff, beq_iff_eq, decide_eq_true_eq]; exact empty_iff f1
    have hl : ((l9.length : Int) == 0) = decide (l9.length = 0) := by
      rw [Bool.eq_iff_iff, beq_iff_eq, decide_eq_true_eq]; omega
    have he2 : (f1.toList = ([] : List UInt8)) = (f1.size = 0) := propext (empty_iff f1)
    rw [if_neg (by simp), e1, if_pos (by omega), if_pos (by omega)]
    unfold finB
    rw [hs, hl, he]
    simp only [he2, Bool.not_false, Bool.true_and]
    by_cases a0 : f4 = 0
    · rw [if_pos a0, if_pos a0]
      by_cases c : bt f0 ((f0.size : Int) - 1) = 47 <;> simp [c]
    · rw [if_neg a0, if_neg a0]
      by_cases a2 : f4 = 2
      · rw [if_pos a2, if_pos a2]
        by_cases c : bt f0 ((f0.size : Int) - 1) = 47
        · simp [c]
        · by_cases c1 : 1 ≤ f1.size
          · by_cases c2 : f1.size ≤ 100
            · rw [if_neg c, if_pos (by omega), if_pos (by omega)]; simp [c, c1, c2]
            · rw [if_neg c, if_pos (by omega), if_neg (by omega)]; simp [c2]
          · rw [if_neg c, if_neg (by omega)]; simp [c1]
      · rw [if_neg a2, if_neg a2]
        by_cases a5 : f4 = 5
        · rw [if_pos a5, if_pos a5]
          by_cases c : bt f0 ((f0.size : Int) - 1) = 47
          · by_cases c1 : f1.size = 0 <;> simp [c, c1]
          · simp [c]
        · rw [if_neg a5, if_neg a5]
theorem j0_eq (k : Nat) (b : Bool) (f0 f1 f2 f3 : ByteArray) (f4 f5 f6 f7 f8 : Int) (l9 : List Int) (h0 : f0.size ≤ 1048576) (hn : b = false → 1 ≤ f0.size) : valiseref24_Sound.j0 (k + 2) b f0 f1 f2 f3 f4 f5 f6 f7 f8 l9 = some (!b && (inM f5 && inM f6 && inM f7) && !(decide (f8 < 0) || decide (8589934591 < f8)) && finB f0 f1 f4 l9.length) := by
  simp only [valiseref24_Sound.j0]
  cases b with
  | true => rfl
  | false =>
    have hn := hn rfl
    simp only [j1_eq k _ f0 f1 f2 f3 f4 f5 f6 f7 f8 l9 h0 hn, inM]
    rw [if_neg (by simp)]
    by_cases a1 : f5 < 0
    · simp [a1, show ¬ 0 ≤ f5 by omega]
    by_cases a2 : f5 > 2097151
    · simp [a2, show ¬ f5 ≤ 2097151 by omega]
    by_cases a3 : f6 < 0
    · simp [a3, show ¬ 0 ≤ f6 by omega]
    by_cases a4 : f6 > 2097151
    · simp [a4, show ¬ f6 ≤ 2097151 by omega]
    by_cases a5 : f7 < 0
    · simp [a5, show ¬ 0 ≤ f7 by omega]
    by_cases a6 : f7 > 2097151
    · simp [a6, show ¬ f7 ≤ 2097151 by omega]
    rw [if_neg a1, if_neg a2, if_neg a3, if_neg a4, if_neg a5, if_neg a6]
    simp only [show 0 ≤ f5 by omega, show f5 ≤ 2097151 by omega, show 0 ≤ f6 by omega, show f6 ≤ 2097151 by omega, show 0 ≤ f7 by omega, show f7 ≤ 2097151 by omega, decide_true, Bool.and_true, Bool.not_false, Bool.true_and]
    by_cases a7 : f8 < 0
    · simp [a7]
    · simp [a7]
theorem split_up (s : ByteArray) (hs : s.size ≤ 1048576) (k : Nat) (hk : s.size + 2 ≤ k) : valiseref24_split.f k s = some (splitP s) := by
  have key : ∀ j, valiseref24_split.f (s.size + 2 + j) s = some (splitP s) := by
    intro j
    induction j with
    | zero => exact (cuts s hs).2.1
    | succ j ih => exact valiseref24_split.mono s (s.size + 2 + j) _ ih
  have := key (k - (s.size + 2))
  rwa [show s.size + 2 + (k - (s.size + 2)) = k by omega] at this
theorem cut_up (s : ByteArray) (hs : s.size ≤ 1048576) (k : Nat) (hk : s.size + 2 ≤ k) : tape_cut.f k s = some (cutP s) := by
  have key : ∀ j, tape_cut.f (s.size + 2 + j) s = some (cutP s) := by
    intro j
    induction j with
    | zero => exact (cuts s hs).1
    | succ j ih => exact tape_cut.mono s (s.size + 2 + j) _ ih
  have := key (k - (s.size + 2))
  rwa [show s.size + 2 + (k - (s.size + 2)) = k by omega] at this
/-- The program's soundness, and the document's. -/
def sndF (f0 f1 f2 f3 : ByteArray) (f4 f5 f6 f7 f8 : Int) (n9 : Nat) : Bool := sndB f0 f1 f2 f3 f4 f5 f6 f7 f8 n9 (cutP f0).2.2 (sl47 f0)
theorem ok_size (s : ByteArray) (hs : s.size ≤ 1048576) (h : (cutP s).2.2 = true) : 1 ≤ s.size := by
  rcases Nat.eq_zero_or_pos s.size with h0 | h0
  · have e1 : tape_cut.f (s.size + 2) s = some (⟨#[]⟩, s, decide ((s.size : Int) > 0)) := by unfold tape_cut.f; rw [if_pos (by omega)]
    have c1 : cutP s = (⟨#[]⟩, s, decide ((s.size : Int) > 0)) := by unfold cutP; rw [e1]; rfl
    rw [c1] at h
    have := of_decide_eq_true h
    omega
  · exact h0
theorem Sound_eq (k : Nat) (hk : 1048580 ≤ k) (f0 f1 f2 f3 : ByteArray) (f4 f5 f6 f7 f8 : Int) (l9 : List Int) (h0 : f0.size ≤ 1048576) (h1 : f1.size ≤ 1048576) (h2 : f2.size ≤ 1048576) (h3 : f3.size ≤ 1048576) :
    valiseref24_Sound.f k f0 f1 f2 f3 f4 f5 f6 f7 f8 l9 = some (sndF f0 f1 f2 f3 f4 f5 f6 f7 f8 l9.length) := by
  obtain ⟨m, rfl⟩ : ∃ m, k = m + 2 := ⟨k - 2, by omega⟩
  have hok := (cuts f0 h0).2.2.1
  have hsz := ok_size f0 h0
  unfold valiseref24_Sound.f sndF
  rw [split_up f0 h0 _ (by omega), zeros_f f0 h0 _ (by omega), zeros_f f1 h1 _ (by omega), zeros_f f2 h2 _ (by omega), zeros_f f3 h3 _ (by omega)]
  simp only [Option.bind_some]
  unfold sndB
  rw [has0_z0, z0_app, z0_app, z0_app]
  rw [hok] at hsz ⊢
  have hj : valiseref24_Sound.j0 (m + 2) true f0 f1 f2 f3 f4 f5 f6 f7 f8 l9 = some false := rfl
  rw [hj]
  cases hc : (splitP f0).2.2 with
  | false => simp
  | true =>
    have hsz' := hsz hc
    rw [if_pos rfl, j0_eq m _ f0 f1 f2 f3 f4 f5 f6 f7 f8 l9 h0 (fun _ => hsz')]
    cases ha : z0 f0 with
    | true => simp
    | false =>
    cases hb : z0 f1 with
    | true => simp
    | false =>
    cases hd : z0 f2 with
    | true => simp
    | false =>
    cases he : z0 f3 with
    | true => simp
    | false =>
    simp only [Bool.or_false, if_neg Bool.false_ne_true, Bool.true_and]
    by_cases g1 : (f2.size : Int) > 31
    · have : (32 : Int) ≤ f2.size := by omega
      simp [g1, this]
    · have g1' : ¬ (32 : Int) ≤ f2.size := by omega
      rw [if_neg g1]
      by_cases g2 : (f3.size : Int) > 31
      · have : (32 : Int) ≤ f3.size := by omega
        simp [g2, this]
      · have g2' : ¬ (32 : Int) ≤ f3.size := by omega
        rw [decide_eq_false g1', decide_eq_false g2', decide_eq_false g2]
        simp only [Bool.not_false, Bool.true_and, Bool.false_or, Option.some.injEq]
        cases inM f5 && inM f6 && inM f7 with
        | false => simp
        | true =>
          cases hq : (decide (f8 < 0) || decide (8589934591 < f8)) with
          | true => simp
          | false =>
            simp only [Bool.true_and, Bool.not_false, Bool.not_true, cond_false, finB]
            have s1 : decide (0 < (f1.size : Int)) = !decide (f1.size = 0) := by
              by_cases h : f1.size = 0
              · simp [h]
              · have : 0 < f1.size := by omega
                simp [h, this]
            by_cases a0 : f4 = 0
            · subst a0
              cases sl47 f0 <;> by_cases c : f1.size = 0 <;> simp [c]
            · by_cases a2 : f4 = 2
              · subst a2
                cases sl47 f0 <;> by_cases c : f1.size = 0 <;> by_cases c1 : f1.size ≤ 100 <;> by_cases c2 : l9.length = 0 <;> simp [c, c1, c2] <;> first | (intros; omega) | (rw [decide_eq_true (show 1 ≤ f1.size by omega), decide_eq_true (show 0 < f1.size by omega), decide_eq_false (show ¬ (100 : Int) < f1.size by omega)]; rfl)
              · by_cases a5 : f4 = 5
                · subst a5
                  cases sl47 f0 <;> by_cases c : f1.size = 0 <;> by_cases c2 : l9.length = 0 <;> simp [c, c2] <;> omega
                · simp [a0, a2, a5]
end Go.Proofs.YtlhmbncalonomaaDoor.Spd
