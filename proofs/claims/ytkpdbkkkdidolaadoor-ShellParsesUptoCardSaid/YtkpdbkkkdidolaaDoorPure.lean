/- Own plain law: both Parses tell the same words. -/
import Derived.Test.YtkpdbkkkdidolaaDoorParse
namespace Go.Proofs.YtkpdbkkkdidolaaDoor.Pure
open Go.RowKit Go.Proofs.YtkpdbkkkdidolaaDoor.Q Go.Proofs.YtkpdbkkkdidolaaDoor.Prs Go.Proofs.YtkpdbkkkdidolaaDoorW.PrintWords Go.Proofs.YtkpdbkkkdidolaaDoorW.PrintLast Go.Proofs.YtkpdbkkkdidolaaDoorW.PrintMore
set_option linter.unusedVariables false
set_option linter.unusedSimpArgs false

theorem w64 {x : Int} (h0 : -9223372036854775808 ≤ x) (h1 : x ≤ 9223372036854775807) : wrap64 x = x := by unfold wrap64; omega
theorem ev_eq {α : Type} {g f : Nat → Option α} {r : α} (h : ∀ k, g (k + 1) = f k) (k : Ev f r) : Ev g r := Ev.step h k

def Suf (s t : ByteArray) (a : Nat) : Prop := t = s.extract a s.size ∧ a ≤ s.size
theorem Suf.sz {s t : ByteArray} {a : Nat} (h : Suf s t a) : t.size + a = s.size := by
  obtain ⟨rfl, h1⟩ := h
  rw [ByteArray.size_extract]
  omega
theorem ext_ext (s : ByteArray) (a b i j : Nat) (h : a + j ≤ b) (hb : b ≤ s.size) : (s.extract a b).extract i j = s.extract (a + i) (a + j) := by
  apply ByteArray.ext
  simp only [ByteArray.data_extract]
  rw [Array.extract_extract]
  congr 1
  omega
theorem Suf.sub {s t : ByteArray} {a : Nat} (h : Suf s t a) (j : Nat) (hj : j ≤ t.size) : Suf s (t.extract j t.size) (a + j) := by
  have hz := h.sz
  obtain ⟨e, h1⟩ := h
  refine ⟨?_, by omega⟩
  conv => lhs; arg 1; rw [e]
  rw [ext_ext s a s.size j t.size (by omega) (Nat.le_refl _)]
  congr 1
  omega
theorem Suf.word {s t : ByteArray} {a : Nat} (h : Suf s t a) (j : Nat) (hj : j ≤ t.size) : t.extract 0 j = s.extract a (a + j) := by
  have hz := h.sz
  obtain ⟨e, h1⟩ := h
  conv => lhs; arg 1; rw [e]
  rw [ext_ext s a s.size 0 j (by omega) (Nat.le_refl _)]
  rfl
theorem Suf.bt {s t : ByteArray} {a : Nat} (h : Suf s t a) (i : Nat) (hi : a + i < s.size) : bt t (i : Int) = bt s ((a + i : Nat) : Int) := by
  have hz := h.sz
  obtain ⟨rfl, h1⟩ := h
  unfold Go.Proofs.YtkpdbkkkdidolaaDoorW.PrintWords.bt
  rw [dif_pos (by rw [Int.toNat_natCast]; omega), dif_pos (by rw [Int.toNat_natCast]; omega)]
  simp only [Int.toNat_natCast]
  rw [ByteArray.getElem_extract]

def dg (b : Int) : Int := if 48 ≤ b ∧ b ≤ 57 then b - 48 else if 97 ≤ b ∧ b ≤ 102 then b - 87 else if 65 ≤ b ∧ b ≤ 70 then b - 55 else -1
theorem dg_shell (b : Int) (h0 : 0 ≤ b ∧ b ≤ 255) : Ev (fun k => shell_digit.f k b) (dg b) := by
  refine ⟨2, fun k hk => ?_⟩
  obtain ⟨k, rfl⟩ : ∃ m, k = m + 2 := ⟨k - 2, by omega⟩
  simp only [shell_digit.f, shell_digit.j0, shell_digit.j1, dg]
  by_cases h1 : b ≥ 48 <;> by_cases h2 : b ≤ 57 <;> by_cases h3 : b ≥ 97 <;> by_cases h4 : b ≤ 102 <;> by_cases h5 : b ≥ 65 <;> by_cases h6 : b ≤ 70 <;> first | (exfalso; omega) | (simp [h1, h2, h3, h4, h5, h6] <;> omega)
theorem dg_ref (b : Int) (h0 : 0 ≤ b ∧ b ≤ 255) : Ev (fun k => valiseref20_digit.f k b) (dg b) := by
  refine ⟨2, fun k hk => ?_⟩
  obtain ⟨k, rfl⟩ : ∃ m, k = m + 2 := ⟨k - 2, by omega⟩
  simp only [valiseref20_digit.f, valiseref20_digit.j0, valiseref20_digit.j1, dg]
  have e1 : wrap64 b = b := w64 (by omega) (by omega)
  have e2 : wrap64 (b - 48) = b - 48 := w64 (by omega) (by omega)
  have e3 : wrap64 (b - 97) = b - 97 := w64 (by omega) (by omega)
  have e4 : wrap64 (b - 97 + 10) = b - 97 + 10 := w64 (by omega) (by omega)
  have e5 : wrap64 (b - 65) = b - 65 := w64 (by omega) (by omega)
  have e6 : wrap64 (b - 65 + 10) = b - 65 + 10 := w64 (by omega) (by omega)
  simp only [e1, e2, e3, e4, e5, e6]
  by_cases h1 : b ≥ 48 <;> by_cases h2 : b ≤ 57 <;> by_cases h3 : b ≥ 97 <;> by_cases h4 : b ≤ 102 <;> by_cases h5 : b ≥ 65 <;> by_cases h6 : b ≤ 70 <;> first | (exfalso; omega) | (simp [h1, h2, h3, h4, h5, h6] <;> omega)
theorem dg_le (b : Int) : dg b ≤ 15 := by
  unfold dg
  split
  · omega
  · split
    · omega
    · split <;> omega

def esc (s : ByteArray) (e : Nat) : Int × Int :=
  if e < s.size ∧ (bt s (e : Int) = 34 ∨ bt s (e : Int) = 92) then (bt s (e : Int), 1)
  else if e + 2 < s.size ∧ bt s (e : Int) = 120 ∧ 0 ≤ dg (bt s ((e + 1 : Nat) : Int)) ∧ 0 ≤ dg (bt s ((e + 2 : Nat) : Int)) then ((16 * dg (bt s ((e + 1 : Nat) : Int)) + dg (bt s ((e + 2 : Nat) : Int))) % 256, 3)
  else (0, 0)

theorem esc_shell (s t : ByteArray) (a : Nat) (h : Suf s t a) : Ev (fun k => shell_escaped.f k t) (esc s a) := by
  have hz := h.sz
  by_cases h0 : t.size = 0
  · refine Ev.congr (f := fun _ => some (0, 0)) (fun k => ?_) ?_
    · simp only [shell_escaped.f]
      rw [if_pos (beq_iff_eq.mp (isempty_of h0))]
    · have e : esc s a = (0, 0) := by
        unfold esc
        rw [if_neg (by omega), if_neg (by omega)]
      rw [e]
      exact Ev.now _
  · have b0 := h.bt 0 (by omega)
    simp only [Nat.add_zero, Int.natCast_zero] at b0
    have hne : ¬ t.toList = ([] : List UInt8) := beq_eq_false_iff_ne.mp (nonempty_of h0)
    refine Ev.congr (f := fun k => shell_escaped.j0 k t (bt s (a : Int)) (decide (bt s (a : Int) = 34 ∨ bt s (a : Int) = 92))) (fun k => ?_) ?_
    · simp only [shell_escaped.f]
      rw [if_neg hne, if_pos (by omega), b0]
      by_cases h1 : bt s (a : Int) = 34
      · rw [if_pos h1]
        simp [h1]
      · rw [if_neg h1]
        by_cases h2 : bt s (a : Int) = 92
        · simp [h2]
        · rw [show (bt s (a : Int) == 92) = false from beq_eq_false_iff_ne.mpr h2]
          simp [h1, h2]
    · by_cases h1 : bt s (a : Int) = 34 ∨ bt s (a : Int) = 92
      · have e : esc s a = (bt s (a : Int), 1) := by
          unfold esc
          rw [if_pos ⟨by omega, h1⟩]
        rw [e]
        refine ev_eq (f := fun _ => some (bt s (a : Int), 1)) (fun k => ?_) (Ev.now _)
        simp only [shell_escaped.j0]
        rw [if_pos (decide_eq_true h1), if_pos (by omega), b0]
      · have e : esc s a = if a + 2 < s.size ∧ bt s (a : Int) = 120 ∧ 0 ≤ dg (bt s ((a + 1 : Nat) : Int)) ∧ 0 ≤ dg (bt s ((a + 2 : Nat) : Int)) then ((16 * dg (bt s ((a + 1 : Nat) : Int)) + dg (bt s ((a + 2 : Nat) : Int))) % 256, 3) else (0, 0) := by
          unfold esc
          rw [if_neg (fun hc => h1 hc.2)]
        by_cases h2 : bt s (a : Int) = 120
        · by_cases h3 : a + 2 < s.size
          · have b1 := h.bt 1 (by omega)
            have b2 := h.bt 2 (by omega)
            simp only [Int.natCast_one] at b1
            have b2' : bt t 2 = bt s ((a + 2 : Nat) : Int) := b2
            have r1 := bt_range s ((a + 1 : Nat) : Int)
            have r2 := bt_range s ((a + 2 : Nat) : Int)
            have l1 := dg_le (bt s ((a + 1 : Nat) : Int))
            have l2 := dg_le (bt s ((a + 2 : Nat) : Int))
            by_cases h4 : 0 ≤ dg (bt s ((a + 1 : Nat) : Int))
            · by_cases h5 : 0 ≤ dg (bt s ((a + 2 : Nat) : Int))
              · rw [e, if_pos ⟨h3, h2, h4, h5⟩]
                refine ev_eq (f := fun k => (shell_digit.f k (bt s ((a + 1 : Nat) : Int))).bind fun t102 => (if t102 ≥ 0 then (if 2 < (t.size : Int) then ((shell_digit.f k (bt s ((a + 2 : Nat) : Int))).bind fun t103 => (shell_escaped.j1 k t (decide (t103 ≥ 0)))) else (none)) else (shell_escaped.j1 k t false))) (fun k => ?_) ?_
                · simp only [shell_escaped.j0]
                  rw [if_neg (by simp [h1]), if_pos h2, if_pos (by omega), if_pos (by omega), b1, b2']
                · refine Ev.bind (dg_shell _ r1) ?_
                  refine Ev.congr (f := fun k => ((shell_digit.f k (bt s ((a + 2 : Nat) : Int))).bind fun t103 => (shell_escaped.j1 k t (decide (t103 ≥ 0))))) (fun k => by rw [if_pos h4, if_pos (by omega)]) ?_
                  refine Ev.bind (dg_shell _ r2) ?_
                  refine ev_eq (f := fun k => (shell_digit.f k (bt s ((a + 1 : Nat) : Int))).bind fun t104 => (if 2 < (t.size : Int) then ((shell_digit.f k (bt s ((a + 2 : Nat) : Int))).bind fun t105 => (some ((wrap64 ((wrap64 (16 * t104)) + t105)) % 256, 3))) else (none))) (fun k => ?_) ?_
                  · simp only [shell_escaped.j1]
                    rw [if_pos (decide_eq_true h5), if_pos (by omega), b1, b2']
                  · refine Ev.bind (dg_shell _ r1) ?_
                    refine Ev.congr (f := fun k => ((shell_digit.f k (bt s ((a + 2 : Nat) : Int))).bind fun t105 => (some ((wrap64 ((wrap64 (16 * dg (bt s ((a + 1 : Nat) : Int)))) + t105)) % 256, 3)))) (fun k => by rw [if_pos (by omega)]) ?_
                    refine Ev.bind (dg_shell _ r2) ?_
                    rw [w64 (x := 16 * dg (bt s ((a + 1 : Nat) : Int))) (by omega) (by omega), w64 (by omega) (by omega)]
                    exact Ev.now _
              · rw [e, if_neg (fun hc => h5 hc.2.2.2)]
                refine ev_eq (f := fun k => (shell_digit.f k (bt s ((a + 1 : Nat) : Int))).bind fun t102 => (if t102 ≥ 0 then (if 2 < (t.size : Int) then ((shell_digit.f k (bt s ((a + 2 : Nat) : Int))).bind fun t103 => (shell_escaped.j1 k t (decide (t103 ≥ 0)))) else (none)) else (shell_escaped.j1 k t false))) (fun k => ?_) ?_
                · simp only [shell_escaped.j0]
                  rw [if_neg (by simp [h1]), if_pos h2, if_pos (by omega), if_pos (by omega), b1, b2']
                · refine Ev.bind (dg_shell _ r1) ?_
                  refine Ev.congr (f := fun k => ((shell_digit.f k (bt s ((a + 2 : Nat) : Int))).bind fun t103 => (shell_escaped.j1 k t (decide (t103 ≥ 0))))) (fun k => by rw [if_pos h4, if_pos (by omega)]) ?_
                  refine Ev.bind (dg_shell _ r2) ?_
                  refine ev_eq (f := fun _ => some (0, 0)) (fun k => ?_) (Ev.now _)
                  simp only [shell_escaped.j1]
                  rw [if_neg (by simp only [decide_eq_true_eq]; exact h5)]
            · rw [e, if_neg (fun hc => h4 hc.2.2.1)]
              refine ev_eq (f := fun k => (shell_digit.f k (bt s ((a + 1 : Nat) : Int))).bind fun t102 => (if t102 ≥ 0 then (if 2 < (t.size : Int) then ((shell_digit.f k (bt s ((a + 2 : Nat) : Int))).bind fun t103 => (shell_escaped.j1 k t (decide (t103 ≥ 0)))) else (none)) else (shell_escaped.j1 k t false))) (fun k => ?_) ?_
              · simp only [shell_escaped.j0]
                rw [if_neg (by simp [h1]), if_pos h2, if_pos (by omega), if_pos (by omega), b1, b2']
              · refine Ev.bind (dg_shell _ r1) ?_
                refine Ev.congr (f := fun k => shell_escaped.j1 k t false) (fun k => by rw [if_neg h4]) ?_
                refine ev_eq (f := fun _ => some (0, 0)) (fun k => ?_) (Ev.now _)
                simp only [shell_escaped.j1]
                rw [if_neg (by simp)]
          · rw [e, if_neg (fun hc => h3 hc.1)]
            refine ev_eq (f := fun k => shell_escaped.j1 k t false) (fun k => ?_) ?_
            · simp only [shell_escaped.j0]
              rw [if_neg (by simp [h1]), if_pos h2, if_neg (by omega)]
            · refine ev_eq (f := fun _ => some (0, 0)) (fun k => ?_) (Ev.now _)
              simp only [shell_escaped.j1]
              rw [if_neg (by simp)]
        · rw [e, if_neg (fun hc => h2 hc.2.1)]
          refine ev_eq (f := fun _ => some (0, 0)) (fun k => ?_) (Ev.now _)
          simp only [shell_escaped.j0]
          rw [if_neg (by simp [h1]), if_neg h2]

theorem esc_n (s : ByteArray) (e : Nat) : ((esc s e).2 = 0) ∨ ((esc s e).2 = 1 ∧ e < s.size ∧ (bt s (e : Int) = 34 ∨ bt s (e : Int) = 92) ∧ (esc s e).1 = bt s (e : Int)) ∨
    ((esc s e).2 = 3 ∧ e + 2 < s.size ∧ ¬ (bt s (e : Int) = 34 ∨ bt s (e : Int) = 92) ∧ bt s (e : Int) = 120 ∧ 0 ≤ dg (bt s ((e + 1 : Nat) : Int)) ∧ 0 ≤ dg (bt s ((e + 2 : Nat) : Int)) ∧ (esc s e).1 = (16 * dg (bt s ((e + 1 : Nat) : Int)) + dg (bt s ((e + 2 : Nat) : Int))) % 256) := by
  unfold esc
  by_cases h1 : e < s.size ∧ (bt s (e : Int) = 34 ∨ bt s (e : Int) = 92)
  · rw [if_pos h1]
    exact Or.inr (Or.inl ⟨rfl, h1.1, h1.2, rfl⟩)
  · rw [if_neg h1]
    by_cases h2 : e + 2 < s.size ∧ bt s (e : Int) = 120 ∧ 0 ≤ dg (bt s ((e + 1 : Nat) : Int)) ∧ 0 ≤ dg (bt s ((e + 2 : Nat) : Int))
    · rw [if_pos h2]
      exact Or.inr (Or.inr ⟨rfl, h2.1, fun hc => h1 ⟨by omega, hc⟩, h2.2.1, h2.2.2.1, h2.2.2.2, rfl⟩)
    · rw [if_neg h2]
      exact Or.inl rfl

/-- The document's cut behind a backslash at p. -/
theorem esc_ref (s : ByteArray) (hs : s.size ≤ 1048576) (p : Nat) (hp : p < s.size) (acc : List Int) (hl : acc.length ≤ p) (hb : bt s (p : Int) = 92) (r : ByteArray × Int)
    (hr : ((esc s (p + 1)).2 = 0 ∧ r = (⟨#[]⟩, -1)) ∨ ((esc s (p + 1)).2 ≠ 0 ∧ Ev (fun k => valiseref20_quoted.l0 k s (acc ++ [(esc s (p + 1)).1]) ((p : Int) + (esc s (p + 1)).2 + 1)) r)) :
    Ev (fun k => valiseref20_quoted.l0 k s acc (p : Int)) r := by
  have w1 : wrap64 ((p : Int) + 1) = ((p + 1 : Nat) : Int) := by rw [w64 (by omega) (by omega)]; omega
  have w2 : wrap64 ((p : Int) + 2) = ((p + 1 + 1 : Nat) : Int) := by rw [w64 (by omega) (by omega)]; omega
  have w3 : wrap64 ((p : Int) + 3) = ((p + 1 + 2 : Nat) : Int) := by rw [w64 (by omega) (by omega)]; omega
  have w4 : wrap64 ((p : Int) + 4) = (p : Int) + 3 + 1 := by rw [w64 (by omega) (by omega)]; omega
  have w2' : ((p + 1 + 1 : Nat) : Int) = (p : Int) + 1 + 1 := by omega
  refine ev_eq (f := fun k => if ((p + 1 : Nat) : Int) < (s.size : Int) then valiseref20_quoted.j1 k s acc (p : Int) (decide (bt s ((p + 1 : Nat) : Int) = 34 ∨ bt s ((p + 1 : Nat) : Int) = 92)) else valiseref20_quoted.j1 k s acc (p : Int) false) (fun k => ?_) ?_
  · simp only [valiseref20_quoted.l0, w1]
    rw [if_pos (by omega), if_pos (by omega), if_neg (by omega), if_neg (by omega), if_pos hb]
    by_cases h0 : ((p + 1 : Nat) : Int) < (s.size : Int)
    · rw [if_pos h0, if_pos h0, if_pos (by omega)]
      by_cases h1 : bt s ((p + 1 : Nat) : Int) = 34
      · rw [if_pos h1, decide_eq_true (Or.inl h1)]
      · rw [if_neg h1]
        by_cases h2 : bt s ((p + 1 : Nat) : Int) = 92
        · rw [show (bt s ((p + 1 : Nat) : Int) == 92) = true from beq_iff_eq.mpr h2, decide_eq_true (Or.inr h2)]
        · rw [show (bt s ((p + 1 : Nat) : Int) == 92) = false from beq_eq_false_iff_ne.mpr h2, show decide (bt s ((p + 1 : Nat) : Int) = 34 ∨ bt s ((p + 1 : Nat) : Int) = 92) = false from decide_eq_false (fun hc => hc.elim h1 h2)]
    · rw [if_neg h0, if_neg h0]
  · by_cases h0 : (p + 1 < s.size) ∧ (bt s ((p + 1 : Nat) : Int) = 34 ∨ bt s ((p + 1 : Nat) : Int) = 92)
    · obtain ⟨h0, h1⟩ := h0
      have e : esc s (p + 1) = (bt s ((p + 1 : Nat) : Int), 1) := by
        unfold esc
        rw [if_pos ⟨h0, h1⟩]
      rw [e] at hr
      rcases hr with ⟨hc, _⟩ | ⟨_, hr⟩
      · simp at hc
      · refine Ev.congr (f := fun k => valiseref20_quoted.j1 k s acc (p : Int) true) (fun k => by rw [if_pos (by omega), decide_eq_true h1]) ?_
        refine ev_eq (f := fun k => valiseref20_quoted.l0 k s (acc ++ [bt s ((p + 1 : Nat) : Int)]) ((p : Int) + 1 + 1)) (fun k => ?_) hr
        simp only [valiseref20_quoted.j1, w1, w2]
        rw [if_pos trivial, if_pos (by omega), if_pos (by omega), if_pos (by omega), w2']
    · refine Ev.congr (f := fun k => valiseref20_quoted.j1 k s acc (p : Int) false) (fun k => ?_) ?_
      · by_cases h1 : ((p + 1 : Nat) : Int) < (s.size : Int)
        · rw [if_pos h1, decide_eq_false (fun hc => h0 ⟨by omega, hc⟩)]
        · rw [if_neg h1]
      · have e : esc s (p + 1) = if p + 1 + 2 < s.size ∧ bt s ((p + 1 : Nat) : Int) = 120 ∧ 0 ≤ dg (bt s ((p + 1 + 1 : Nat) : Int)) ∧ 0 ≤ dg (bt s ((p + 1 + 2 : Nat) : Int)) then ((16 * dg (bt s ((p + 1 + 1 : Nat) : Int)) + dg (bt s ((p + 1 + 2 : Nat) : Int))) % 256, 3) else (0, 0) := by
          unfold esc
          rw [if_neg h0]
        have r1 := bt_range s ((p + 1 + 1 : Nat) : Int)
        have r2 := bt_range s ((p + 1 + 2 : Nat) : Int)
        have l1 := dg_le (bt s ((p + 1 + 1 : Nat) : Int))
        have l2 := dg_le (bt s ((p + 1 + 2 : Nat) : Int))
        by_cases h2 : p + 1 + 2 < s.size
        · by_cases h3 : bt s ((p + 1 : Nat) : Int) = 120
          · refine ev_eq (f := fun k => (valiseref20_digit.f k (bt s ((p + 1 + 1 : Nat) : Int))).bind fun t117 => (if t117 ≥ 0 then (if 0 ≤ ((p + 1 + 2 : Nat) : Int) then ((valiseref20_digit.f k (bt s ((p + 1 + 2 : Nat) : Int))).bind fun t118 => (valiseref20_quoted.j2 k s acc (p : Int) (decide (t118 ≥ 0)))) else (none)) else (valiseref20_quoted.j2 k s acc (p : Int) false))) (fun k => ?_) ?_
            · simp only [valiseref20_quoted.j1, w1, w2, w3]
              rw [if_neg (by simp), if_pos (by omega), if_pos (by omega), if_pos (by omega), if_pos h3, if_pos (by omega), if_pos (by omega)]
            · refine Ev.bind (dg_ref _ r1) ?_
              by_cases h4 : 0 ≤ dg (bt s ((p + 1 + 1 : Nat) : Int))
              · refine Ev.congr (f := fun k => ((valiseref20_digit.f k (bt s ((p + 1 + 2 : Nat) : Int))).bind fun t118 => (valiseref20_quoted.j2 k s acc (p : Int) (decide (t118 ≥ 0))))) (fun k => by rw [if_pos h4, if_pos (by omega)]) ?_
                refine Ev.bind (dg_ref _ r2) ?_
                by_cases h5 : 0 ≤ dg (bt s ((p + 1 + 2 : Nat) : Int))
                · rw [e, if_pos ⟨h2, h3, h4, h5⟩] at hr
                  rcases hr with ⟨hc, _⟩ | ⟨_, hr⟩
                  · simp at hc
                  · refine ev_eq (f := fun k => (valiseref20_digit.f k (bt s ((p + 1 + 1 : Nat) : Int))).bind fun t119 => (if 0 ≤ ((p + 1 + 2 : Nat) : Int) then (if ((p + 1 + 2 : Nat) : Int) < (s.size : Int) then ((valiseref20_digit.f k (bt s ((p + 1 + 2 : Nat) : Int))).bind fun t120 => (if acc.length < 140737488355328 then (valiseref20_quoted.l0 k s (acc ++ [(wrap64 ((wrap64 (16 * t119)) + t120)) % 256]) ((p : Int) + 3 + 1)) else (none))) else (none)) else (none))) (fun k => ?_) ?_
                    · simp only [valiseref20_quoted.j2, w1, w2, w3, w4]
                      rw [if_pos (decide_eq_true h5), if_pos (by omega), if_pos (by omega)]
                    · refine Ev.bind (dg_ref _ r1) ?_
                      refine Ev.congr (f := fun k => ((valiseref20_digit.f k (bt s ((p + 1 + 2 : Nat) : Int))).bind fun t120 => (if acc.length < 140737488355328 then (valiseref20_quoted.l0 k s (acc ++ [(wrap64 ((wrap64 (16 * dg (bt s ((p + 1 + 1 : Nat) : Int)))) + t120)) % 256]) ((p : Int) + 3 + 1)) else (none)))) (fun k => by rw [if_pos (by omega), if_pos (by omega)]) ?_
                      refine Ev.bind (dg_ref _ r2) ?_
                      rw [w64 (x := 16 * dg (bt s ((p + 1 + 1 : Nat) : Int))) (by omega) (by omega), w64 (by omega) (by omega)]
                      exact Ev.congr (fun k => by rw [if_pos (by omega)]) hr
                · rw [e, if_neg (fun hc => h5 hc.2.2.2)] at hr
                  rcases hr with ⟨_, rfl⟩ | ⟨hc, _⟩
                  · refine ev_eq (f := fun _ => some (⟨#[]⟩, -1)) (fun k => ?_) (Ev.now _)
                    simp only [valiseref20_quoted.j2]
                    rw [if_neg (by simp only [decide_eq_true_eq]; exact h5)]
                  · exact absurd rfl hc
              · rw [e, if_neg (fun hc => h4 hc.2.2.1)] at hr
                rcases hr with ⟨_, rfl⟩ | ⟨hc, _⟩
                · refine Ev.congr (f := fun k => valiseref20_quoted.j2 k s acc (p : Int) false) (fun k => by rw [if_neg h4]) ?_
                  refine ev_eq (f := fun _ => some (⟨#[]⟩, -1)) (fun k => ?_) (Ev.now _)
                  simp only [valiseref20_quoted.j2]
                  rw [if_neg (by simp)]
                · exact absurd rfl hc
          · rw [e, if_neg (fun hc => h3 hc.2.1)] at hr
            rcases hr with ⟨_, rfl⟩ | ⟨hc, _⟩
            · refine ev_eq (f := fun k => valiseref20_quoted.j2 k s acc (p : Int) false) (fun k => ?_) ?_
              · simp only [valiseref20_quoted.j1, w1, w2, w3]
                rw [if_neg (by simp), if_pos (by omega), if_pos (by omega), if_pos (by omega), if_neg h3]
              · refine ev_eq (f := fun _ => some (⟨#[]⟩, -1)) (fun k => ?_) (Ev.now _)
                simp only [valiseref20_quoted.j2]
                rw [if_neg (by simp)]
            · exact absurd rfl hc
        · rw [e, if_neg (fun hc => h2 hc.1)] at hr
          rcases hr with ⟨_, rfl⟩ | ⟨hc, _⟩
          · refine ev_eq (f := fun k => valiseref20_quoted.j2 k s acc (p : Int) false) (fun k => ?_) ?_
            · simp only [valiseref20_quoted.j1, w1, w2, w3]
              rw [if_neg (by simp), if_neg (by omega)]
            · refine ev_eq (f := fun _ => some (⟨#[]⟩, -1)) (fun k => ?_) (Ev.now _)
              simp only [valiseref20_quoted.j2]
              rw [if_neg (by simp)]
          · exact absurd rfl hc

/-- Both cut the same quoted word, or none. -/
theorem quoted_both (s t : ByteArray) (hs : s.size ≤ 1048576) (a : Nat) (h : Suf s t a) : ∀ (n i : Nat) (acc : List Int), s.size - (a + i) < n → 1 ≤ i → a + i ≤ s.size → acc.length ≤ a + i →
    (Ev (fun k => shell_quoted.l0 k t acc (i : Int)) (⟨#[]⟩, 0) ∧ Ev (fun k => valiseref20_quoted.l0 k s acc ((a + i : Nat) : Int)) (⟨#[]⟩, -1)) ∨
    ∃ (wd : ByteArray) (e : Nat), 1 < e ∧ a + e ≤ s.size ∧ Ev (fun k => shell_quoted.l0 k t acc (i : Int)) (wd, (e : Int)) ∧ Ev (fun k => valiseref20_quoted.l0 k s acc ((a + i : Nat) : Int)) (wd, ((a + e : Nat) : Int)) := by
  have hz := h.sz
  intro n
  induction n with
  | zero => intro i acc hn; omega
  | succ n ih =>
    intro i acc hn hi hle hlen
    by_cases h1 : a + i < s.size
    · have b1 := h.bt i h1
      have r1 := bt_range s ((a + i : Nat) : Int)
      by_cases h34 : bt s ((a + i : Nat) : Int) = 34
      · refine Or.inr ⟨strOfNums acc, i + 1, by omega, by omega, ?_, ?_⟩
        · refine ev_eq (f := fun _ => some (strOfNums acc, ((i + 1 : Nat) : Int))) (fun k => ?_) (Ev.now _)
          simp only [shell_quoted.l0, b1]
          rw [if_pos (by omega), if_pos (by omega), if_pos h34, w64 (by omega) (by omega)]
          rfl
        · refine ev_eq (f := fun _ => some (strOfNums acc, ((a + (i + 1) : Nat) : Int))) (fun k => ?_) (Ev.now _)
          simp only [valiseref20_quoted.l0]
          rw [if_pos (by omega), if_pos (by omega), if_pos h34, w64 (by omega) (by omega)]
          rfl
      · by_cases h92 : bt s ((a + i : Nat) : Int) = 92
        · have hsub := h.sub (i + 1) (by omega)
          have hE := esc_shell s _ _ hsub
          have eqp : a + (i + 1) = a + i + 1 := by omega
          rw [eqp] at hE
          have wi : wrap64 ((i : Int) + 1) = ((i + 1 : Nat) : Int) := by rw [w64 (by omega) (by omega)]; omega
          have hS : ∀ r, Ev (fun k => (fun bt106 : Int × Int => (if bt106.2 = 0 then (some ((⟨#[]⟩ : ByteArray), (0 : Int))) else (if acc.length < 140737488355328 then (shell_quoted.l0 k t (acc ++ [bt106.1]) (wrap64 ((wrap64 ((i : Int) + bt106.2)) + 1))) else (none)))) (esc s (a + i + 1))) r → Ev (fun k => shell_quoted.l0 k t acc (i : Int)) r := by
            intro r hr
            refine ev_eq (f := fun k => (shell_escaped.f k (t.extract (i + 1) t.size)).bind fun bt106 => (if bt106.2 = 0 then (some ((⟨#[]⟩ : ByteArray), (0 : Int))) else (if acc.length < 140737488355328 then (shell_quoted.l0 k t (acc ++ [bt106.1]) (wrap64 ((wrap64 ((i : Int) + bt106.2)) + 1))) else (none)))) (fun k => ?_) (Ev.bind hE hr)
            simp only [shell_quoted.l0, b1, wi]
            rw [if_pos (by omega), if_pos (by omega), if_neg h34, if_pos h92, if_pos (by omega), if_pos (by omega), Int.toNat_natCast]
          rcases esc_n s (a + i + 1) with hn0 | ⟨hn1, hx⟩ | ⟨hn3, hx⟩
          · refine Or.inl ⟨hS _ ?_, esc_ref s hs (a + i) h1 acc hlen h92 _ (Or.inl ⟨hn0, rfl⟩)⟩
            refine Ev.congr (f := fun _ => some (⟨#[]⟩, 0)) (fun k => ?_) (Ev.now _)
            simp only
            rw [if_pos hn0]
          · have hR := ih (i + 2) (acc ++ [(esc s (a + i + 1)).1]) (by omega) (by omega) (by omega) (by simp; omega)
            have eR : ∀ r, Ev (fun k => valiseref20_quoted.l0 k s (acc ++ [(esc s (a + i + 1)).1]) ((a + (i + 2) : Nat) : Int)) r → Ev (fun k => valiseref20_quoted.l0 k s acc ((a + i : Nat) : Int)) r := fun r hr =>
              esc_ref s hs (a + i) h1 acc hlen h92 _ (Or.inr ⟨by omega, by
                rw [hn1, show ((a + i : Nat) : Int) + 1 + 1 = ((a + (i + 2) : Nat) : Int) by omega]
                exact hr⟩)
            have eS : ∀ r, Ev (fun k => shell_quoted.l0 k t (acc ++ [(esc s (a + i + 1)).1]) ((i + 2 : Nat) : Int)) r → Ev (fun k => shell_quoted.l0 k t acc (i : Int)) r := fun r hr => hS _ (Ev.congr (fun k => by
              simp only
              rw [if_neg (by omega), if_pos (by omega), hn1, w64 (x := (i : Int) + 1) (by omega) (by omega), w64 (by omega) (by omega), show (i : Int) + 1 + 1 = ((i + 2 : Nat) : Int) by omega]) hr)
            rcases hR with ⟨q1, q2⟩ | ⟨wd, e, q0, q3, q1, q2⟩
            · exact Or.inl ⟨eS _ q1, eR _ q2⟩
            · exact Or.inr ⟨wd, e, q0, q3, eS _ q1, eR _ q2⟩
          · have hR := ih (i + 4) (acc ++ [(esc s (a + i + 1)).1]) (by omega) (by omega) (by omega) (by simp; omega)
            have eR : ∀ r, Ev (fun k => valiseref20_quoted.l0 k s (acc ++ [(esc s (a + i + 1)).1]) ((a + (i + 4) : Nat) : Int)) r → Ev (fun k => valiseref20_quoted.l0 k s acc ((a + i : Nat) : Int)) r := fun r hr =>
              esc_ref s hs (a + i) h1 acc hlen h92 _ (Or.inr ⟨by omega, by
                rw [hn3, show ((a + i : Nat) : Int) + 3 + 1 = ((a + (i + 4) : Nat) : Int) by omega]
                exact hr⟩)
            have eS : ∀ r, Ev (fun k => shell_quoted.l0 k t (acc ++ [(esc s (a + i + 1)).1]) ((i + 4 : Nat) : Int)) r → Ev (fun k => shell_quoted.l0 k t acc (i : Int)) r := fun r hr => hS _ (Ev.congr (fun k => by
              simp only
              rw [if_neg (by omega), if_pos (by omega), hn3, w64 (x := (i : Int) + 3) (by omega) (by omega), w64 (by omega) (by omega), show (i : Int) + 3 + 1 = ((i + 4 : Nat) : Int) by omega]) hr)
            rcases hR with ⟨q1, q2⟩ | ⟨wd, e, q0, q3, q1, q2⟩
            · exact Or.inl ⟨eS _ q1, eR _ q2⟩
            · exact Or.inr ⟨wd, e, q0, q3, eS _ q1, eR _ q2⟩
        · by_cases h32 : bt s ((a + i : Nat) : Int) < 32
          · refine Or.inl ⟨?_, ?_⟩
            · refine ev_eq (f := fun _ => some (⟨#[]⟩, 0)) (fun k => ?_) (Ev.now _)
              simp only [shell_quoted.l0, b1]
              rw [if_pos (by omega), if_pos (by omega), if_neg h34, if_neg h92, if_pos h32]
            · refine ev_eq (f := fun _ => some (⟨#[]⟩, -1)) (fun k => ?_) (Ev.now _)
              simp only [valiseref20_quoted.l0]
              rw [if_pos (by omega), if_pos (by omega), if_neg h34, if_pos h32]
          · have hR := ih (i + 1) (acc ++ [bt s ((a + i : Nat) : Int)]) (by omega) (by omega) (by omega) (by simp; omega)
            have eR : ∀ r, Ev (fun k => valiseref20_quoted.l0 k s (acc ++ [bt s ((a + i : Nat) : Int)]) ((a + (i + 1) : Nat) : Int)) r → Ev (fun k => valiseref20_quoted.l0 k s acc ((a + i : Nat) : Int)) r := fun r hr => ev_eq (fun k => by
              simp only [valiseref20_quoted.l0]
              rw [if_pos (by omega), if_pos (by omega), if_neg h34, if_neg h32, if_neg h92, if_pos (by omega), w64 (by omega) (by omega), show ((a + i : Nat) : Int) + 1 = ((a + (i + 1) : Nat) : Int) by omega]) hr
            have eS : ∀ r, Ev (fun k => shell_quoted.l0 k t (acc ++ [bt s ((a + i : Nat) : Int)]) ((i + 1 : Nat) : Int)) r → Ev (fun k => shell_quoted.l0 k t acc (i : Int)) r := fun r hr => ev_eq (fun k => by
              simp only [shell_quoted.l0, b1]
              rw [if_pos (by omega), if_pos (by omega), if_neg h34, if_neg h92, if_neg h32, if_pos (by omega), w64 (by omega) (by omega), show (i : Int) + 1 = ((i + 1 : Nat) : Int) by omega]) hr
            rcases hR with ⟨q1, q2⟩ | ⟨wd, e, q0, q3, q1, q2⟩
            · exact Or.inl ⟨eS _ q1, eR _ q2⟩
            · exact Or.inr ⟨wd, e, q0, q3, eS _ q1, eR _ q2⟩
    · refine Or.inl ⟨?_, ?_⟩
      · refine ev_eq (f := fun _ => some (⟨#[]⟩, 0)) (fun k => ?_) (Ev.now _)
        simp only [shell_quoted.l0]
        rw [if_neg (by omega)]
      · refine ev_eq (f := fun _ => some (⟨#[]⟩, -1)) (fun k => ?_) (Ev.now _)
        simp only [valiseref20_quoted.l0]
        rw [if_neg (by omega)]

/-- Both leave the blanks out. -/
theorem skip_both (s : ByteArray) (hs : s.size ≤ 1048576) (acc : List ByteArray) : ∀ (n p : Nat) (t : ByteArray), Suf s t p → s.size - p < n →
    ∃ (q : Nat) (u : ByteArray), p ≤ q ∧ Suf s u q ∧ (q < s.size → bt s (q : Int) ≠ 32) ∧ Ev (fun k => strings_trimLeftByte.f k t 32) u ∧
      ∀ r, Ev (fun k => valiseref20_Parse.l0 k s acc (q : Int)) r → Ev (fun k => valiseref20_Parse.l0 k s acc (p : Int)) r := by
  intro n
  induction n with
  | zero => intro p t h hn; omega
  | succ n ih =>
    intro p t h hn
    have hz := h.sz
    by_cases h0 : t.size = 0
    · refine ⟨p, t, Nat.le_refl _, h, fun hc => by omega, ?_, fun r hr => hr⟩
      refine ev_eq (f := fun _ => some t) (fun k => ?_) (Ev.now _)
      simp only [strings_trimLeftByte.f, strings_trimLeftByte.l0]
      rw [if_neg (by omega)]
    · have b0 : bt t 0 = bt s (p : Int) := h.bt 0 (by omega)
      by_cases h1 : bt s (p : Int) = 32
      · obtain ⟨q, u, hq, hu, hne, hT, hR⟩ := ih (p + 1) (t.extract 1 t.size) (h.sub 1 (by omega)) (by omega)
        refine ⟨q, u, by omega, hu, hne, ?_, fun r hr => ?_⟩
        · refine ev_eq (f := fun k => strings_trimLeftByte.f k (t.extract 1 t.size) 32) (fun k => ?_) hT
          simp only [strings_trimLeftByte.f, strings_trimLeftByte.l0]
          rw [if_pos (by omega), if_pos (by omega), b0, if_pos h1, if_pos (by omega)]
        · refine ev_eq (f := fun k => valiseref20_Parse.l0 k s acc ((p + 1 : Nat) : Int)) (fun k => ?_) (hR r hr)
          simp only [valiseref20_Parse.l0]
          rw [if_pos (by omega), if_pos (by omega), if_pos h1, w64 (by omega) (by omega)]
          rfl
      · refine ⟨p, t, Nat.le_refl _, h, fun _ => h1, ?_, fun r hr => hr⟩
        refine ev_eq (f := fun _ => some t) (fun k => ?_) (Ev.now _)
        simp only [strings_trimLeftByte.f, strings_trimLeftByte.l0]
        rw [if_pos (by omega), if_pos (by omega), b0, if_neg h1]

/-- Both cut the same bare word. -/
theorem bare_both (s t : ByteArray) (hs : s.size ≤ 1048576) (a : Nat) (h : Suf s t a) (acc : List ByteArray) (hl : acc.length ≤ 1048576) : ∀ (n i : Nat), s.size - (a + i) < n → a + i ≤ s.size →
    ∃ (e : Nat), i ≤ e ∧ a + e ≤ s.size ∧ (i = e → a + i < s.size → bt s ((a + i : Nat) : Int) ≠ 32 → True) ∧ Ev (fun k => valiseref20_bare.l0 k s (a : Int) ((a + i : Nat) : Int)) (s.extract a (a + e), ((a + e : Nat) : Int)) ∧
      ((a + e < s.size ∧ bt s ((a + e : Nat) : Int) ≠ 32) → Ev (fun k => Pr.l1 k t acc (i : Int)) ([], false)) ∧
      (¬ (a + e < s.size ∧ bt s ((a + e : Nat) : Int) ≠ 32) → ∀ r, Ev (fun k => Pr.l0 k (t.extract e t.size) (acc ++ [t.extract 0 e])) r → Ev (fun k => Pr.l1 k t acc (i : Int)) r) := by
  have hz := h.sz
  intro n
  induction n with
  | zero => intro i hn; omega
  | succ n ih =>
    intro i hn hle
    by_cases h1 : a + i < s.size
    · have b1 := h.bt i h1
      by_cases h2 : (bt s ((a + i : Nat) : Int) > 32 ∧ bt s ((a + i : Nat) : Int) < 127) ∧ bt s ((a + i : Nat) : Int) ≠ 34
      · obtain ⟨⟨h2, h3⟩, h4⟩ := h2
        obtain ⟨e, e0, e1, _, hB, hN, hY⟩ := ih (i + 1) (by omega) (by omega)
        have hstep : ∀ r, Ev (fun k => Pr.l1 k t acc ((i + 1 : Nat) : Int)) r → Ev (fun k => Pr.l1 k t acc (i : Int)) r := fun r hr => ev_eq (fun k => by
          simp only [Pr.l1, b1, shell_bare.f]
          rw [if_pos ⟨by omega, by omega⟩, if_pos h2, if_pos h3, Option.bind_some, if_pos (bne_iff_ne.mpr h4)]
          rfl) hr
        refine ⟨e, by omega, e1, fun _ _ _ => trivial, ?_, fun hc => hstep _ (hN hc), fun hc r hr => hstep _ (hY hc r hr)⟩
        refine ev_eq (f := fun k => valiseref20_bare.l0 k s (a : Int) ((a + (i + 1) : Nat) : Int)) (fun k => ?_) hB
        simp only [valiseref20_bare.l0]
        rw [if_pos (by omega), if_pos (by omega), if_pos h2, if_pos h3, if_neg h4, w64 (by omega) (by omega)]
        rfl
      · have hnb : ∀ k, valiseref20_bare.l0 (k + 1) s (a : Int) ((a + i : Nat) : Int) = some (s.extract a (a + i), ((a + i : Nat) : Int)) := fun k => by
          simp only [valiseref20_bare.l0]
          rw [if_pos (by omega), if_pos (by omega)]
          by_cases h3 : bt s ((a + i : Nat) : Int) > 32
          · rw [if_pos h3]
            by_cases h4 : bt s ((a + i : Nat) : Int) < 127
            · have h5 : bt s ((a + i : Nat) : Int) = 34 := Classical.byContradiction fun hc => h2 ⟨⟨h3, h4⟩, hc⟩
              rw [if_pos h4, if_pos h5, if_pos (by omega), if_pos (by omega), if_pos (by omega), Int.toNat_natCast, Int.toNat_natCast]
            · rw [if_neg h4, if_pos (by omega), if_pos (by omega), if_pos (by omega), Int.toNat_natCast, Int.toNat_natCast]
          · rw [if_neg h3, if_pos (by omega), if_pos (by omega), if_pos (by omega), Int.toNat_natCast, Int.toNat_natCast]
        refine ⟨i, Nat.le_refl _, by omega, fun _ _ _ => trivial, ev_eq (f := fun _ => some (s.extract a (a + i), ((a + i : Nat) : Int))) hnb (Ev.now _), fun hc => ?_, fun hc r hr => ?_⟩
        · refine ev_eq (f := fun _ => some ([], false)) (fun k => ?_) (Ev.now _)
          simp only [Pr.l1, b1, shell_bare.f]
          rw [if_pos ⟨by omega, hc.2⟩]
          by_cases h3 : bt s ((a + i : Nat) : Int) > 32
          · rw [if_pos h3]
            by_cases h4 : bt s ((a + i : Nat) : Int) < 127
            · have h5 : bt s ((a + i : Nat) : Int) = 34 := Classical.byContradiction fun hc => h2 ⟨⟨h3, h4⟩, hc⟩
              rw [if_pos h4, Option.bind_some, if_neg (by rw [h5]; decide)]
            · rw [if_neg h4, Option.bind_some, if_neg (by simp)]
          · rw [if_neg h3, Option.bind_some, if_neg (by simp)]
        · refine ev_eq (f := fun k => Pr.l0 k (t.extract i t.size) (acc ++ [t.extract 0 i])) (fun k => ?_) hr
          simp only [Pr.l1, b1]
          rw [if_neg (fun hd => hc ⟨h1, hd.2⟩), if_pos (by omega), Int.toNat_natCast]
    · refine ⟨i, Nat.le_refl _, by omega, fun _ _ _ => trivial, ?_, fun hc => absurd hc.1 h1, fun hc r hr => ?_⟩
      · refine ev_eq (f := fun _ => some (s.extract a (a + i), ((a + i : Nat) : Int))) (fun k => ?_) (Ev.now _)
        simp only [valiseref20_bare.l0]
        rw [if_neg (by omega), if_pos (by omega), if_pos (by omega), if_pos (by omega), Int.toNat_natCast, Int.toNat_natCast]
      · refine ev_eq (f := fun k => Pr.l0 k (t.extract i t.size) (acc ++ [t.extract 0 i])) (fun k => ?_) hr
        simp only [Pr.l1]
        rw [if_neg (fun hd => by omega), if_pos (by omega), Int.toNat_natCast]

/-- Both tell the same words. -/
theorem parse_both (s : ByteArray) (hs : s.size ≤ 1048576) : ∀ (n p : Nat) (t : ByteArray) (acc : List ByteArray), Suf s t p → s.size - p < n → acc.length ≤ p →
    ∃ (ws : List ByteArray) (ok : Bool), ws.length ≤ 1048576 ∧ Ev (fun k => Pr.l0 k t acc) (ws, ok) ∧ Ev (fun k => valiseref20_Parse.l0 k s acc (p : Int)) (ws, ok) := by
  intro n
  induction n with
  | zero => intro p t acc h hn; omega
  | succ n ih =>
    intro p t acc h hn hlen
    obtain ⟨q, u, hpq, hu, hne, hT, hR⟩ := skip_both s hs acc (s.size - p + 1) p t h (by omega)
    have hz := hu.sz
    have hS : ∀ r, Ev (fun k => if u.size = 0 then some (acc, true) else if bt u 0 = 34 then (shell_quoted.f k u).bind fun q => if q.2 = 0 then some ([], false) else if 0 ≤ q.2 ∧ q.2 ≤ (u.size : Int) then if q.2 < (u.size : Int) ∧ bt u q.2 ≠ 32 then some ([], false) else if acc.length < 1048577 then Pr.l0 k (u.extract q.2.toNat u.size) (acc ++ [q.1]) else none else none else Pr.l1 k u acc 0) r → Ev (fun k => Pr.l0 k t acc) r := fun r hr =>
      ev_eq (f := fun k => (strings_trimLeftByte.f k t 32).bind fun u => if u.size = 0 then some (acc, true) else if bt u 0 = 34 then (shell_quoted.f k u).bind fun q => if q.2 = 0 then some ([], false) else if 0 ≤ q.2 ∧ q.2 ≤ (u.size : Int) then if q.2 < (u.size : Int) ∧ bt u q.2 ≠ 32 then some ([], false) else if acc.length < 1048577 then Pr.l0 k (u.extract q.2.toNat u.size) (acc ++ [q.1]) else none else none else Pr.l1 k u acc 0) (fun k => by simp only [Pr.l0]) (Ev.bind (f := fun k u => if u.size = 0 then some (acc, true) else if bt u 0 = 34 then (shell_quoted.f k u).bind fun q => if q.2 = 0 then some ([], false) else if 0 ≤ q.2 ∧ q.2 ≤ (u.size : Int) then if q.2 < (u.size : Int) ∧ bt u q.2 ≠ 32 then some ([], false) else if acc.length < 1048577 then Pr.l0 k (u.extract q.2.toNat u.size) (acc ++ [q.1]) else none else none else Pr.l1 k u acc 0) hT hr)
    by_cases h0 : u.size = 0
    · refine ⟨acc, true, by omega, hS _ (Ev.congr (f := fun _ => some (acc, true)) (fun k => by rw [if_pos h0]) (Ev.now _)), hR _ ?_⟩
      refine ev_eq (f := fun _ => some (acc, true)) (fun k => ?_) (Ev.now _)
      simp only [valiseref20_Parse.l0]
      rw [if_neg (by omega)]
    · have hq1 : q < s.size := by omega
      have b0 : bt u 0 = bt s (q : Int) := hu.bt 0 (by omega)
      have hn32 := hne hq1
      by_cases h34 : bt s (q : Int) = 34
      · have hS2 : ∀ r, Ev (fun k => (shell_quoted.f k u).bind fun q => if q.2 = 0 then some ([], false) else if 0 ≤ q.2 ∧ q.2 ≤ (u.size : Int) then if q.2 < (u.size : Int) ∧ bt u q.2 ≠ 32 then some ([], false) else if acc.length < 1048577 then Pr.l0 k (u.extract q.2.toNat u.size) (acc ++ [q.1]) else none else none) r → Ev (fun k => Pr.l0 k t acc) r := fun r hr =>
          hS _ (Ev.congr (fun k => by rw [if_neg h0, b0, if_pos h34]) hr)
        have hR2 : ∀ r, Ev (fun k => (valiseref20_quoted.f k s (q : Int)).bind fun bt127 => (if bt127.2 < 0 then (some (([] : List ByteArray), false)) else (if bt127.2 < (s.size : Int) then (if 0 ≤ bt127.2 then (if (bt s bt127.2) = 32 then (if acc.length < 8796093022208 then (valiseref20_Parse.l0 k s (acc ++ [bt127.1]) bt127.2) else (none)) else (some (([] : List ByteArray), false))) else (none)) else (if acc.length < 8796093022208 then (valiseref20_Parse.l0 k s (acc ++ [bt127.1]) bt127.2) else (none))))) r → Ev (fun k => valiseref20_Parse.l0 k s acc (p : Int)) r := fun r hr =>
          hR _ (ev_eq (fun k => by
            simp only [valiseref20_Parse.l0]
            rw [if_pos (by omega), if_pos (by omega), if_neg hn32, if_pos h34]) hr)
        have eq1 : ∀ k, valiseref20_quoted.f k s (q : Int) = valiseref20_quoted.l0 k s [] ((q + 1 : Nat) : Int) := fun k => by
          unfold valiseref20_quoted.f
          rw [w64 (by omega) (by omega)]
          rfl
        have eq2 : ∀ k, shell_quoted.f k u = shell_quoted.l0 k u [] ((1 : Nat) : Int) := fun k => rfl
        rcases quoted_both s u hs q hu (s.size - (q + 1) + 1) 1 [] (by omega) (by omega) (by omega) (by simp) with ⟨q1, q2⟩ | ⟨wd, e, q0, q3, q1, q2⟩
        · refine ⟨[], false, by simp, hS2 _ (Ev.bind (Ev.congr eq2 q1) ?_), hR2 _ (Ev.bind (Ev.congr eq1 q2) ?_)⟩
          · exact Ev.congr (f := fun _ => some ([], false)) (fun k => by simp only; rw [if_pos trivial]) (Ev.now _)
          · exact Ev.congr (f := fun _ => some ([], false)) (fun k => by simp only; rw [if_pos (by omega)]) (Ev.now _)
        · by_cases hb : q + e < s.size ∧ bt s ((q + e : Nat) : Int) ≠ 32
          · have be := hu.bt e hb.1
            refine ⟨[], false, by simp, hS2 _ (Ev.bind (Ev.congr eq2 q1) ?_), hR2 _ (Ev.bind (Ev.congr eq1 q2) ?_)⟩
            · exact Ev.congr (f := fun _ => some ([], false)) (fun k => by simp only; rw [if_neg (by omega), if_pos ⟨by omega, by omega⟩, be, if_pos ⟨by omega, hb.2⟩]) (Ev.now _)
            · exact Ev.congr (f := fun _ => some ([], false)) (fun k => by simp only; rw [if_neg (by omega), if_pos (by omega), if_pos (by omega), if_neg hb.2]) (Ev.now _)
          · obtain ⟨ws, ok, hws, hA, hB⟩ := ih (q + e) (u.extract e u.size) (acc ++ [wd]) (hu.sub e (by omega)) (by omega) (by simp; omega)
            refine ⟨ws, ok, hws, hS2 _ (Ev.bind (Ev.congr eq2 q1) ?_), hR2 _ (Ev.bind (Ev.congr eq1 q2) ?_)⟩
            · refine Ev.congr (fun k => ?_) hA
              simp only
              rw [if_neg (by omega), if_pos ⟨by omega, by omega⟩, if_neg (fun hc => hb ⟨by omega, by rw [← hu.bt e (by omega)]; exact hc.2⟩), if_pos (by omega), Int.toNat_natCast]
            · refine Ev.congr (fun k => ?_) hB
              simp only
              rw [if_neg (by omega)]
              by_cases hc : q + e < s.size
              · have h5 : bt s ((q + e : Nat) : Int) = 32 := Classical.byContradiction fun hd => hb ⟨hc, hd⟩
                rw [if_pos (by omega), if_pos (by omega), if_pos h5, if_pos (by omega)]
              · rw [if_neg (by omega), if_pos (by omega)]
      · have hS2 : ∀ r, Ev (fun k => Pr.l1 k u acc ((0 : Nat) : Int)) r → Ev (fun k => Pr.l0 k t acc) r := fun r hr =>
          hS _ (Ev.congr (fun k => by rw [if_neg h0, b0, if_neg h34]; rfl) hr)
        have hR2 : ∀ r, Ev (fun k => (valiseref20_bare.f k s (q : Int)).bind fun bt135 => (if bt135.2 = (q : Int) then (some (([] : List ByteArray), false)) else (if bt135.2 < (s.size : Int) then (if 0 ≤ bt135.2 then (if (bt s bt135.2) = 32 then (if acc.length < 8796093022208 then (valiseref20_Parse.l0 k s (acc ++ [bt135.1]) bt135.2) else (none)) else (some (([] : List ByteArray), false))) else (none)) else (if acc.length < 8796093022208 then (valiseref20_Parse.l0 k s (acc ++ [bt135.1]) bt135.2) else (none))))) r → Ev (fun k => valiseref20_Parse.l0 k s acc (p : Int)) r := fun r hr =>
          hR _ (ev_eq (fun k => by
            simp only [valiseref20_Parse.l0]
            rw [if_pos (by omega), if_pos (by omega), if_neg hn32, if_neg h34]) hr)
        obtain ⟨e, e0, e1, _, hB, hN, hY⟩ := bare_both s u hs q hu acc (by omega) (s.size - q + 1) 0 (by omega) (by omega)
        have hB' : Ev (fun k => valiseref20_bare.f k s (q : Int)) (s.extract q (q + e), ((q + e : Nat) : Int)) := hB
        by_cases hb : q + e < s.size ∧ bt s ((q + e : Nat) : Int) ≠ 32
        · refine ⟨[], false, by simp, hS2 _ (hN hb), hR2 _ (Ev.bind hB' ?_)⟩
          refine Ev.congr (f := fun _ => some ([], false)) (fun k => ?_) (Ev.now _)
          simp only
          by_cases hc : ((q + e : Nat) : Int) = (q : Int)
          · rw [if_pos hc]
          · rw [if_neg hc, if_pos (by omega), if_pos (by omega), if_neg hb.2]
        · have e2 : 0 < e := by
            rcases Nat.eq_zero_or_pos e with rfl | hp
            · exact absurd ⟨hq1, hn32⟩ hb
            · exact hp
          obtain ⟨ws, ok, hws, hA, hC⟩ := ih (q + e) (u.extract e u.size) (acc ++ [u.extract 0 e]) (hu.sub e (by omega)) (by omega) (by simp; omega)
          refine ⟨ws, ok, hws, hS2 _ (hY hb _ hA), hR2 _ (Ev.bind hB' ?_)⟩
          rw [hu.word e (by omega)] at hC
          refine Ev.congr (fun k => ?_) hC
          simp only
          rw [if_neg (by omega)]
          by_cases hc : q + e < s.size
          · have h5 : bt s ((q + e : Nat) : Int) = 32 := Classical.byContradiction fun hd => hb ⟨hc, hd⟩
            rw [if_pos (by omega), if_pos (by omega), if_pos h5, if_pos (by omega)]
          · rw [if_neg (by omega), if_pos (by omega)]

theorem same_self (l : List ByteArray) (hl : l.length ≤ 1048576) : ∀ (d p : Nat), p + d = l.length → Ev (fun k => valiseplay_SameTexts.l0 k l l (p : Int)) true := by
  intro d
  induction d with
  | zero =>
    intro p hp
    refine ev_eq (f := fun _ => some true) (fun k => ?_) (Ev.now _)
    simp only [valiseplay_SameTexts.l0]
    rw [if_neg (by omega)]
  | succ d ih =>
    intro p hp
    refine ev_eq (f := fun k => valiseplay_SameTexts.l0 k l l ((p + 1 : Nat) : Int)) (fun k => ?_) (ih (p + 1) (by omega))
    simp only [valiseplay_SameTexts.l0]
    rw [if_pos (by omega), if_pos (by omega), if_pos (by omega), if_pos trivial, w64 (by omega) (by omega)]
    rfl

theorem all (s : ByteArray) (hs : s.size ≤ 1048576) : ∃ k r1 r2, Pr.l0 k s [] = some (r1, r2) ∧ valiseref20_Parse.f k s = some (r1, r2) ∧ valiseplay_SameTexts.f k r1 r1 = some true := by
  obtain ⟨ws, ok, hws, ⟨k1, h1⟩, ⟨k2, h2⟩⟩ := parse_both s hs (s.size + 1) 0 s [] ⟨by
    apply ByteArray.ext
    simp [ByteArray.data_extract, ByteArray.size_data], by omega⟩ (by omega) (by simp)
  obtain ⟨k3, h3⟩ := same_self ws hws ws.length 0 (by omega)
  refine ⟨k1 + k2 + k3, ws, ok, h1 _ (by omega), h2 _ (by omega), ?_⟩
  unfold valiseplay_SameTexts.f
  rw [if_pos rfl]
  exact h3 _ (by omega)
end Go.Proofs.YtkpdbkkkdidolaaDoor.Pure
