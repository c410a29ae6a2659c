/- Own walks and lemmas, those that this claim leans on: Q7. -/
import Derived.Test.YtlhmbncalonomaaDoorGzA
namespace Go.Proofs.YtlhmbncalonomaaDoor.Q
open Go.RowKit Go.Proofs.YtlhmbncalonomaaDoorW.PrintWords Go.Proofs.YtlhmbncalonomaaDoorW.PrintLast Go.Proofs.YtlhmbncalonomaaDoorW.PrintMore
attribute [local go_sem] max2_int min2_int max_two min_two max_three min_three max_four min_four   -- for this text's walks alone
set_option linter.unusedVariables false
set_option linter.unusedSimpArgs false
mutual
def valiseref24_word.j1 : Nat → ByteArray → Int → Int → Option (ByteArray × Bool)
  | 0, _, _, _ => none
  | k + 1, x0, x1, x6 => valiseref24_word.l1 k x0 x1 x6 x6
def valiseref24_word.l1 : Nat → ByteArray → Int → Int → Int → Option (ByteArray × Bool)
  | 0, _, _, _, _ => none
  | k + 1, x0, x1, x6, x7 => if x7 < (x0.size : Int) then (if 0 ≤ x7 then (if (bt x0 x7) = 0 then (valiseref24_word.l1 k x0 x1 x6 (wrap64 (x7 + 1))) else (some ((⟨#[]⟩ : ByteArray), false))) else (none)) else (if 0 ≤ x6 then (if x6 ≤ (x0.size : Int) then (some (x0.extract 0 (x6 : Int).toNat, decide (x6 ≤ x1))) else (none)) else (none))
def valiseref24_word.l0 : Nat → ByteArray → Int → Int → Option (ByteArray × Bool)
  | 0, _, _, _ => none
  | k + 1, x0, x1, x6 => if x6 < (x0.size : Int) then (if 0 ≤ x6 then (if (bt x0 x6) = 0 then (valiseref24_word.j1 k x0 x1 x6) else (valiseref24_word.l0 k x0 x1 (wrap64 (x6 + 1)))) else (none)) else (valiseref24_word.j1 k x0 x1 x6)
end
def valiseref24_word.f (k : Nat) (a0 : ByteArray) (a1 : Int) : Option (ByteArray × Bool) := valiseref24_word.l0 k a0 a1 0
theorem valiseref24_word.mono_l : ∀ k, (∀ y0 y1 y2, LeO (valiseref24_word.j1 k y0 y1 y2) (valiseref24_word.j1 (k + 1) y0 y1 y2)) ∧ (∀ y0 y1 y2 y3, LeO (valiseref24_word.l1 k y0 y1 y2 y3) (valiseref24_word.l1 (k + 1) y0 y1 y2 y3)) ∧ (∀ y0 y1 y2, LeO (valiseref24_word.l0 k y0 y1 y2) (valiseref24_word.l0 (k + 1) y0 y1 y2))
  | 0 => ⟨fun _ _ _ r h => by simp [valiseref24_word.j1] at h, fun _ _ _ _ r h => by simp [valiseref24_word.l1] at h, fun _ _ _ r h => by simp [valiseref24_word.l0] at h⟩
  | k + 1 => by
    obtain ⟨ih0, ih1, ih2⟩ := valiseref24_word.mono_l k
    refine ⟨?_, ?_, ?_⟩
    · intro y0 y1 y2
      unfold valiseref24_word.j1
      repeat' first
      | (with_reducible exact ih0 _ _ _)
      | (with_reducible exact ih1 _ _ _ _)
      | (with_reducible exact ih2 _ _ _)
      | (with_reducible exact LeO.refl _)
      | (with_reducible exact LeO.none _)
      | (with_reducible refine LeO.ite ?_ ?_)
      | (with_reducible refine LeO.bind ?_ (fun _ => ?_))
      | exact ih0 _ _ _
      | exact ih1 _ _ _ _
      | exact ih2 _ _ _
      | exact LeO.none _
      | refine LeO.ite ?_ ?_
      | refine LeO.bind ?_ (fun _ => ?_)
    · intro y0 y1 y2 y3
      unfold valiseref24_word.l1
      repeat' first
      | (with_reducible exact ih0 _ _ _)
      | (with_reducible exact ih1 _ _ _ _)
      | (with_reducible exact ih2 _ _ _)
      | (with_reducible exact LeO.refl _)
      | (with_reducible exact LeO.none _)
      | (with_reducible refine LeO.ite ?_ ?_)
      | (with_reducible refine LeO.bind ?_ (fun _ => ?_))
      | exact ih0 _ _ _
      | exact ih1 _ _ _ _
      | exact ih2 _ _ _
      | exact LeO.none _
      | refine LeO.ite ?_ ?_
      | refine LeO.bind ?_ (fun _ => ?_)
    · intro y0 y1 y2
      unfold valiseref24_word.l0
      repeat' first
      | (with_reducible exact ih0 _ _ _)
      | (with_reducible exact ih1 _ _ _ _)
      | (with_reducible exact ih2 _ _ _)
      | (with_reducible exact LeO.refl _)
      | (with_reducible exact LeO.none _)
      | (with_reducible refine LeO.ite ?_ ?_)
      | (with_reducible refine LeO.bind ?_ (fun _ => ?_))
      | exact ih0 _ _ _
      | exact ih1 _ _ _ _
      | exact ih2 _ _ _
      | exact LeO.none _
      | refine LeO.ite ?_ ?_
      | refine LeO.bind ?_ (fun _ => ?_)
theorem valiseref24_word.mono : ∀ a0 a1 k, LeO (valiseref24_word.f k a0 a1) (valiseref24_word.f (k + 1) a0 a1) := by
  intro a0 a1 k
  obtain ⟨ih0, ih1, ih2⟩ := valiseref24_word.mono_l k
  unfold valiseref24_word.f
  repeat' first
      | (with_reducible exact ih0 _ _ _)
      | (with_reducible exact ih1 _ _ _ _)
      | (with_reducible exact ih2 _ _ _)
      | (with_reducible exact LeO.refl _)
      | (with_reducible exact LeO.none _)
      | (with_reducible refine LeO.ite ?_ ?_)
      | (with_reducible refine LeO.bind ?_ (fun _ => ?_))
      | exact ih0 _ _ _
      | exact ih1 _ _ _ _
      | exact ih2 _ _ _
      | exact LeO.none _
      | refine LeO.ite ?_ ?_
      | refine LeO.bind ?_ (fun _ => ?_)
set_option maxHeartbeats 8000000 in
set_option maxRecDepth 100000 in
theorem valiseref24_word.calls (k : Nat) (a0 : ByteArray) (a1 : Int) (r1 : ByteArray) (r2 : Bool) (w : World) (h : valiseref24_word.f k a0 a1 = some (r1, r2)) :
    Calls Tryd.prog 49 #[.string a0, .int .i64 a1] w fun e w' => e = .returned (.tuple #[.string r1, .bool r2]) ∧ Drawn0 w w' := by
  have H : (valiseref24_word.l0 k a0 a1 0) = some (r1, r2) := h
  clear h
  have HC3 := Aside0.mk H
  clear H
  go_enter Tryd.func49, Tryd.ntmps49
  go_upto_block 0 with (fail)
  go_cut [6] (fun v6 wc => ∃ (kq : Nat) (x6_2 : Int), v6 = .int .i64 x6_2 ∧ Aside0 (valiseref24_word.j1 kq a0 a1 x6_2 = some (r1, r2)) ∧ Aside0 (kq ≤ k) ∧ Drawn0 w wc)
  case first =>
    have H := HC3.out
    clear HC3
    have H' := Aside0.mk H
    clear H
    go_wp2
    go_loopg [6] k (fun kq v6 w' => ∃ (x6_1 : Int), v6 = .int .i64 x6_1 ∧ Aside0 (valiseref24_word.l0 kq a0 a1 x6_1 = some (r1, r2)) ∧ Aside0 (kq ≤ k) ∧ Drawn0 w w')
    case atStart => exact ⟨(0), (by first | rfl | (simp; done) | (simp [*]; done)), H', ⟨Nat.le_refl _⟩, by repeat (first | exact Drawn0.refl _ | apply Drawn0.step)⟩
    case round =>
      clear H'
      try clear p2
      obtain ⟨x6_1, rfl, HA, HK1, ⟨m1, rfl⟩⟩ := hrel
      cases gk with
      | zero => exact absurd HA.out (by simp [valiseref24_word.l0])
      | succ k1 =>
        have H := HA.out
        clear HA
        simp only [valiseref24_word.l0] at H
        by_cases c4 : x6_1 < (a0.size : Int)
        · rw [if_pos c4] at H
          have c4b0 : decide (x6_1 < (a0.size : Int)) = true := decide_eq_true c4
          clear c4
          (first | rw [c4b0] | (simp only [i64_w, i32_w]; rw [c4b0]) | skip)
          by_cases c5 : 0 ≤ x6_1
          · rw [if_pos c5] at H
            have c5b0 : decide (0 ≤ x6_1) = true := decide_eq_true c5
            clear c5
            by_cases c7 : (bt a0 x6_1) = 0
            · rw [if_pos c7] at H
              have c7b0 : ((bt a0 x6_1) == 0) = true := beq_iff_eq.mpr c7
              have c7b1 : ((bt a0 x6_1) != 0) = false := bne_eq_false_iff_eq.mpr c7
              clear c7
              have H' := Aside0.mk H
              clear H
              have p6 : 0 ≤ (x6_1 : Int) := of_decide_eq_true (by first | (with_reducible assumption) | assumption)
              have q6 : x6_1 < (a0.size : Int) := of_decide_eq_true (by first | (with_reducible assumption) | assumption)
              have hx6 := bt_at a0 x6_1
              replace p6 := eq_true p6
              replace q6 := eq_true q6
              go_wp2
              go_meet
              case rel => exact ⟨_, (x6_1), (by first | rfl | (simp; done) | (simp [*]; done)), H', ⟨by have := HK1.out; first | omega | exact Nat.le_refl _⟩, by repeat (first | exact Drawn0.refl _ | apply Drawn0.step)⟩
            · rw [if_neg c7] at H
              have c7b0 : ((bt a0 x6_1) == 0) = false := beq_eq_false_iff_ne.mpr c7
              have c7b1 : ((bt a0 x6_1) != 0) = true := bne_iff_ne.mpr c7
              have H' := Aside0.mk H
              clear H
              have p6 : 0 ≤ (x6_1 : Int) := of_decide_eq_true (by first | (with_reducible assumption) | assumption)
              have q6 : x6_1 < (a0.size : Int) := of_decide_eq_true (by first | (with_reducible assumption) | assumption)
              have hx6 := bt_at a0 x6_1
              replace p6 := eq_true p6
              replace q6 := eq_true q6
              go_wp2
              go_roundg k1
              case measure => have := HK1.out; omega
              case rel => exact ⟨(wrap64 (x6_1 + 1)), (by first | rfl | (simp; done) | (simp [*]; done)), H', ⟨by have := HK1.out; omega⟩, by repeat (first | exact Drawn0.refl _ | apply Drawn0.step)⟩
          · rw [if_neg c5] at H
            exact absurd H (by simp)
        · rw [if_neg c4] at H
          have c4b0 : decide (x6_1 < (a0.size : Int)) = false := decide_eq_false c4
          clear c4
          (first | rw [c4b0] | (simp only [i64_w, i32_w]; rw [c4b0]) | skip)
          have H' := Aside0.mk H
          clear H
          go_wp2
          go_meet
          case rel => exact ⟨_, (x6_1), (by first | rfl | (simp; done) | (simp [*]; done)), H', ⟨by have := HK1.out; first | omega | exact Nat.le_refl _⟩, by repeat (first | exact Drawn0.refl _ | apply Drawn0.step)⟩
  case rest =>
    clear HC3
    try clear p2
    try clear c4
    try clear c4b0
    try clear c5
    try clear c5b0
    try clear p6
    try clear q6
    try clear hx6
    try clear c7
    try clear c7b0
    try clear c7b1
    try clear p2
    try clear p6
    try clear q6
    obtain ⟨kq, x6_2, rfl, HA, HJ2, ⟨mc2, rfl⟩⟩ := hcut
    cases kq with
    | zero => exact absurd HA.out (by simp [valiseref24_word.j1])
    | succ kj2 =>
      have H := HA.out
      clear HA
      simp only [valiseref24_word.j1] at H
      have H' := Aside0.mk H
      clear H
      go_wp2
      go_loopg [7] kj2 (fun kq v7 w' => ∃ (x7_2 : Int), v7 = .int .i64 x7_2 ∧ Aside0 (valiseref24_word.l1 kq a0 a1 x6_2 x7_2 = some (r1, r2)) ∧ Aside0 (kq ≤ kj2) ∧ Drawn0 w w')
      case atStart => exact ⟨(x6_2), (by first | rfl | (simp; done) | (simp [*]; done)), H', ⟨Nat.le_refl _⟩, by repeat (first | exact Drawn0.refl _ | apply Drawn0.step)⟩
      case round =>
        clear H'
        try clear c2
        try clear p2
        try clear c4
        try clear c4b0
        try clear c5
        try clear c5b0
        try clear p6
        try clear q6
        try clear hx6
        try clear c7
        try clear c7b0
        try clear c7b1
        try clear p2
        try clear p6
        try clear q6
        obtain ⟨x7_2, rfl, HA, HK2, ⟨m2, rfl⟩⟩ := hrel
        cases gk with
        | zero => exact absurd HA.out (by simp [valiseref24_word.l1])
        | succ k2 =>
          have H := HA.out
          clear HA
          simp only [valiseref24_word.l1] at H
          by_cases c8 : x7_2 < (a0.size : Int)
          · rw [if_pos c8] at H
            have c8b0 : decide (x7_2 < (a0.size : Int)) = true := decide_eq_true c8
            clear c8
            by_cases c9 : 0 ≤ x7_2
            · rw [if_pos c9] at H
              have c9b0 : decide (0 ≤ x7_2) = true := decide_eq_true c9
              clear c9
              by_cases c11 : (bt a0 x7_2) = 0
              · rw [if_pos c11] at H
                have c11b0 : ((bt a0 x7_2) == 0) = true := beq_iff_eq.mpr c11
                have c11b1 : ((bt a0 x7_2) != 0) = false := bne_eq_false_iff_eq.mpr c11
                clear c11
                have H' := Aside0.mk H
                clear H
                have p10 : 0 ≤ (x7_2 : Int) := of_decide_eq_true (by first | (with_reducible assumption) | assumption)
                have q10 : x7_2 < (a0.size : Int) := of_decide_eq_true (by first | (with_reducible assumption) | assumption)
                have hx10 := bt_at a0 x7_2
                replace p10 := eq_true p10
                replace q10 := eq_true q10
                go_wp2
                go_roundg k2
                case measure => have := HJ2.out; have := HK2.out; omega
                case rel => exact ⟨(wrap64 (x7_2 + 1)), (by first | rfl | (simp; done) | (simp [*]; done)), H', ⟨by have := HJ2.out; have := HK2.out; omega⟩, by repeat (first | exact Drawn0.refl _ | apply Drawn0.step)⟩
              · rw [if_neg c11] at H
                have c11b0 : ((bt a0 x7_2) == 0) = false := beq_eq_false_iff_ne.mpr c11
                have c11b1 : ((bt a0 x7_2) != 0) = true := bne_iff_ne.mpr c11
                simp only [Option.some.injEq, Prod.mk.injEq] at H
                obtain ⟨rfl, rfl⟩ := H
                have p10 : 0 ≤ (x7_2 : Int) := of_decide_eq_true (by first | (with_reducible assumption) | assumption)
                have q10 : x7_2 < (a0.size : Int) := of_decide_eq_true (by first | (with_reducible assumption) | assumption)
                have hx10 := bt_at a0 x7_2
                replace p10 := eq_true p10
                replace q10 := eq_true q10
                go_wp2
                go_ret2
                exact ⟨by first | rfl | (simp; done) | (simp only [i64_w]; simp [IntKind.wrap, IntKind.signed, IntKind.bits]; done) | (simp [*]; done), by repeat (first | exact Drawn0.refl _ | apply Drawn0.step)⟩
            · rw [if_neg c9] at H
              exact absurd H (by simp)
          · rw [if_neg c8] at H
            have c8b0 : decide (x7_2 < (a0.size : Int)) = false := decide_eq_false c8
            clear c8
            by_cases c12 : 0 ≤ x6_2
            · rw [if_pos c12] at H
              have c12b0 := eq_true c12
              have c12b1 : decide (0 ≤ x6_2) = true := decide_eq_true c12
              clear c12
              by_cases c13 : x6_2 ≤ (a0.size : Int)
              · rw [if_pos c13] at H
                have c13b0 := eq_true c13
                have c13b1 : decide (x6_2 ≤ (a0.size : Int)) = true := decide_eq_true c13
                clear c13
                simp only [Option.some.injEq, Prod.mk.injEq] at H
                obtain ⟨rfl, rfl⟩ := H
                go_wp2
                go_ret2
                exact ⟨by first | rfl | (simp; done) | (simp only [i64_w]; simp [IntKind.wrap, IntKind.signed, IntKind.bits]; done) | (simp [*]; done), by repeat (first | exact Drawn0.refl _ | apply Drawn0.step)⟩
              · rw [if_neg c13] at H
                exact absurd H (by simp)
            · rw [if_neg c12] at H
              exact absurd H (by simp)
def valiseref24_texts.j0 : Nat → ByteArray → Bool → ByteArray → Bool → ByteArray → Bool → ByteArray → Bool → ByteArray → Bool → Option (ByteArray × ByteArray × ByteArray × ByteArray × Bool)
  | 0, _, _, _, _, _, _, _, _, _, _ => none
  | k + 1, x9, x10, x11, x12, x13, x14, x15, x16, x17, x18 => if x9.toList = ([] : List UInt8) then (some ((⟨#[]⟩ : ByteArray), (⟨#[]⟩ : ByteArray), (⟨#[]⟩ : ByteArray), (⟨#[]⟩ : ByteArray), false)) else (if x11.toList = ([] : List UInt8) then (if x10 = true then (if x12 = true then (if x14 = true then (if x16 = true then (some (x9, x13, x15, x17, x18)) else (some (x9, x13, x15, x17, false))) else (some (x9, x13, x15, x17, false))) else (some (x9, x13, x15, x17, false))) else (some (x9, x13, x15, x17, false))) else (if x11.size + 1 ≤ 9223372036854775807 then (if (x11 ++ (⟨#[47]⟩ : ByteArray)).size + x9.size ≤ 9223372036854775807 then (if x10 = true then (if x12 = true then (if x14 = true then (if x16 = true then (some ((x11 ++ (⟨#[47]⟩ : ByteArray)) ++ x9, x13, x15, x17, x18)) else (some ((x11 ++ (⟨#[47]⟩ : ByteArray)) ++ x9, x13, x15, x17, false))) else (some ((x11 ++ (⟨#[47]⟩ : ByteArray)) ++ x9, x13, x15, x17, false))) else (some ((x11 ++ (⟨#[47]⟩ : ByteArray)) ++ x9, x13, x15, x17, false))) else (some ((x11 ++ (⟨#[47]⟩ : ByteArray)) ++ x9, x13, x15, x17, false))) else (none)) else (none)))
def valiseref24_texts.f (k : Nat) (a0 : ByteArray) (a1 : Int) : Option (ByteArray × ByteArray × ByteArray × ByteArray × Bool) := if 0 ≤ 100 then (if 100 ≤ (a0.size : Int) then ((valiseref24_word.f k (a0.extract 0 100) 100).bind fun bt183 => (if 345 ≤ 500 then (if 500 ≤ (a0.size : Int) then ((valiseref24_word.f k (a0.extract 345 500) 155).bind fun bt185 => (if 265 ≤ 297 then (if 297 ≤ (a0.size : Int) then ((valiseref24_word.f k (a0.extract 265 297) 31).bind fun bt187 => (if 297 ≤ 329 then (if 329 ≤ (a0.size : Int) then ((valiseref24_word.f k (a0.extract 297 329) 31).bind fun bt189 => (if a1 = 2 then (if 157 ≤ 257 then (if 257 ≤ (a0.size : Int) then ((valiseref24_word.f k (a0.extract 157 257) 100).bind fun bt191 => (valiseref24_texts.j0 k bt183.1 bt183.2 bt185.1 bt185.2 bt187.1 bt187.2 bt189.1 bt189.2 bt191.1 bt191.2)) else (none)) else (none)) else (valiseref24_texts.j0 k bt183.1 bt183.2 bt185.1 bt185.2 bt187.1 bt187.2 bt189.1 bt189.2 (⟨#[]⟩ : ByteArray) true))) else (none)) else (none))) else (none)) else (none))) else (none)) else (none))) else (none)) else (none)
theorem valiseref24_texts.mono_l : ∀ k, (∀ y0 y1 y2 y3 y4 y5 y6 y7 y8 y9, LeO (valiseref24_texts.j0 k y0 y1 y2 y3 y4 y5 y6 y7 y8 y9) (valiseref24_texts.j0 (k + 1) y0 y1 y2 y3 y4 y5 y6 y7 y8 y9))
  | 0 => fun _ _ _ _ _ _ _ _ _ _ r h => by simp [valiseref24_texts.j0] at h
  | k + 1 => by
    have ih0 := valiseref24_texts.mono_l k
    · intro y0 y1 y2 y3 y4 y5 y6 y7 y8 y9
      unfold valiseref24_texts.j0
      repeat' first
      | (with_reducible exact ih0 _ _ _ _ _ _ _ _ _ _)
      | (with_reducible exact valiseref24_word.mono _ _ _)
      | (with_reducible exact LeO.refl _)
      | (with_reducible exact LeO.none _)
      | (with_reducible refine LeO.ite ?_ ?_)
      | (with_reducible refine LeO.bind ?_ (fun _ => ?_))
      | exact ih0 _ _ _ _ _ _ _ _ _ _
      | exact valiseref24_word.mono _ _ _
      | exact LeO.none _
      | refine LeO.ite ?_ ?_
      | refine LeO.bind ?_ (fun _ => ?_)
theorem valiseref24_texts.mono : ∀ a0 a1 k, LeO (valiseref24_texts.f k a0 a1) (valiseref24_texts.f (k + 1) a0 a1) := by
  intro a0 a1 k
  have ih0 := valiseref24_texts.mono_l k
  unfold valiseref24_texts.f
  repeat' first
      | (with_reducible exact ih0 _ _ _ _ _ _ _ _ _ _)
      | (with_reducible exact valiseref24_word.mono _ _ _)
      | (with_reducible exact LeO.refl _)
      | (with_reducible exact LeO.none _)
      | (with_reducible refine LeO.ite ?_ ?_)
      | (with_reducible refine LeO.bind ?_ (fun _ => ?_))
      | exact ih0 _ _ _ _ _ _ _ _ _ _
      | exact valiseref24_word.mono _ _ _
      | exact LeO.none _
      | refine LeO.ite ?_ ?_
      | refine LeO.bind ?_ (fun _ => ?_)
set_option maxHeartbeats 8000000 in
set_option maxRecDepth 100000 in
theorem valiseref24_texts.calls (k : Nat) (a0 : ByteArray) (a1 : Int) (r1 : ByteArray) (r2 : ByteArray) (r3 : ByteArray) (r4 : ByteArray) (r5 : Bool) (w : World) (h : valiseref24_texts.f k a0 a1 = some (r1, r2, r3, r4, r5)) :
    Calls Tryd.prog 45 #[.string a0, .int .i64 a1] w fun e w' => e = .returned (.tuple #[.string r1, .string r2, .string r3, .string r4, .bool r5]) ∧ Drawn0 w w' := by
  have H : (if 0 ≤ 100 then (if 100 ≤ (a0.size : Int) then ((valiseref24_word.f k (a0.extract 0 100) 100).bind fun bt183 => (if 345 ≤ 500 then (if 500 ≤ (a0.size : Int) then ((valiseref24_word.f k (a0.extract 345 500) 155).bind fun bt185 => (if 265 ≤ 297 then (if 297 ≤ (a0.size : Int) then ((valiseref24_word.f k (a0.extract 265 297) 31).bind fun bt187 => (if 297 ≤ 329 then (if 329 ≤ (a0.size : Int) then ((valiseref24_word.f k (a0.extract 297 329) 31).bind fun bt189 => (if a1 = 2 then (if 157 ≤ 257 then (if 257 ≤ (a0.size : Int) then ((valiseref24_word.f k (a0.extract 157 257) 100).bind fun bt191 => (valiseref24_texts.j0 k bt183.1 bt183.2 bt185.1 bt185.2 bt187.1 bt187.2 bt189.1 bt189.2 bt191.1 bt191.2)) else (none)) else (none)) else (valiseref24_texts.j0 k bt183.1 bt183.2 bt185.1 bt185.2 bt187.1 bt187.2 bt189.1 bt189.2 (⟨#[]⟩ : ByteArray) true))) else (none)) else (none))) else (none)) else (none))) else (none)) else (none))) else (none)) else (none)) = some (r1, r2, r3, r4, r5) := h
  clear h
  by_cases c3 : 0 ≤ 100
  · rw [if_pos c3] at H
    have c3b0 := eq_true c3
    have c3b1 : decide (0 ≤ 100) = true := decide_eq_true c3
    clear c3
    by_cases c4 : 100 ≤ (a0.size : Int)
    · rw [if_pos c4] at H
      have c4b0 := eq_true c4
      have c4b1 : decide (100 ≤ (a0.size : Int)) = true := decide_eq_true c4
      clear c4
      replace H := Option.bind_eq_some_iff.mp H
      obtain ⟨⟨t183, t184⟩, A50, H⟩ := H
      replace H : (if 345 ≤ 500 then (if 500 ≤ (a0.size : Int) then ((valiseref24_word.f k (a0.extract 345 500) 155).bind fun bt185 => (if 265 ≤ 297 then (if 297 ≤ (a0.size : Int) then ((valiseref24_word.f k (a0.extract 265 297) 31).bind fun bt187 => (if 297 ≤ 329 then (if 329 ≤ (a0.size : Int) then ((valiseref24_word.f k (a0.extract 297 329) 31).bind fun bt189 => (if a1 = 2 then (if 157 ≤ 257 then (if 257 ≤ (a0.size : Int) then ((valiseref24_word.f k (a0.extract 157 257) 100).bind fun bt191 => (valiseref24_texts.j0 k t183 t184 bt185.1 bt185.2 bt187.1 bt187.2 bt189.1 bt189.2 bt191.1 bt191.2)) else (none)) else (none)) else (valiseref24_texts.j0 k t183 t184 bt185.1 bt185.2 bt187.1 bt187.2 bt189.1 bt189.2 (⟨#[]⟩ : ByteArray) true))) else (none)) else (none))) else (none)) else (none))) else (none)) else (none)) = some (r1, r2, r3, r4, r5) := H
      have A5 := Aside0.mk A50
      clear A50
      by_cases c6 : 345 ≤ 500
      · rw [if_pos c6] at H
        have c6b0 := eq_true c6
        have c6b1 : decide (345 ≤ 500) = true := decide_eq_true c6
        clear c6
        by_cases c7 : 500 ≤ (a0.size : Int)
        · rw [if_pos c7] at H
          have c7b0 := eq_true c7
          have c7b1 : decide (500 ≤ (a0.size : Int)) = true := decide_eq_true c7
          clear c7
          replace H := Option.bind_eq_some_iff.mp H
          obtain ⟨⟨t185, t186⟩, A80, H⟩ := H
          replace H : (if 265 ≤ 297 then (if 297 ≤ (a0.size : Int) then ((valiseref24_word.f k (a0.extract 265 297) 31).bind fun bt187 => (if 297 ≤ 329 then (if 329 ≤ (a0.size : Int) then ((valiseref24_word.f k (a0.extract 297 329) 31).bind fun bt189 => (if a1 = 2 then (if 157 ≤ 257 then (if 257 ≤ (a0.size : Int) then ((valiseref24_word.f k (a0.extract 157 257) 100).bind fun bt191 => (valiseref24_texts.j0 k t183 t184 t185 t186 bt187.1 bt187.2 bt189.1 bt189.2 bt191.1 bt191.2)) else (none)) else (none)) else (valiseref24_texts.j0 k t183 t184 t185 t186 bt187.1 bt187.2 bt189.1 bt189.2 (⟨#[]⟩ : ByteArray) true))) else (none)) else (none))) else (none)) else (none)) = some (r1, r2, r3, r4, r5) := H
          have A8 := Aside0.mk A80
          clear A80
          by_cases c9 : 265 ≤ 297
          · rw [if_pos c9] at H
            have c9b0 := eq_true c9
            have c9b1 : decide (265 ≤ 297) = true := decide_eq_true c9
            clear c9
            by_cases c10 : 297 ≤ (a0.size : Int)
            · rw [if_pos c10] at H
              have c10b0 := eq_true c10
              have c10b1 : decide (297 ≤ (a0.size : Int)) = true := decide_eq_true c10
              clear c10
              replace H := Option.bind_eq_some_iff.mp H
              obtain ⟨⟨t187, t188⟩, A110, H⟩ := H
              replace H : (if 297 ≤ 329 then (if 329 ≤ (a0.size : Int) then ((valiseref24_word.f k (a0.extract 297 329) 31).bind fun bt189 => (if a1 = 2 then (if 157 ≤ 257 then (if 257 ≤ (a0.size : Int) then ((valiseref24_word.f k (a0.extract 157 257) 100).bind fun bt191 => (valiseref24_texts.j0 k t183 t184 t185 t186 t187 t188 bt189.1 bt189.2 bt191.1 bt191.2)) else (none)) else (none)) else (valiseref24_texts.j0 k t183 t184 t185 t186 t187 t188 bt189.1 bt189.2 (⟨#[]⟩ : ByteArray) true))) else (none)) else (none)) = some (r1, r2, r3, r4, r5) := H
              have A11 := Aside0.mk A110
              clear A110
              by_cases c12 : 297 ≤ 329
              · rw [if_pos c12] at H
                have c12b0 := eq_true c12
                have c12b1 : decide (297 ≤ 329) = true := decide_eq_true c12
                clear c12
                by_cases c13 : 329 ≤ (a0.size : Int)
                · rw [if_pos c13] at H
                  have c13b0 := eq_true c13
                  have c13b1 : decide (329 ≤ (a0.size : Int)) = true := decide_eq_true c13
                  clear c13
                  replace H := Option.bind_eq_some_iff.mp H
                  obtain ⟨⟨t189, t190⟩, A140, H⟩ := H
                  replace H : (if a1 = 2 then (if 157 ≤ 257 then (if 257 ≤ (a0.size : Int) then ((valiseref24_word.f k (a0.extract 157 257) 100).bind fun bt191 => (valiseref24_texts.j0 k t183 t184 t185 t186 t187 t188 t189 t190 bt191.1 bt191.2)) else (none)) else (none)) else (valiseref24_texts.j0 k t183 t184 t185 t186 t187 t188 t189 t190 (⟨#[]⟩ : ByteArray) true)) = some (r1, r2, r3, r4, r5) := H
                  have A14 := Aside0.mk A140
                  clear A140
                  have HC15 := Aside0.mk H
                  clear H
                  go_enter Tryd.func45, Tryd.ntmps45
                  go_upto_if 44 with (first | ((with_reducible refine gate_callee (f := 49) rfl ?_); refine goesL_ (some 22) rfl rfl Tryd.func49 (by kernel_rfl) rfl #[.string (a0.extract 0 100), .int .i64 100] rfl (by (try simp only [List.map_toArray, List.map_cons, List.map_nil]); first | done | rfl | (simp only [List.length_drop, List.length_take]; rfl)) ?_; (with_reducible refine (valiseref24_word.calls k (a0.extract 0 100) 100 t183 t184 _ A5.out).mono ?_); rintro e w' ⟨rfl, ⟨nd, rfl⟩⟩; refine ⟨_, rfl, ?_⟩) | ((with_reducible refine gate_callee (f := 49) rfl ?_); refine goesL_ (some 28) rfl rfl Tryd.func49 (by kernel_rfl) rfl #[.string (a0.extract 345 500), .int .i64 155] rfl (by (try simp only [List.map_toArray, List.map_cons, List.map_nil]); first | done | rfl | (simp only [List.length_drop, List.length_take]; rfl)) ?_; (with_reducible refine (valiseref24_word.calls k (a0.extract 345 500) 155 t185 t186 _ A8.out).mono ?_); rintro e w' ⟨rfl, ⟨nd, rfl⟩⟩; refine ⟨_, rfl, ?_⟩) | ((with_reducible refine gate_callee (f := 49) rfl ?_); refine goesL_ (some 34) rfl rfl Tryd.func49 (by kernel_rfl) rfl #[.string (a0.extract 265 297), .int .i64 31] rfl (by (try simp only [List.map_toArray, List.map_cons, List.map_nil]); first | done | rfl | (simp only [List.length_drop, List.length_take]; rfl)) ?_; (with_reducible refine (valiseref24_word.calls k (a0.extract 265 297) 31 t187 t188 _ A11.out).mono ?_); rintro e w' ⟨rfl, ⟨nd, rfl⟩⟩; refine ⟨_, rfl, ?_⟩) | ((with_reducible refine gate_callee (f := 49) rfl ?_); refine goesL_ (some 40) rfl rfl Tryd.func49 (by kernel_rfl) rfl #[.string (a0.extract 297 329), .int .i64 31] rfl (by (try simp only [List.map_toArray, List.map_cons, List.map_nil]); first | done | rfl | (simp only [List.length_drop, List.length_take]; rfl)) ?_; (with_reducible refine (valiseref24_word.calls k (a0.extract 297 329) 31 t189 t190 _ A14.out).mono ?_); rintro e w' ⟨rfl, ⟨nd, rfl⟩⟩; refine ⟨_, rfl, ?_⟩))
                  (try simp only [Act.put, List.setIfInBounds_toArray, List.set_cons_zero, List.set_cons_succ])
                  go_cut [17, 18] (fun v17 v18 wc => ∃ (kq : Nat) (x17_14 : ByteArray) (x18_14 : Bool), v17 = .string x17_14 ∧ v18 = .bool x18_14 ∧ Aside0 (valiseref24_texts.j0 kq t183 t184 t185 t186 t187 t188 t189 t190 x17_14 x18_14 = some (r1, r2, r3, r4, r5)) ∧ Aside0 (kq ≤ k) ∧ Drawn0 w wc)
                  case first =>
                    have H := HC15.out
                    clear HC15
                    by_cases c16 : a1 = 2
                    · rw [if_pos c16] at H
                      have c16b0 : (a1 == 2) = true := beq_iff_eq.mpr c16
                      have c16b1 : (a1 != 2) = false := bne_eq_false_iff_eq.mpr c16
                      clear c16
                      (first | rw [c16b0] | (simp only [i64_w, i32_w]; rw [c16b0]) | skip)
                      by_cases c17 : 157 ≤ 257
                      · rw [if_pos c17] at H
                        have c17b0 := eq_true c17
                        have c17b1 : decide (157 ≤ 257) = true := decide_eq_true c17
                        clear c17
                        by_cases c18 : 257 ≤ (a0.size : Int)
                        · rw [if_pos c18] at H
                          have c18b0 := eq_true c18
                          have c18b1 : decide (257 ≤ (a0.size : Int)) = true := decide_eq_true c18
                          clear c18
                          replace H := Option.bind_eq_some_iff.mp H
                          obtain ⟨⟨t191, t192⟩, A190, H⟩ := H
                          replace H : (valiseref24_texts.j0 k t183 t184 t185 t186 t187 t188 t189 t190 t191 t192) = some (r1, r2, r3, r4, r5) := H
                          have A19 := Aside0.mk A190
                          clear A190
                          have H' := Aside0.mk H
                          clear H
                          go_wp2_with (first | ((with_reducible refine gate_callee (f := 49) rfl ?_); refine goesL_ (some 48) rfl rfl Tryd.func49 (by kernel_rfl) rfl #[.string (a0.extract 157 257), .int .i64 100] rfl (by (try simp only [List.map_toArray, List.map_cons, List.map_nil]); first | done | rfl | (simp only [List.length_drop, List.length_take]; rfl)) ?_; (with_reducible refine (valiseref24_word.calls k (a0.extract 157 257) 100 t191 t192 _ A19.out).mono ?_); rintro e w' ⟨rfl, ⟨nd, rfl⟩⟩; refine ⟨_, rfl, ?_⟩))
                          go_meet
                          case rel => exact ⟨_, (t191), (t192), (by first | rfl | (simp; done) | (simp [*]; done)), (by first | rfl | (simp; done) | (simp [*]; done)), H', ⟨by first | omega | exact Nat.le_refl _⟩, by repeat (first | exact Drawn0.refl _ | apply Drawn0.step)⟩
                        · rw [if_neg c18] at H
                          exact absurd H (by simp)
                      · rw [if_neg c17] at H
                        exact absurd H (by simp)
                    · rw [if_neg c16] at H
                      have c16b0 : (a1 == 2) = false := beq_eq_false_iff_ne.mpr c16
                      have c16b1 : (a1 != 2) = true := bne_iff_ne.mpr c16
                      (first | rw [c16b0] | (simp only [i64_w, i32_w]; rw [c16b0]) | skip)
                      have H' := Aside0.mk H
                      clear H
                      go_wp2
                      go_meet
                      case rel => exact ⟨_, ((⟨#[]⟩ : ByteArray)), (true), (by first | rfl | (simp; done) | (simp [*]; done)), (by first | rfl | (simp; done) | (simp [*]; done)), H', ⟨by first | omega | exact Nat.le_refl _⟩, by repeat (first | exact Drawn0.refl _ | apply Drawn0.step)⟩
                  case rest =>
                    clear HC15
                    try clear c1
                    try clear p2
                    try clear c3
                    try clear c3b0
                    try clear c3b1
                    try clear c4
                    try clear c4b0
                    try clear c4b1
                    try clear c6
                    try clear c6b0
                    try clear c6b1
                    try clear c7
                    try clear c7b0
                    try clear c7b1
                    try clear c9
                    try clear c9b0
                    try clear c9b1
                    try clear c10
                    try clear c10b0
                    try clear c10b1
                    try clear c12
                    try clear c12b0
                    try clear c12b1
                    try clear c13
                    try clear c13b0
                    try clear c13b1
                    try clear c16
                    try clear c16b0
                    try clear c16b1
                    try clear c17
                    try clear c17b0
                    try clear c17b1
                    try clear c18
                    try clear c18b0
                    try clear c18b1
                    obtain ⟨kq, x17_14, x18_14, rfl, rfl, HA, HJ14, ⟨mc14, rfl⟩⟩ := hcut
                    cases kq with
                    | zero => exact absurd HA.out (by simp [valiseref24_texts.j0])
                    | succ kj14 =>
                      have H := HA.out
                      clear HA
                      simp only [valiseref24_texts.j0] at H
                      by_cases c20 : t183.toList = ([] : List UInt8)
                      · rw [if_pos c20] at H
                        have c20b0 : (t183.toList == ([] : List UInt8)) = true := beq_iff_eq.mpr c20
                        have c20b1 : (t183.toList != ([] : List UInt8)) = false := bne_eq_false_iff_eq.mpr c20
                        clear c20
                        simp only [Option.some.injEq, Prod.mk.injEq] at H
                        obtain ⟨rfl, rfl, rfl, rfl, rfl⟩ := H
                        go_wp2
                        refine bodyPost_ret (results_list (rs := [.tmp 4, .tmp 5, .tmp 6, .tmp 7, .tmp 8]) rfl (by simp) (.tmp (.tmp (.tmp (.tmp (.tmp .nil)))))) rfl ?_
                        exact ⟨by first | rfl | (simp; done) | (simp only [i64_w]; simp [IntKind.wrap, IntKind.signed, IntKind.bits]; done) | (simp [*]; done), by repeat (first | exact Drawn0.refl _ | apply Drawn0.step)⟩
                      · rw [if_neg c20] at H
                        have c20b0 : (t183.toList == ([] : List UInt8)) = false := beq_eq_false_iff_ne.mpr c20
                        have c20b1 : (t183.toList != ([] : List UInt8)) = true := bne_iff_ne.mpr c20
                        by_cases c21 : t185.toList = ([] : List UInt8)
                        · rw [if_pos c21] at H
                          have c21b0 : (t185.toList == ([] : List UInt8)) = true := beq_iff_eq.mpr c21
                          have c21b1 : (t185.toList != ([] : List UInt8)) = false := bne_eq_false_iff_eq.mpr c21
                          clear c21
                          by_cases c22 : t184 = true
                          · subst c22
                            have H1 : (if t186 = true then (if t188 = true then (if t190 = true then (some (t183, t187, t189, x17_14, x18_14)) else (some (t183, t187, t189, x17_14, false))) else (some (t183, t187, t189, x17_14, false))) else (some (t183, t187, t189, x17_14, false))) = some (r1, r2, r3, r4, r5) := by rw [if_pos rfl] at H; exact H
                            clear H
                            have H := H1
                            clear H1
                            by_cases c23 : t186 = true
                            · subst c23
                              have H1 : (if t188 = true then (if t190 = true then (some (t183, t187, t189, x17_14, x18_14)) else (some (t183, t187, t189, x17_14, false))) else (some (t183, t187, t189, x17_14, false))) = some (r1, r2, r3, r4, r5) := by rw [if_pos rfl] at H; exact H
                              clear H
                              have H := H1
                              clear H1
                              by_cases c24 : t188 = true
                              · subst c24
                                have H1 : (if t190 = true then (some (t183, t187, t189, x17_14, x18_14)) else (some (t183, t187, t189, x17_14, false))) = some (r1, r2, r3, r4, r5) := by rw [if_pos rfl] at H; exact H
                                clear H
                                have H := H1
                                clear H1
                                by_cases c25 : t190 = true
                                · subst c25
                                  have H1 : (some (t183, t187, t189, x17_14, x18_14)) = some (r1, r2, r3, r4, r5) := by rw [if_pos rfl] at H; exact H
                                  clear H
                                  have H := H1
                                  clear H1
                                  simp only [Option.some.injEq, Prod.mk.injEq] at H
                                  obtain ⟨rfl, rfl, rfl, rfl, rfl⟩ := H
                                  go_wp2
                                  refine bodyPost_ret (results_list (rs := [.tmp 4, .tmp 5, .tmp 6, .tmp 7, .tmp 8]) rfl (by simp) (.tmp (.tmp (.tmp (.tmp (.tmp .nil)))))) rfl ?_
                                  exact ⟨by first | rfl | (simp; done) | (simp only [i64_w]; simp [IntKind.wrap, IntKind.signed, IntKind.bits]; done) | (simp [*]; done), by repeat (first | exact Drawn0.refl _ | apply Drawn0.step)⟩
                                · replace c25 := Bool.eq_false_iff.mpr c25
                                  subst c25
                                  have H1 : (some (t183, t187, t189, x17_14, false)) = some (r1, r2, r3, r4, r5) := by rw [if_neg (show ¬ (false = true) by decide)] at H; exact H
                                  clear H
                                  have H := H1
                                  clear H1
                                  simp only [Option.some.injEq, Prod.mk.injEq] at H
                                  obtain ⟨rfl, rfl, rfl, rfl, rfl⟩ := H
                                  go_wp2
                                  refine bodyPost_ret (results_list (rs := [.tmp 4, .tmp 5, .tmp 6, .tmp 7, .tmp 8]) rfl (by simp) (.tmp (.tmp (.tmp (.tmp (.tmp .nil)))))) rfl ?_
                                  exact ⟨by first | rfl | (simp; done) | (simp only [i64_w]; simp [IntKind.wrap, IntKind.signed, IntKind.bits]; done) | (simp [*]; done), by repeat (first | exact Drawn0.refl _ | apply Drawn0.step)⟩
                              · replace c24 := Bool.eq_false_iff.mpr c24
                                subst c24
                                have H1 : (some (t183, t187, t189, x17_14, false)) = some (r1, r2, r3, r4, r5) := by rw [if_neg (show ¬ (false = true) by decide)] at H; exact H
                                clear H
                                have H := H1
                                clear H1
                                simp only [Option.some.injEq, Prod.mk.injEq] at H
                                obtain ⟨rfl, rfl, rfl, rfl, rfl⟩ := H
                                go_wp2
                                refine bodyPost_ret (results_list (rs := [.tmp 4, .tmp 5, .tmp 6, .tmp 7, .tmp 8]) rfl (by simp) (.tmp (.tmp (.tmp (.tmp (.tmp .nil)))))) rfl ?_
                                exact ⟨by first | rfl | (simp; done) | (simp only [i64_w]; simp [IntKind.wrap, IntKind.signed, IntKind.bits]; done) | (simp [*]; done), by repeat (first | exact Drawn0.refl _ | apply Drawn0.step)⟩
                            · replace c23 := Bool.eq_false_iff.mpr c23
                              subst c23
                              have H1 : (some (t183, t187, t189, x17_14, false)) = some (r1, r2, r3, r4, r5) := by rw [if_neg (show ¬ (false = true) by decide)] at H; exact H
                              clear H
                              have H := H1
                              clear H1
                              simp only [Option.some.injEq, Prod.mk.injEq] at H
                              obtain ⟨rfl, rfl, rfl, rfl, rfl⟩ := H
                              go_wp2
                              refine bodyPost_ret (results_list (rs := [.tmp 4, .tmp 5, .tmp 6, .tmp 7, .tmp 8]) rfl (by simp) (.tmp (.tmp (.tmp (.tmp (.tmp .nil)))))) rfl ?_
                              exact ⟨by first | rfl | (simp; done) | (simp only [i64_w]; simp [IntKind.wrap, IntKind.signed, IntKind.bits]; done) | (simp [*]; done), by repeat (first | exact Drawn0.refl _ | apply Drawn0.step)⟩
                          · replace c22 := Bool.eq_false_iff.mpr c22
                            subst c22
                            have H1 : (some (t183, t187, t189, x17_14, false)) = some (r1, r2, r3, r4, r5) := by rw [if_neg (show ¬ (false = true) by decide)] at H; exact H
                            clear H
                            have H := H1
                            clear H1
                            simp only [Option.some.injEq, Prod.mk.injEq] at H
                            obtain ⟨rfl, rfl, rfl, rfl, rfl⟩ := H
                            go_wp2
                            refine bodyPost_ret (results_list (rs := [.tmp 4, .tmp 5, .tmp 6, .tmp 7, .tmp 8]) rfl (by simp) (.tmp (.tmp (.tmp (.tmp (.tmp .nil)))))) rfl ?_
                            exact ⟨by first | rfl | (simp; done) | (simp only [i64_w]; simp [IntKind.wrap, IntKind.signed, IntKind.bits]; done) | (simp [*]; done), by repeat (first | exact Drawn0.refl _ | apply Drawn0.step)⟩
                        · rw [if_neg c21] at H
                          have c21b0 : (t185.toList == ([] : List UInt8)) = false := beq_eq_false_iff_ne.mpr c21
                          have c21b1 : (t185.toList != ([] : List UInt8)) = true := bne_iff_ne.mpr c21
                          by_cases c26 : t185.size + 1 ≤ 9223372036854775807
                          · rw [if_pos c26] at H
                            have c26b0 := eq_true c26
                            have c26b1 : decide (t185.size + 1 ≤ 9223372036854775807) = true := decide_eq_true c26
                            try have c26b2 : (9223372036854775807 < t185.size + 1) = False := eq_false (Nat.not_lt.2 c26)
                            by_cases c27 : (t185 ++ (⟨#[47]⟩ : ByteArray)).size + t183.size ≤ 9223372036854775807
                            · rw [if_pos c27] at H
                              have c27b0 := eq_true c27
                              have c27b1 : decide ((t185 ++ (⟨#[47]⟩ : ByteArray)).size + t183.size ≤ 9223372036854775807) = true := decide_eq_true c27
                              try have c27b2 : (9223372036854775807 < (t185 ++ (⟨#[47]⟩ : ByteArray)).size + t183.size) = False := eq_false (Nat.not_lt.2 c27)
                              by_cases c28 : t184 = true
                              · subst c28
                                have H1 : (if t186 = true then (if t188 = true then (if t190 = true then (some ((t185 ++ (⟨#[47]⟩ : ByteArray)) ++ t183, t187, t189, x17_14, x18_14)) else (some ((t185 ++ (⟨#[47]⟩ : ByteArray)) ++ t183, t187, t189, x17_14, false))) else (some ((t185 ++ (⟨#[47]⟩ : ByteArray)) ++ t183, t187, t189, x17_14, false))) else (some ((t185 ++ (⟨#[47]⟩ : ByteArray)) ++ t183, t187, t189, x17_14, false))) = some (r1, r2, r3, r4, r5) := by rw [if_pos rfl] at H; exact H
                                clear H
                                have H := H1
                                clear H1
                                by_cases c29 : t186 = true
                                · subst c29
                                  have H1 : (if t188 = true then (if t190 = true then (some ((t185 ++ (⟨#[47]⟩ : ByteArray)) ++ t183, t187, t189, x17_14, x18_14)) else (some ((t185 ++ (⟨#[47]⟩ : ByteArray)) ++ t183, t187, t189, x17_14, false))) else (some ((t185 ++ (⟨#[47]⟩ : ByteArray)) ++ t183, t187, t189, x17_14, false))) = some (r1, r2, r3, r4, r5) := by rw [if_pos rfl] at H; exact H
                                  clear H
                                  have H := H1
                                  clear H1
                                  by_cases c30 : t188 = true
                                  · subst c30
                                    have H1 : (if t190 = true then (some ((t185 ++ (⟨#[47]⟩ : ByteArray)) ++ t183, t187, t189, x17_14, x18_14)) else (some ((t185 ++ (⟨#[47]⟩ : ByteArray)) ++ t183, t187, t189, x17_14, false))) = some (r1, r2, r3, r4, r5) := by rw [if_pos rfl] at H; exact H
                                    clear H
                                    have H := H1
                                    clear H1
                                    by_cases c31 : t190 = true
                                    · subst c31
                                      have H1 : (some ((t185 ++ (⟨#[47]⟩ : ByteArray)) ++ t183, t187, t189, x17_14, x18_14)) = some (r1, r2, r3, r4, r5) := by rw [if_pos rfl] at H; exact H
                                      clear H
                                      have H := H1
                                      clear H1
                                      simp only [Option.some.injEq, Prod.mk.injEq] at H
                                      obtain ⟨rfl, rfl, rfl, rfl, rfl⟩ := H
                                      go_wp2
                                      refine bodyPost_ret (results_list (rs := [.tmp 4, .tmp 5, .tmp 6, .tmp 7, .tmp 8]) rfl (by simp) (.tmp (.tmp (.tmp (.tmp (.tmp .nil)))))) rfl ?_
                                      exact ⟨by first | rfl | (simp; done) | (simp only [i64_w]; simp [IntKind.wrap, IntKind.signed, IntKind.bits]; done) | (simp [*]; done), by repeat (first | exact Drawn0.refl _ | apply Drawn0.step)⟩
                                    · replace c31 := Bool.eq_false_iff.mpr c31
                                      subst c31
                                      have H1 : (some ((t185 ++ (⟨#[47]⟩ : ByteArray)) ++ t183, t187, t189, x17_14, false)) = some (r1, r2, r3, r4, r5) := by rw [if_neg (show ¬ (false = true) by decide)] at H; exact H
                                      clear H
                                      have H := H1
                                      clear H1
                                      simp only [Option.some.injEq, Prod.mk.injEq] at H
                                      obtain ⟨rfl, rfl, rfl, rfl, rfl⟩ := H
                                      go_wp2
                                      refine bodyPost_ret (results_list (rs := [.tmp 4, .tmp 5, .tmp 6, .tmp 7, .tmp 8]) rfl (by simp) (.tmp (.tmp (.tmp (.tmp (.tmp .nil)))))) rfl ?_
                                      exact ⟨by first | rfl | (simp; done) | (simp only [i64_w]; simp [IntKind.wrap, IntKind.signed, IntKind.bits]; done) | (simp [*]; done), by repeat (first | exact Drawn0.refl _ | apply Drawn0.step)⟩
                                  · replace c30 := Bool.eq_false_iff.mpr c30
                                    subst c30
                                    have H1 : (some ((t185 ++ (⟨#[47]⟩ : ByteArray)) ++ t183, t187, t189, x17_14, false)) = some (r1, r2, r3, r4, r5) := by rw [if_neg (show ¬ (false = true) by decide)] at H; exact H
                                    clear H
                                    have H := H1
                                    clear H1
                                    simp only [Option.some.injEq, Prod.mk.injEq] at H
                                    obtain ⟨rfl, rfl, rfl, rfl, rfl⟩ := H
                                    go_wp2
                                    refine bodyPost_ret (results_list (rs := [.tmp 4, .tmp 5, .tmp 6, .tmp 7, .tmp 8]) rfl (by simp) (.tmp (.tmp (.tmp (.tmp (.tmp .nil)))))) rfl ?_
                                    exact ⟨by first | rfl | (simp; done) | (simp only [i64_w]; simp [IntKind.wrap, IntKind.signed, IntKind.bits]; done) | (simp [*]; done), by repeat (first | exact Drawn0.refl _ | apply Drawn0.step)⟩
                                · replace c29 := Bool.eq_false_iff.mpr c29
                                  subst c29
                                  have H1 : (some ((t185 ++ (⟨#[47]⟩ : ByteArray)) ++ t183, t187, t189, x17_14, false)) = some (r1, r2, r3, r4, r5) := by rw [if_neg (show ¬ (false = true) by decide)] at H; exact H
                                  clear H
                                  have H := H1
                                  clear H1
                                  simp only [Option.some.injEq, Prod.mk.injEq] at H
                                  obtain ⟨rfl, rfl, rfl, rfl, rfl⟩ := H
                                  go_wp2
                                  refine bodyPost_ret (results_list (rs := [.tmp 4, .tmp 5, .tmp 6, .tmp 7, .tmp 8]) rfl (by simp) (.tmp (.tmp (.tmp (.tmp (.tmp .nil)))))) rfl ?_
                                  exact ⟨by first | rfl | (simp; done) | (simp only [i64_w]; simp [IntKind.wrap, IntKind.signed, IntKind.bits]; done) | (simp [*]; done), by repeat (first | exact Drawn0.refl _ | apply Drawn0.step)⟩
                              · replace c28 := Bool.eq_false_iff.mpr c28
                                subst c28
                                have H1 : (some ((t185 ++ (⟨#[47]⟩ : ByteArray)) ++ t183, t187, t189, x17_14, false)) = some (r1, r2, r3, r4, r5) := by rw [if_neg (show ¬ (false = true) by decide)] at H; exact H
                                clear H
                                have H := H1
                                clear H1
                                simp only [Option.some.injEq, Prod.mk.injEq] at H
                                obtain ⟨rfl, rfl, rfl, rfl, rfl⟩ := H
                                go_wp2
                                refine bodyPost_ret (results_list (rs := [.tmp 4, .tmp 5, .tmp 6, .tmp 7, .tmp 8]) rfl (by simp) (.tmp (.tmp (.tmp (.tmp (.tmp .nil)))))) rfl ?_
                                exact ⟨by first | rfl | (simp; done) | (simp only [i64_w]; simp [IntKind.wrap, IntKind.signed, IntKind.bits]; done) | (simp [*]; done), by repeat (first | exact Drawn0.refl _ | apply Drawn0.step)⟩
                            · rw [if_neg c27] at H
                              exact absurd H (by simp)
                          · rw [if_neg c26] at H
                            exact absurd H (by simp)
                · rw [if_neg c13] at H
                  exact absurd H (by simp)
              · rw [if_neg c12] at H
                exact absurd H (by simp)
            · rw [if_neg c10] at H
              exact absurd H (by simp)
          · rw [if_neg c9] at H
            exact absurd H (by simp)
        · rw [if_neg c7] at H
          exact absurd H (by simp)
      · rw [if_neg c6] at H
        exact absurd H (by simp)
    · rw [if_neg c4] at H
      exact absurd H (by simp)
  · rw [if_neg c3] at H
    exact absurd H (by simp)
def valiselaw24_short.l0 : Nat → ByteArray → Int → Option (Bool)
  | 0, _, _ => none
  | k + 1, x0, x5 => if x5 < (x0.size : Int) then (if 0 ≤ x5 then (if (bt x0 x5) = 0 then (some false) else (valiselaw24_short.l0 k x0 (wrap64 (x5 + 1)))) else (none)) else (some true)
def valiselaw24_short.f (k : Nat) (a0 : ByteArray) (a1 : Int) : Option (Bool) := if (a0.size : Int) > a1 then (some false) else (valiselaw24_short.l0 k a0 0)
theorem valiselaw24_short.mono_l : ∀ k, (∀ y0 y1, LeO (valiselaw24_short.l0 k y0 y1) (valiselaw24_short.l0 (k + 1) y0 y1))
  | 0 => fun _ _ r h => by simp [valiselaw24_short.l0] at h
  | k + 1 => by
    have ih0 := valiselaw24_short.mono_l k
    · intro y0 y1
      unfold valiselaw24_short.l0
      repeat' first
      | (with_reducible exact ih0 _ _)
      | (with_reducible exact LeO.refl _)
      | (with_reducible exact LeO.none _)
      | (with_reducible refine LeO.ite ?_ ?_)
      | (with_reducible refine LeO.bind ?_ (fun _ => ?_))
      | exact ih0 _ _
      | exact LeO.none _
      | refine LeO.ite ?_ ?_
      | refine LeO.bind ?_ (fun _ => ?_)
theorem valiselaw24_short.mono : ∀ a0 a1 k, LeO (valiselaw24_short.f k a0 a1) (valiselaw24_short.f (k + 1) a0 a1) := by
  intro a0 a1 k
  have ih0 := valiselaw24_short.mono_l k
  unfold valiselaw24_short.f
  repeat' first
      | (with_reducible exact ih0 _ _)
      | (with_reducible exact LeO.refl _)
      | (with_reducible exact LeO.none _)
      | (with_reducible refine LeO.ite ?_ ?_)
      | (with_reducible refine LeO.bind ?_ (fun _ => ?_))
      | exact ih0 _ _
      | exact LeO.none _
      | refine LeO.ite ?_ ?_
      | refine LeO.bind ?_ (fun _ => ?_)
set_option maxHeartbeats 8000000 in
set_option maxRecDepth 100000 in
theorem valiselaw24_short.calls (k : Nat) (a0 : ByteArray) (a1 : Int) (r : Bool) (w : World) (h : valiselaw24_short.f k a0 a1 = some r) :
    Calls Tryd.prog 46 #[.string a0, .int .i64 a1] w fun e w' => e = .returned (.bool r) ∧ Drawn0 w w' := by
  have H : (if (a0.size : Int) > a1 then (some false) else (valiselaw24_short.l0 k a0 0)) = some r := h
  clear h
  by_cases c3 : (a0.size : Int) > a1
  · rw [if_pos c3] at H
    have c3b0 : decide (a1 < (a0.size : Int)) = true := decide_eq_true c3
    clear c3
    obtain rfl := Option.some.inj H
    go_enter Tryd.func46, Tryd.ntmps46
    go_wp2
    go_ret
    exact ⟨by first | rfl | (simp; done) | (simp only [i64_w]; simp [IntKind.wrap, IntKind.signed, IntKind.bits]; done) | (simp [*]; done), by repeat (first | exact Drawn0.refl _ | apply Drawn0.step)⟩
  · rw [if_neg c3] at H
    have c3b0 : decide (a1 < (a0.size : Int)) = false := decide_eq_false c3
    clear c3
    have H' := Aside0.mk H
    clear H
    go_enter Tryd.func46, Tryd.ntmps46
    go_wp2
    go_loopg [5] k (fun kq v5 w' => ∃ (x5_1 : Int), v5 = .int .i64 x5_1 ∧ Aside0 (valiselaw24_short.l0 kq a0 x5_1 = some r) ∧ Aside0 (kq ≤ k) ∧ Drawn0 w w')
    case atStart => exact ⟨(0), (by first | rfl | (simp; done) | (simp [*]; done)), H', ⟨Nat.le_refl _⟩, by repeat (first | exact Drawn0.refl _ | apply Drawn0.step)⟩
    case round =>
      clear H'
      try clear p2
      try clear c3
      try clear c3b0
      obtain ⟨x5_1, rfl, HA, HK1, ⟨m1, rfl⟩⟩ := hrel
      cases gk with
      | zero => exact absurd HA.out (by simp [valiselaw24_short.l0])
      | succ k1 =>
        have H := HA.out
        clear HA
        simp only [valiselaw24_short.l0] at H
        by_cases c4 : x5_1 < (a0.size : Int)
        · rw [if_pos c4] at H
          have c4b0 : decide (x5_1 < (a0.size : Int)) = true := decide_eq_true c4
          clear c4
          by_cases c5 : 0 ≤ x5_1
          · rw [if_pos c5] at H
            have c5b0 : decide (0 ≤ x5_1) = true := decide_eq_true c5
            clear c5
            by_cases c7 : (bt a0 x5_1) = 0
            · rw [if_pos c7] at H
              have c7b0 : ((bt a0 x5_1) == 0) = true := beq_iff_eq.mpr c7
              have c7b1 : ((bt a0 x5_1) != 0) = false := bne_eq_false_iff_eq.mpr c7
              clear c7
              obtain rfl := Option.some.inj H
              have p6 : 0 ≤ (x5_1 : Int) := of_decide_eq_true (by first | (with_reducible assumption) | assumption)
              have q6 : x5_1 < (a0.size : Int) := of_decide_eq_true (by first | (with_reducible assumption) | assumption)
              have hx6 := bt_at a0 x5_1
              replace p6 := eq_true p6
              replace q6 := eq_true q6
              go_wp2
              go_ret
              exact ⟨by first | rfl | (simp; done) | (simp only [i64_w]; simp [IntKind.wrap, IntKind.signed, IntKind.bits]; done) | (simp [*]; done), by repeat (first | exact Drawn0.refl _ | apply Drawn0.step)⟩
            · rw [if_neg c7] at H
              have c7b0 : ((bt a0 x5_1) == 0) = false := beq_eq_false_iff_ne.mpr c7
              have c7b1 : ((bt a0 x5_1) != 0) = true := bne_iff_ne.mpr c7
              have H' := Aside0.mk H
              clear H
              have p6 : 0 ≤ (x5_1 : Int) := of_decide_eq_true (by first | (with_reducible assumption) | assumption)
              have q6 : x5_1 < (a0.size : Int) := of_decide_eq_true (by first | (with_reducible assumption) | assumption)
              have hx6 := bt_at a0 x5_1
              replace p6 := eq_true p6
              replace q6 := eq_true q6
              go_wp2
              go_roundg k1
              case measure => have := HK1.out; omega
              case rel => exact ⟨(wrap64 (x5_1 + 1)), (by first | rfl | (simp; done) | (simp [*]; done)), H', ⟨by have := HK1.out; omega⟩, by repeat (first | exact Drawn0.refl _ | apply Drawn0.step)⟩
          · rw [if_neg c5] at H
            exact absurd H (by simp)
        · rw [if_neg c4] at H
          have c4b0 : decide (x5_1 < (a0.size : Int)) = false := decide_eq_false c4
          clear c4
          obtain rfl := Option.some.inj H
          go_wp2
          go_ret
          exact ⟨by first | rfl | (simp; done) | (simp only [i64_w]; simp [IntKind.wrap, IntKind.signed, IntKind.bits]; done) | (simp [*]; done), by repeat (first | exact Drawn0.refl _ | apply Drawn0.step)⟩
end Go.Proofs.YtlhmbncalonomaaDoor.Q
