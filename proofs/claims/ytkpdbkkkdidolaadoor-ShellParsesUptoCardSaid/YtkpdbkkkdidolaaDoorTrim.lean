/- Own walk: strings.TrimLeft by a blank: the byte-wise trimming. -/
import Derived.Test.YtkpdbkkkdidolaaDoorQ1
namespace Go.Proofs.YtkpdbkkkdidolaaDoor.Trim
open Go.RowKit Go.Proofs.YtkpdbkkkdidolaaDoor.Q Go.Proofs.YtkpdbkkkdidolaaDoorW.PrintWords Go.Proofs.YtkpdbkkkdidolaaDoorW.PrintLast Go.Proofs.YtkpdbkkkdidolaaDoorW.PrintMore
set_option linter.unusedVariables false
set_option linter.unusedSimpArgs false

theorem empty_of {s : ByteArray} (h : s.toList = ([] : List UInt8)) : s.size = 0 := by
  rw [← ByteArray.size_data, ← Array.length_toList]
  have : s.toList = s.data.toList := by obtain ⟨⟨l⟩⟩ := s; simp
  rw [← this, h]
  rfl

set_option maxHeartbeats 1000000 in
set_option maxRecDepth 100000 in
theorem trim_calls (k : Nat) (s r : ByteArray) (w : World) (h : strings_trimLeftByte.f k s 32 = some r) :
    Calls Tryd.prog 7 #[.string s, .string ⟨#[32]⟩] w fun e w' => e = .returned (.string r) ∧ Drawn0 w w' := by
  by_cases c2 : s.toList = ([] : List UInt8)
  · have c2b0 : (s.toList == ([] : List UInt8)) = true := beq_iff_eq.mpr c2
    have hs := empty_of c2
    obtain rfl : r = s := by
      cases k with
      | zero => simp [strings_trimLeftByte.f, strings_trimLeftByte.l0] at h
      | succ k =>
        simp only [strings_trimLeftByte.f, strings_trimLeftByte.l0] at h
        rw [if_neg (by omega)] at h
        exact (Option.some.inj h).symm
    clear c2 h hs
    go_enter Tryd.func7, Tryd.ntmps7
    go_wp2
    go_ret
    exact ⟨rfl, Drawn0.refl _⟩
  · have c2b0 : (s.toList == ([] : List UInt8)) = false := beq_eq_false_iff_ne.mpr c2
    have H := Aside0.mk h
    clear c2 h
    go_enter Tryd.func7, Tryd.ntmps7
    go_wp2_with (go_at_call 12; refine (strings_trimLeftByte.calls k s 32 r _ H.out).mono ?_; rintro e w' ⟨rfl, ⟨nd, rfl⟩⟩)
    go_ret
    exact ⟨rfl, by repeat (first | exact Drawn0.refl _ | apply Drawn0.step)⟩
end Go.Proofs.YtkpdbkkkdidolaaDoor.Trim
