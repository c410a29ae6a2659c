/- Own walks: lent (the same bytes, with marked room behind them), still (is what was lent as it was?). -/
import Derived.Test.YtallfhhncibkpaaQ1
namespace Go.Proofs.Ytallfhhncibkpaa.Hand
open Go.RowKit Go.Proofs.Ytallfhhncibkpaa.Q Go.Proofs.YtallfhhncibkpaaW.PrintWords Go.Proofs.YtallfhhncibkpaaW.PrintLast Go.Proofs.YtallfhhncibkpaaW.PrintMore
attribute [local go_sem] max2_int min2_int max_two min_two max_three min_three max_four min_four
set_option linter.unusedVariables false
set_option linter.unusedSimpArgs false

theorem wrap_succ (i n : Nat) (h : i < n) (hn : n ≤ 9223372036854775807) : wrap64 ((i : Int) + 1) = ((i + 1 : Nat) : Int) := by
  unfold wrap64; omega
theorem rd_eq (l : List Int) (i : Nat) (h : i < l.length) : rd l (i : Int) = l[i] := by
  simp [rd, List.getD_eq_getElem?_getD, h]

theorem copied_l0 (l : List Int) (hn : l.length < 140737488355328) : ∀ (d k i : Nat), l.length - i = d → i ≤ l.length → d < k → valiselaw15_copied.l0 k l (l.take i) (i : Int) = some l := by
  intro d
  induction d with
  | zero =>
    intro k i hd hi hk
    obtain ⟨k, rfl⟩ : ∃ m, k = m + 1 := ⟨k - 1, by omega⟩
    obtain rfl : i = l.length := by omega
    simp only [valiselaw15_copied.l0]
    rw [if_neg (by omega), List.take_length]
  | succ d ih =>
    intro k i hd hi hk
    obtain ⟨k, rfl⟩ : ∃ m, k = m + 1 := ⟨k - 1, by omega⟩
    have hlt : i < l.length := by omega
    simp only [valiselaw15_copied.l0]
    rw [if_pos (by omega), if_pos (by omega), if_pos (by simp; omega), wrap_succ i l.length hlt (by omega), rd_eq l i hlt, ← List.take_succ_eq_append_getElem hlt]
    exact ih k (i + 1) (by omega) (by omega) (by omega)
theorem copied_f (l : List Int) (hn : l.length < 140737488355328) : valiselaw15_copied.f (l.length + 1) l = some l :=
  copied_l0 l hn l.length _ 0 (by omega) (by omega) (by omega)

def marks (j : Nat) : List Int := List.replicate j 165
theorem marks_succ (j : Nat) : marks j ++ [165] = marks (j + 1) := by simp [marks, List.replicate_succ']

set_option maxHeartbeats 1000000 in
set_option maxRecDepth 100000 in
theorem lent_calls (A0 : Option Addr) (c0 : Nat) (l0 : List Int) (w : World) (hr0 : Kd.C (Kd.int .u8) w A0 l0.length l0) (hc0 : l0.length ≤ c0) (hn : l0.length ≤ 140737488355000) :
    Calls Try.prog 12 #[.slice A0 l0.length c0] w fun e w' => ∃ A c, e = .returned (.slice A l0.length c) ∧ Kd.R (Kd.int .u8) 5 w' w.heap.size (fun _ => True) (.slice A (l0.length + 8) c) (l0 ++ marks 8) ∧ Below w.heap.size w w' := by
  have HB := Aside0.mk (Below.refl w.heap.size w)
  go_enter Try.func12, Try.ntmps12
  go_wp2_with (go_at_call 17; refine (valiselaw15_copied.calls _ _ _ l0 l0 _ hr0 hc0 (copied_f l0 (by omega))).mono ?_; rintro e w3 ⟨v106, rfl, ho0, hb⟩; have HO := Aside0.mk ho0; have HB3 := Aside0.mk hb; clear ho0 hb)
  go_loopw [3, 4] (fun v3 v4 w' => ∃ j : Nat, j ≤ 8 ∧ v4 = .int .i64 j ∧ Aside0 (Kd.R (Kd.int .u8) 5 w' w.heap.size (fun _ => True) v3 (l0 ++ marks j)) ∧ Aside0 (Below w.heap.size w w')) (fun _ v4 _ => 8 - (intOf v4).toNat)
  case atStart => exact ⟨0, by omega, rfl, ⟨by rw [show l0 ++ marks 0 = l0 from by simp [marks]]; exact HO.out⟩, HB3⟩
  case round =>
    obtain ⟨j, hj, rfl, HR, HB4⟩ := hrel
    by_cases hlt : j < 8
    · have c4b0 : decide ((j : Int) < 8) = true := decide_eq_true (by omega)
      go_wp2_with (first | ((with_reducible refine gate_builtin (b := .append) (xs := #[.tmp 11, .tmp 12]) rfl ?_); at_builtin; refine Kd.R_append (Kd.int .u8) (w0 := w) w.heap.size rfl (.tmp 11) (.tmp 12) 34 5 (.int .u8 0) 1 rfl Try.underlying34 info5 rfl (by decide) (by omega) u3 (l0 ++ marks j) 165 [.int .u8 165] (fun _ => True) (fun _ => False) rfl rfl ?aP (fun _ hk => hk.elim) ?aF ?aO ?aB ?aS ?aL ?_; (case aP => exact rfl); (case aB => exact (by repeat (first | (with_reducible first | exact HB4.out | apply below_alloc | apply pw_below_drewN | apply below_drew1) | exact HB4.out))); (case aF => exact (fun _ _ => trivial)); (case aO => exact (by (with_reducible repeat (first | apply Kd.R_alloc | apply Kd.R_drewN | apply Kd.R_drew)); exact HR.out)); (case aS => exact (below_size (by repeat (first | (with_reducible first | exact HB4.out | apply below_alloc | apply pw_below_drewN | apply below_drew1) | exact HB4.out)))); (case aL => simp [marks]; omega); intro v103 w5 ho hb hg hat; have n0_ := Aside0.mk (hb); have n1_ := Aside0.mk (ho); clear ho hb hg hat))
      go_roundw
      case rel => exact ⟨j + 1, by omega, by go_num, ⟨by rw [← marks_succ, ← List.append_assoc]; exact n1_.out⟩, n0_⟩
      case measure => simp [intOf]; omega
    · obtain rfl : j = 8 := by omega
      obtain ⟨Ao, co, eo, hle⟩ : ∃ A c, u3 = .slice A (l0.length + 8) c ∧ l0.length + 8 ≤ c := by
        obtain ⟨A, c, e, h1, _⟩ := Kd.R_reads HR.out
        rw [show (l0 ++ marks 8).length = l0.length + 8 from by simp [marks]] at e h1
        exact ⟨A, c, e, h1⟩
      subst eo
      obtain ⟨i0, hi0, _, hsz, _⟩ := info_parts info5
      have hcut := cut_to (P := Try.prog) 34 5 .i64 Try.underlying34 hi0 Ao (l0.length + 8) co (l0.length : Int) (by omega) (by omega) (by omega)
      simp only [Int.toNat_natCast] at hcut
      clear hi0 hsz hlt
      go_wp2
      go_ret
      exact ⟨_, _, rfl, HR.out, HB4.out⟩

/-- A cut up to a place beyond the length, within the capacity. -/
theorem cut_room {P : Program} (t e : TypeId) (kh : IntKind) {i : TypeInfo} (ht : P.underlying t = some (.slice e)) (hi : P.info? e = some i) (A : Option Addr) (n c : Nat) (j : Int) (h0 : 0 ≤ j) (hm : j ≤ c) :
    ∀ W : World, (Instr.slice t (.slice A n c) none (some (.int kh j)) none).run P W = .ok (.slice A j.toNat c) W := by
  intro W
  have hel : P.elem t = e := by simp [Program.elem, ht]
  have hu : P.underlying t = some (.slice (P.elem t)) := by rw [hel]; exact ht
  have ha : (A.map fun x => x.add 0) = A := by cases A <;> simp [Addr.add]
  rw [run_slice_h W t A n c hu kh j h0 hm, hel]
  simp [sizeOf, typeInfo, hi, sliced, Result.andThen, ha]

theorem rd_app_left (l m : List Int) (i : Int) (h0 : 0 ≤ i) (h : i < l.length) : rd (l ++ m) i = rd l i := by
  simp [rd, List.getD_eq_getElem?_getD, List.getElem?_append_left (show i.toNat < l.length by omega)]
theorem rd_marks (l : List Int) (i : Int) (h : l.length ≤ i) (h2 : i < (l.length : Int) + 8) : rd (l ++ marks 8) i = 165 := by
  simp only [rd, List.getD_eq_getElem?_getD, List.getElem?_append_right (show l.length ≤ i.toNat by omega), marks, List.getElem?_replicate]
  rw [if_pos (by omega)]
  rfl

set_option maxHeartbeats 1000000 in
set_option maxRecDepth 100000 in
theorem still_calls (A0 : Option Addr) (c0 : Nat) (A1 : Option Addr) (c1 : Nat) (l1 : List Int) (w : World) (hr0 : Kd.C (Kd.int .u8) w A0 (l1.length + 8) (l1 ++ marks 8)) (hc0 : l1.length + 8 ≤ c0) (hr1 : Kd.C (Kd.int .u8) w A1 l1.length l1) (hc1 : l1.length ≤ c1) (hn : l1.length ≤ 140737488355000) :
    Calls Try.prog 16 #[.slice A0 l1.length c0, .slice A1 l1.length c1] w fun e w' => e = .returned (.bool true) ∧ Drawn0 w w' := by
  obtain ⟨n8, hn8⟩ : ∃ n8 : Nat, n8 = l1.length + 8 := ⟨_, rfl⟩
  rw [← hn8] at hr0 hc0
  have HR0 := Aside0.mk hr0
  have HR1 := Aside0.mk hr1
  have HM := Aside0.mk (rd_marks l1)
  have HL := Aside0.mk (rd_app_left l1 (marks 8))
  have HN := Aside0.mk hn8
  have HN8 := Aside0.mk (show n8 ≤ 140737488355008 by omega)
  clear hr0 hr1
  have c3b0 : ((l1.length : Int) == (l1.length : Int)) = true := beq_self_eq_true _
  have c3b1 : ((l1.length : Int) != (l1.length : Int)) = false := bne_self_eq_false _
  have hw : wrap64 ((l1.length : Int) + 8) = (n8 : Int) := by unfold wrap64; omega
  have hw2 : IntKind.i64.wrap ((l1.length : Int) + 8) = (n8 : Int) := (i64_w _).trans hw
  obtain ⟨i0, hi0, _, hsz, _⟩ := info_parts info5
  have hcut := cut_room (P := Try.prog) 34 5 .i64 Try.underlying34 hi0 A0 l1.length c0 (n8 : Int) (by omega) (by omega)
  rw [show (n8 : Int).toNat = n8 from by omega] at hcut
  clear hi0 hsz hn8 hn hc0
  go_enter Try.func16, Try.ntmps16
  go_wp2
  clear hw hw2
  go_loopw [6] (fun v6 w' => ∃ x : Int, 0 ≤ x ∧ x ≤ n8 ∧ v6 = .int .i64 x ∧ Drawn0 w w') (fun v6 _ => n8 - (intOf v6).toNat)
  case atStart => exact ⟨0, by omega, by omega, rfl, Drawn0.refl _⟩
  case round =>
    obtain ⟨x, h0, hj, rfl, ⟨m1, rfl⟩⟩ := hrel
    by_cases hlt : x < n8
    · have c8b0 : decide (x < (n8 : Int)) = true := decide_eq_true hlt
      have hx9 : wrap64 (x + 1) = x + 1 := by have := HN8.out; unfold wrap64; omega
      obtain ⟨ad1, e1, hx1⟩ := Kd.at_int HR0.out x h0 hlt
      cases e1
      by_cases hin : x < l1.length
      · have hL := HL.out x h0 hin
        rw [hL] at hx1
        clear hL
        obtain ⟨ad2, e2, hx2⟩ := Kd.at_int HR1.out x h0 hin
        cases e2
        have d1 : decide (x < (l1.length : Int)) = true := decide_eq_true hin
        have d2 : decide ((l1.length : Int) ≤ x) = false := decide_eq_false (by omega)
        have d3 : ((rd l1 x) != (rd l1 x)) = false := bne_self_eq_false _
        go_wp2
        repeat (go_quiet (fail); try go_wp2)
        go_roundw
        case rel => exact ⟨x + 1, by omega, by omega, by rw [hx9], by repeat (first | exact Drawn0.refl _ | apply Drawn0.step)⟩
        case measure => simp only [hx9, intOf]; omega
      · have hL := HM.out x (by omega) (by have := HN.out; omega)
        rw [hL] at hx1
        clear hL
        have d1 : decide (x < (l1.length : Int)) = false := decide_eq_false hin
        have d2 : decide ((l1.length : Int) ≤ x) = true := decide_eq_true (by omega)
        go_wp2
        repeat (go_quiet (fail); try go_wp2)
        go_roundw
        case rel => exact ⟨x + 1, by omega, by omega, by rw [hx9], by repeat (first | exact Drawn0.refl _ | apply Drawn0.step)⟩
        case measure => simp only [hx9, intOf]; omega
    · have c8b0 : decide (x < (n8 : Int)) = false := decide_eq_false hlt
      go_wp2
      go_ret
      exact ⟨rfl, by repeat (first | exact Drawn0.refl _ | apply Drawn0.step)⟩
end Go.Proofs.Ytallfhhncibkpaa.Hand
