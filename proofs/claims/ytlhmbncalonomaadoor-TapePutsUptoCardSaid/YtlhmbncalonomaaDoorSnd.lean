/- Own walk: tape.sound. -/
import Derived.Test.YtlhmbncalonomaaDoorHead
import Derived.Test.YtlhmbncalonomaaDoorQ1
import Derived.Test.YtlhmbncalonomaaDoorSx
namespace Go.Proofs.YtlhmbncalonomaaDoor.Snd
open Go.RowKit Go.Proofs.YtlhmbncalonomaaDoor.Q Go.Proofs.YtlhmbncalonomaaDoor.Cpy Go.Proofs.YtlhmbncalonomaaDoor.Hand Go.Proofs.YtlhmbncalonomaaDoor.Arr Go.Proofs.YtlhmbncalonomaaDoor.Sx Go.Proofs.YtlhmbncalonomaaDoor.Head Go.Proofs.YtlhmbncalonomaaDoorW.PrintWords Go.Proofs.YtlhmbncalonomaaDoorW.PrintLast Go.Proofs.YtlhmbncalonomaaDoorW.PrintMore
set_option linter.unusedVariables false
set_option linter.unusedSimpArgs false

def has0 (s : ByteArray) : Bool := decide (0 ≤ Lib.indexByte s.data.toList 0)
theorem contains0 (s : ByteArray) : strings_Contains.f s ⟨#[0]⟩ = some (has0 s) := if_pos (by decide +kernel)
def inM (n : Int) : Bool := decide (0 ≤ n) && decide (n ≤ 2097151)
/-- What sound answers. -/
def sndB (f0 f1 f2 f3 : ByteArray) (f4 f5 f6 f7 f8 : Int) (n9 : Nat) (ok sf : Bool) : Bool :=
  bif ((decide (f4 ≠ 0) && decide (f4 ≠ 2) && decide (f4 ≠ 5)) || has0 (f0 ++ f1 ++ f2 ++ f3)) then false
  else bif (decide (32 ≤ (f2.size : Int)) || decide (32 ≤ (f3.size : Int)) || decide (f8 < 0) || decide (8589934591 < f8)) then false
  else bif !(inM f5 && inM f6 && inM f7) then false
  else bif (!(decide (f4 = 2) == decide (0 < (f1.size : Int))) || decide (100 < (f1.size : Int)) || (decide (f4 ≠ 0) && decide (0 < (n9 : Int)))) then false
  else (ok && (sf == decide (f4 = 5)))
theorem inM_no {f5 f6 f7 : Int} {i : Nat} (hi : i < 3) (h : [f5, f6, f7].getD i 0 < 0 ∨ 2097151 < [f5, f6, f7].getD i 0) : (inM f5 && inM f6 && inM f7) = false := by
  have key : ∀ n : Int, n < 0 ∨ 2097151 < n → inM n = false := fun n h => by unfold inM; simp; omega
  match i, hi with
  | 0, _ => rw [key f5 h]; rfl
  | 1, _ => rw [key f6 h]; simp
  | 2, _ => rw [key f7 h]; simp
theorem inM_yes {n : Int} (h : 0 ≤ n ∧ n ≤ 2097151) : inM n = true := by unfold inM; simp; exact h
theorem en38 : Enters Tryd.prog 38 := fun args w => by kernel_rfl
theorem en40 : Enters Tryd.prog 40 := fun args w => by kernel_rfl


set_option maxRecDepth 100000 in
theorem sound_calls (k : Nat) (f0 f1 f2 f3 : ByteArray) (f4 f5 f6 f7 f8 : Int) (A9 : Option Addr) (n9 c9 : Nat) (p r : ByteArray) (ok sf : Bool) (w : World)
    (hcut : tape_cut.f k f0 = some (p, r, ok)) (hsf : strings_HasSuffix.f f0 ⟨#[47]⟩ = some sf) (hz : f0.size + f1.size + f2.size + f3.size ≤ 1048576) (hn9 : n9 ≤ 1048576) :
    Calls Tryd.prog 21 #[.agg #[.string f0, .string f1, .string f2, .string f3, .int .i64 f4, .int .i64 f5, .int .i64 f6, .int .i64 f7, .int .i64 f8, .slice A9 n9 c9]] w fun e w' => e = .returned (.bool (sndB f0 f1 f2 f3 f4 f5 f6 f7 f8 n9 ok sf)) ∧ Below w.heap.size w w' := by
  have hP := HP.start w
  refine calls_cw Tryd.func21 rfl rfl (by simp) ?_
  refine cw_seq ?_
  -- region 0 tape.go:87
  refine cw_region ?_
  refine ow_box hP rfl rfl rfl ?_
  clear hP; intro b1 W hz hg hP
  refine ow_step (r_assign rfl) rfl ?_
  refine ow_nil ?_
  refine ew_next ?_
  refine cw_seq ?_
  refine cw_seq ?_
  -- region 1 tape.go:88
  refine cw_region ?_
  refine ow_step (r_fieldAddr rfl fl26_4) rfl ?_
  refine ow_step (r_load rfl rfl (hP.cell (i := 0) rfl rfl)) rfl ?_
  refine ow_step (r_ne rfl rfl) rfl ?_
  refine ow_step (r_move rfl) rfl ?_
  apply ow_andP (p := 15) (m := 11) 4 hP rfl
  · intro hg1_3; have hg1_3p := hg1_3; (try simp only [Bool.and_eq_true, Bool.or_eq_true, Bool.and_eq_false_iff, Bool.or_eq_false_iff, Bool.not_eq_true', Bool.not_eq_false', decide_eq_true_eq, decide_eq_false_iff_not, ne_eq, Decidable.not_not, not_true_eq_false, not_false_eq_true] at hg1_3p)
    refine ow_guard rfl rfl rfl (by rw [hg1_3]; rfl) ?_
    refine ow_step (r_fieldAddr rfl fl26_4) rfl ?_
    refine ow_guard rfl rfl rfl (by rw [hg1_3]; rfl) ?_
    refine ow_step (r_load rfl rfl (hP.cell (i := 0) rfl rfl)) rfl ?_
    refine ow_guard rfl rfl rfl (by rw [hg1_3]; rfl) ?_
    refine ow_step (r_ne rfl rfl) rfl ?_
    refine ow_step (r_pickT rfl hg1_3 rfl) rfl ?_
    refine ow_nil (ew_logic rfl (by repeat (first | exact trivial | refine ⟨rfl, ?_⟩)) hP)
  · intro hg1_3
    refine ow_pass rfl rfl rfl (by rw [hg1_3]; rfl) rfl ?_
    refine ow_pass rfl rfl rfl (by rw [hg1_3]; rfl) rfl ?_
    refine ow_pass rfl rfl rfl (by rw [hg1_3]; rfl) rfl ?_
    refine ow_step (r_pickF rfl hg1_3 rfl) rfl ?_
    refine ow_nil (ew_logic rfl (by repeat (first | exact trivial | refine ⟨rfl, ?_⟩)) hP)
  intro W hP
  refine ow_step (r_move rfl) rfl ?_
  apply ow_andP (p := 20) (m := 16) 4 hP rfl
  · intro hg1_8; have hg1_8p := hg1_8; (try simp only [Bool.and_eq_true, Bool.or_eq_true, Bool.and_eq_false_iff, Bool.or_eq_false_iff, Bool.not_eq_true', Bool.not_eq_false', decide_eq_true_eq, decide_eq_false_iff_not, ne_eq, Decidable.not_not, not_true_eq_false, not_false_eq_true] at hg1_8p)
    refine ow_guard rfl rfl rfl (by rw [hg1_8]; rfl) ?_
    refine ow_step (r_fieldAddr rfl fl26_4) rfl ?_
    refine ow_guard rfl rfl rfl (by rw [hg1_8]; rfl) ?_
    refine ow_step (r_load rfl rfl (hP.cell (i := 0) rfl rfl)) rfl ?_
    refine ow_guard rfl rfl rfl (by rw [hg1_8]; rfl) ?_
    refine ow_step (r_ne rfl rfl) rfl ?_
    refine ow_step (r_pickT rfl hg1_8 rfl) rfl ?_
    refine ow_nil (ew_logic rfl (by repeat (first | exact trivial | refine ⟨rfl, ?_⟩)) hP)
  · intro hg1_8
    refine ow_pass rfl rfl rfl (by rw [hg1_8]; rfl) rfl ?_
    refine ow_pass rfl rfl rfl (by rw [hg1_8]; rfl) rfl ?_
    refine ow_pass rfl rfl rfl (by rw [hg1_8]; rfl) rfl ?_
    refine ow_step (r_pickF rfl hg1_8 rfl) rfl ?_
    refine ow_nil (ew_logic rfl (by repeat (first | exact trivial | refine ⟨rfl, ?_⟩)) hP)
  intro W hP
  refine ow_step (r_move rfl) rfl ?_
  apply ow_orP (p := 34) (m := 21) 13 hP rfl
  · intro hg1_13; have hg1_13p := hg1_13; (try simp only [Bool.and_eq_true, Bool.or_eq_true, Bool.and_eq_false_iff, Bool.or_eq_false_iff, Bool.not_eq_true', Bool.not_eq_false', decide_eq_true_eq, decide_eq_false_iff_not, ne_eq, Decidable.not_not, not_true_eq_false, not_false_eq_true] at hg1_13p)
    refine ow_guard rfl rfl rfl (by rw [hg1_13]; rfl) ?_
    refine ow_step (r_fieldAddr rfl fl26_0) rfl ?_
    refine ow_guard rfl rfl rfl (by rw [hg1_13]; rfl) ?_
    refine ow_step (r_load rfl rfl (hP.cell (i := 0) rfl rfl)) rfl ?_
    refine ow_guard rfl rfl rfl (by rw [hg1_13]; rfl) ?_
    refine ow_step (r_fieldAddr rfl fl26_1) rfl ?_
    refine ow_guard rfl rfl rfl (by rw [hg1_13]; rfl) ?_
    refine ow_step (r_load rfl rfl (hP.cell (i := 0) rfl rfl)) rfl ?_
    refine ow_guard rfl rfl rfl (by rw [hg1_13]; rfl) ?_
    refine ow_step (r_sadd rfl rfl (by (try simp only [ByteArray.size_append]); omega)) rfl ?_
    refine ow_guard rfl rfl rfl (by rw [hg1_13]; rfl) ?_
    refine ow_step (r_fieldAddr rfl fl26_2) rfl ?_
    refine ow_guard rfl rfl rfl (by rw [hg1_13]; rfl) ?_
    refine ow_step (r_load rfl rfl (hP.cell (i := 0) rfl rfl)) rfl ?_
    refine ow_guard rfl rfl rfl (by rw [hg1_13]; rfl) ?_
    refine ow_step (r_sadd rfl rfl (by (try simp only [ByteArray.size_append]); omega)) rfl ?_
    refine ow_guard rfl rfl rfl (by rw [hg1_13]; rfl) ?_
    refine ow_step (r_fieldAddr rfl fl26_3) rfl ?_
    refine ow_guard rfl rfl rfl (by rw [hg1_13]; rfl) ?_
    refine ow_step (r_load rfl rfl (hP.cell (i := 0) rfl rfl)) rfl ?_
    refine ow_guard rfl rfl rfl (by rw [hg1_13]; rfl) ?_
    refine ow_step (r_sadd rfl rfl (by (try simp only [ByteArray.size_append]); omega)) rfl ?_
    refine ow_guard rfl rfl rfl (by rw [hg1_13]; rfl) ?_
    refine ow_call en38 rfl (strings_Contains.calls _ _ _ _ (contains0 _)) rfl ?_
    rintro e W ⟨rfl, ⟨m_, rfl⟩⟩; replace hP := hP.drewN m_; refine ⟨_, rfl, ?_⟩
    refine ow_step (r_pickF rfl hg1_13 rfl) rfl ?_
    refine ow_nil (ew_logic rfl (by repeat (first | exact trivial | refine ⟨rfl, ?_⟩)) hP)
  · intro hg1_13
    refine ow_pass rfl rfl rfl (by rw [hg1_13]; rfl) rfl ?_
    refine ow_pass rfl rfl rfl (by rw [hg1_13]; rfl) rfl ?_
    refine ow_pass rfl rfl rfl (by rw [hg1_13]; rfl) rfl ?_
    refine ow_pass rfl rfl rfl (by rw [hg1_13]; rfl) rfl ?_
    refine ow_pass rfl rfl rfl (by rw [hg1_13]; rfl) rfl ?_
    refine ow_pass rfl rfl rfl (by rw [hg1_13]; rfl) rfl ?_
    refine ow_pass rfl rfl rfl (by rw [hg1_13]; rfl) rfl ?_
    refine ow_pass rfl rfl rfl (by rw [hg1_13]; rfl) rfl ?_
    refine ow_pass rfl rfl rfl (by rw [hg1_13]; rfl) rfl ?_
    refine ow_pass rfl rfl rfl (by rw [hg1_13]; rfl) rfl ?_
    refine ow_pass rfl rfl rfl (by rw [hg1_13]; rfl) rfl ?_
    refine ow_pass rfl rfl rfl (by rw [hg1_13]; rfl) rfl ?_
    refine ow_step (r_pickT rfl hg1_13 rfl) rfl ?_
    refine ow_nil (ew_logic rfl (by repeat (first | exact trivial | refine ⟨rfl, ?_⟩)) hP)
  intro W hP
  refine ow_nil ?_
  refine ew_next ?_
  refine cw_cond rfl (fun hb0 => ?_) (fun hb0 => ?_)
  · -- cond 0 yes
    have hc0 := hb0; (try simp only [Bool.and_eq_true, Bool.or_eq_true, Bool.and_eq_false_iff, Bool.or_eq_false_iff, Bool.not_eq_true', Bool.not_eq_false', decide_eq_true_eq, decide_eq_false_iff_not, ne_eq, Decidable.not_not, not_true_eq_false, not_false_eq_true] at hc0)
    refine cw_seq ?_
    -- region 2 tape.go:89
    refine cw_region ?_
    refine ow_step (r_assign rfl) rfl ?_
    refine ow_nil ?_
    refine ew_next ?_
    refine cw_ret ?_
    refine ew_then_ret ?_
    refine ew_ret1 rfl (.tmp rfl .nil) ⟨?_, hP.old⟩
    simp only [sndB, hb0, cond_true]
  · -- cond 0 no
    have hc0 := hb0; (try simp only [Bool.and_eq_true, Bool.or_eq_true, Bool.and_eq_false_iff, Bool.or_eq_false_iff, Bool.not_eq_true', Bool.not_eq_false', decide_eq_true_eq, decide_eq_false_iff_not, ne_eq, Decidable.not_not, not_true_eq_false, not_false_eq_true] at hc0)
    refine cw_skip ?_
    refine ew_next ?_
    refine cw_seq ?_
    refine cw_seq ?_
    -- region 3 tape.go:91
    refine cw_region ?_
    refine ow_step (r_fieldAddr rfl fl26_2) rfl ?_
    refine ow_step (r_load rfl rfl (hP.cell (i := 0) rfl rfl)) rfl ?_
    refine ow_step (r_slen rfl rfl rfl) rfl ?_
    refine ow_step (r_ge rfl rfl) rfl ?_
    refine ow_step (r_move rfl) rfl ?_
    apply ow_orP (p := 44) (m := 39) 5 hP rfl
    · intro hg3_4; have hg3_4p := hg3_4; (try simp only [Bool.and_eq_true, Bool.or_eq_true, Bool.and_eq_false_iff, Bool.or_eq_false_iff, Bool.not_eq_true', Bool.not_eq_false', decide_eq_true_eq, decide_eq_false_iff_not, ne_eq, Decidable.not_not, not_true_eq_false, not_false_eq_true] at hg3_4p)
      refine ow_guard rfl rfl rfl (by rw [hg3_4]; rfl) ?_
      refine ow_step (r_fieldAddr rfl fl26_3) rfl ?_
      refine ow_guard rfl rfl rfl (by rw [hg3_4]; rfl) ?_
      refine ow_step (r_load rfl rfl (hP.cell (i := 0) rfl rfl)) rfl ?_
      refine ow_guard rfl rfl rfl (by rw [hg3_4]; rfl) ?_
      refine ow_step (r_slen rfl rfl rfl) rfl ?_
      refine ow_guard rfl rfl rfl (by rw [hg3_4]; rfl) ?_
      refine ow_step (r_ge rfl rfl) rfl ?_
      refine ow_step (r_pickF rfl hg3_4 rfl) rfl ?_
      refine ow_nil (ew_logic rfl (by repeat (first | exact trivial | refine ⟨rfl, ?_⟩)) hP)
    · intro hg3_4
      refine ow_pass rfl rfl rfl (by rw [hg3_4]; rfl) rfl ?_
      refine ow_pass rfl rfl rfl (by rw [hg3_4]; rfl) rfl ?_
      refine ow_pass rfl rfl rfl (by rw [hg3_4]; rfl) rfl ?_
      refine ow_pass rfl rfl rfl (by rw [hg3_4]; rfl) rfl ?_
      refine ow_step (r_pickT rfl hg3_4 rfl) rfl ?_
      refine ow_nil (ew_logic rfl (by repeat (first | exact trivial | refine ⟨rfl, ?_⟩)) hP)
    intro W hP
    refine ow_step (r_move rfl) rfl ?_
    apply ow_orP (p := 49) (m := 45) 4 hP rfl
    · intro hg3_10; have hg3_10p := hg3_10; (try simp only [Bool.and_eq_true, Bool.or_eq_true, Bool.and_eq_false_iff, Bool.or_eq_false_iff, Bool.not_eq_true', Bool.not_eq_false', decide_eq_true_eq, decide_eq_false_iff_not, ne_eq, Decidable.not_not, not_true_eq_false, not_false_eq_true] at hg3_10p)
      refine ow_guard rfl rfl rfl (by rw [hg3_10]; rfl) ?_
      refine ow_step (r_fieldAddr rfl fl26_8) rfl ?_
      refine ow_guard rfl rfl rfl (by rw [hg3_10]; rfl) ?_
      refine ow_step (r_load rfl rfl (hP.cell (i := 0) rfl rfl)) rfl ?_
      refine ow_guard rfl rfl rfl (by rw [hg3_10]; rfl) ?_
      refine ow_step (r_lt rfl rfl) rfl ?_
      refine ow_step (r_pickF rfl hg3_10 rfl) rfl ?_
      refine ow_nil (ew_logic rfl (by repeat (first | exact trivial | refine ⟨rfl, ?_⟩)) hP)
    · intro hg3_10
      refine ow_pass rfl rfl rfl (by rw [hg3_10]; rfl) rfl ?_
      refine ow_pass rfl rfl rfl (by rw [hg3_10]; rfl) rfl ?_
      refine ow_pass rfl rfl rfl (by rw [hg3_10]; rfl) rfl ?_
      refine ow_step (r_pickT rfl hg3_10 rfl) rfl ?_
      refine ow_nil (ew_logic rfl (by repeat (first | exact trivial | refine ⟨rfl, ?_⟩)) hP)
    intro W hP
    refine ow_step (r_move rfl) rfl ?_
    apply ow_orP (p := 54) (m := 50) 4 hP rfl
    · intro hg3_15; have hg3_15p := hg3_15; (try simp only [Bool.and_eq_true, Bool.or_eq_true, Bool.and_eq_false_iff, Bool.or_eq_false_iff, Bool.not_eq_true', Bool.not_eq_false', decide_eq_true_eq, decide_eq_false_iff_not, ne_eq, Decidable.not_not, not_true_eq_false, not_false_eq_true] at hg3_15p)
      refine ow_guard rfl rfl rfl (by rw [hg3_15]; rfl) ?_
      refine ow_step (r_fieldAddr rfl fl26_8) rfl ?_
      refine ow_guard rfl rfl rfl (by rw [hg3_15]; rfl) ?_
      refine ow_step (r_load rfl rfl (hP.cell (i := 0) rfl rfl)) rfl ?_
      refine ow_guard rfl rfl rfl (by rw [hg3_15]; rfl) ?_
      refine ow_step (r_gt rfl rfl) rfl ?_
      refine ow_step (r_pickF rfl hg3_15 rfl) rfl ?_
      refine ow_nil (ew_logic rfl (by repeat (first | exact trivial | refine ⟨rfl, ?_⟩)) hP)
    · intro hg3_15
      refine ow_pass rfl rfl rfl (by rw [hg3_15]; rfl) rfl ?_
      refine ow_pass rfl rfl rfl (by rw [hg3_15]; rfl) rfl ?_
      refine ow_pass rfl rfl rfl (by rw [hg3_15]; rfl) rfl ?_
      refine ow_step (r_pickT rfl hg3_15 rfl) rfl ?_
      refine ow_nil (ew_logic rfl (by repeat (first | exact trivial | refine ⟨rfl, ?_⟩)) hP)
    intro W hP
    refine ow_nil ?_
    refine ew_next ?_
    refine cw_cond rfl (fun hb1 => ?_) (fun hb1 => ?_)
    · -- cond 1 yes
      have hc1 := hb1; (try simp only [Bool.and_eq_true, Bool.or_eq_true, Bool.and_eq_false_iff, Bool.or_eq_false_iff, Bool.not_eq_true', Bool.not_eq_false', decide_eq_true_eq, decide_eq_false_iff_not, ne_eq, Decidable.not_not, not_true_eq_false, not_false_eq_true] at hc1)
      refine cw_seq ?_
      -- region 4 tape.go:92
      refine cw_region ?_
      refine ow_step (r_assign rfl) rfl ?_
      refine ow_nil ?_
      refine ew_next ?_
      refine cw_ret ?_
      refine ew_then_ret ?_
      refine ew_ret1 rfl (.tmp rfl .nil) ⟨?_, hP.old⟩
      simp only [sndB, hb0, hb1, cond_true, cond_false]
    · -- cond 1 no
      have hc1 := hb1; (try simp only [Bool.and_eq_true, Bool.or_eq_true, Bool.and_eq_false_iff, Bool.or_eq_false_iff, Bool.not_eq_true', Bool.not_eq_false', decide_eq_true_eq, decide_eq_false_iff_not, ne_eq, Decidable.not_not, not_true_eq_false, not_false_eq_true] at hc1)
      refine cw_skip ?_
      refine ew_next ?_
      refine cw_seq ?_
      refine cw_seq ?_
      -- region 5 tape.go:94
      refine cw_region ?_
      refine ow_step (r_fieldAddr rfl fl26_5) rfl ?_
      refine ow_step (r_load rfl rfl (hP.cell (i := 0) rfl rfl)) rfl ?_
      refine ow_step (r_fieldAddr rfl fl26_6) rfl ?_
      refine ow_step (r_load rfl rfl (hP.cell (i := 0) rfl rfl)) rfl ?_
      refine ow_step (r_fieldAddr rfl fl26_7) rfl ?_
      refine ow_step (r_load rfl rfl (hP.cell (i := 0) rfl rfl)) rfl ?_
      refine ow_step (r_build (v := .agg (i64s [f5, f6, f7]).toArray) rfl (fun w => by kernel_rfl)) rfl ?_
      refine ow_step (r_move rfl) rfl ?_
      refine ow_nil ?_
      refine ew_next ?_
      refine cw_block ?_
      refine cw_loop (fun i => 3 - i) (fun i => [(62, .int .i64 ((i : Nat) : Int)), (61, .agg (i64s [f5, f6, f7]).toArray), (1, .pointer (some ⟨b1, 0, none⟩))]) (fun i w' => i ≤ 3 ∧ (∀ j, j < i → 0 ≤ [f5, f6, f7].getD j 0 ∧ [f5, f6, f7].getD j 0 ≤ 2097151) ∧ HP w w' [(b1, (#[.string f0, .string f1, .string f2, .string f3, .int .i64 f4, .int .i64 f5, .int .i64 f6, .int .i64 f7, .int .i64 f8, .slice A9 n9 c9] : Array Value).toList, 26)]) 0 ⟨rfl, rfl, rfl, trivial⟩ ⟨by omega, fun j hj => absurd hj (by omega), hP⟩ ?_
      clear hP; rintro i W ⟨hi, hall, hP⟩
      · -- round 0
        refine cw_seq ?_
        -- region 6 tape.go:94
        refine cw_region ?_
        refine ow_step (r_lt rfl rfl) rfl ?_
        refine ow_nil ?_
        refine ew_next ?_
        refine cw_seq ?_
        refine cw_cond rfl (fun hb2 => ?_) (fun hb2 => ?_)
        · -- cond 2 yes
          have hc2 := hb2; (try simp only [Bool.and_eq_true, Bool.or_eq_true, Bool.and_eq_false_iff, Bool.or_eq_false_iff, Bool.not_eq_true', Bool.not_eq_false', decide_eq_true_eq, decide_eq_false_iff_not, ne_eq, Decidable.not_not, not_true_eq_false, not_false_eq_true] at hc2)
          have hi3 : i < 3 := by omega
          refine cw_skip ?_
          refine ew_next ?_
          refine cw_seq ?_
          refine cw_block ?_
          refine cw_seq ?_
          -- region 7 tape.go:94
          refine cw_region ?_
          refine ow_step (r_indexVal rfl rfl Tryd.underlying70 rfl size3 ⟨by omega, by omega⟩ (i64s_at _ i hi3)) rfl ?_
          refine ow_step (r_assign rfl) rfl ?_
          refine ow_nil ?_
          refine ew_next ?_
          refine cw_seq ?_
          -- region 8 tape.go:95
          refine cw_region ?_
          refine ow_step (r_move rfl) rfl ?_
          refine ow_step (r_lt rfl rfl) rfl ?_
          refine ow_step (r_move rfl) rfl ?_
          apply ow_orP (p := 70) (m := 67) 3 hP rfl
          · intro hg8_2; have hg8_2p := hg8_2; (try simp only [Bool.and_eq_true, Bool.or_eq_true, Bool.and_eq_false_iff, Bool.or_eq_false_iff, Bool.not_eq_true', Bool.not_eq_false', decide_eq_true_eq, decide_eq_false_iff_not, ne_eq, Decidable.not_not, not_true_eq_false, not_false_eq_true] at hg8_2p)
            refine ow_guard rfl rfl rfl (by rw [hg8_2]; rfl) ?_
            refine ow_step (r_move rfl) rfl ?_
            refine ow_guard rfl rfl rfl (by rw [hg8_2]; rfl) ?_
            refine ow_step (r_gt rfl rfl) rfl ?_
            refine ow_step (r_pickF rfl hg8_2 rfl) rfl ?_
            refine ow_nil (ew_logic rfl (by repeat (first | exact trivial | refine ⟨rfl, ?_⟩)) hP)
          · intro hg8_2
            refine ow_pass rfl rfl rfl (by rw [hg8_2]; rfl) rfl ?_
            refine ow_pass rfl rfl rfl (by rw [hg8_2]; rfl) rfl ?_
            refine ow_step (r_pickT rfl hg8_2 rfl) rfl ?_
            refine ow_nil (ew_logic rfl (by repeat (first | exact trivial | refine ⟨rfl, ?_⟩)) hP)
          intro W hP
          refine ow_nil ?_
          refine ew_next ?_
          refine cw_cond rfl (fun hb3 => ?_) (fun hb3 => ?_)
          · -- cond 3 yes
            have hc3 := hb3; (try simp only [Bool.and_eq_true, Bool.or_eq_true, Bool.and_eq_false_iff, Bool.or_eq_false_iff, Bool.not_eq_true', Bool.not_eq_false', decide_eq_true_eq, decide_eq_false_iff_not, ne_eq, Decidable.not_not, not_true_eq_false, not_false_eq_true] at hc3)
            refine cw_seq ?_
            -- region 9 tape.go:96
            refine cw_region ?_
            refine ow_step (r_assign rfl) rfl ?_
            refine ow_nil ?_
            refine ew_next ?_
            refine cw_ret ?_
            refine ew_block_ret ?_
            refine ew_then_ret ?_
            refine ew_then_ret ?_
            refine ew_block_ret ?_
            refine ew_then_ret ?_
            refine ew_ret1 rfl (.tmp rfl .nil) ⟨?_, hP.old⟩
            simp only [sndB, hb0, hb1, inM_no hi3 hc3, Bool.not_false, cond_true, cond_false]
          · -- cond 3 no
            have hc3 := hb3; (try simp only [Bool.and_eq_true, Bool.or_eq_true, Bool.and_eq_false_iff, Bool.or_eq_false_iff, Bool.not_eq_true', Bool.not_eq_false', decide_eq_true_eq, decide_eq_false_iff_not, ne_eq, Decidable.not_not, not_true_eq_false, not_false_eq_true] at hc3)
            refine cw_skip ?_
            refine ew_block ?_
            refine ew_next ?_
            -- region 10 tape.go:94
            refine cw_region ?_
            refine ow_step (i_add rfl rfl (by omega)) rfl ?_
            refine ow_step (r_move rfl) rfl ?_
            refine ow_nil ?_
            refine ew_round (i + 1) ⟨rfl, rfl, rfl, trivial⟩ ⟨by omega, fun j hj => ?_, hP⟩ (by omega)
            rcases Nat.lt_or_ge j i with h | h
            · exact hall j h
            · obtain rfl : j = i := by omega
              omega
        · -- cond 2 no
          have hc2 := hb2; (try simp only [Bool.and_eq_true, Bool.or_eq_true, Bool.and_eq_false_iff, Bool.or_eq_false_iff, Bool.not_eq_true', Bool.not_eq_false', decide_eq_true_eq, decide_eq_false_iff_not, ne_eq, Decidable.not_not, not_true_eq_false, not_false_eq_true] at hc2)
          obtain rfl : i = 3 := by omega
          have g5 := hall 0 (by omega); have g6 := hall 1 (by omega); have g7 := hall 2 (by omega); simp at g5 g6 g7; clear hall
          refine cw_exit ?_
          refine ew_then_exit ?_
          refine ew_then_exit ?_
          refine ew_block_hit ?_
          refine ew_next ?_
          refine cw_seq ?_
          refine cw_seq ?_
          -- region 11 tape.go:99
          refine cw_region ?_
          refine ow_step (r_fieldAddr rfl fl26_4) rfl ?_
          refine ow_step (r_load rfl rfl (hP.cell (i := 0) rfl rfl)) rfl ?_
          refine ow_step (r_eq rfl rfl) rfl ?_
          refine ow_step (r_fieldAddr rfl fl26_1) rfl ?_
          refine ow_step (r_load rfl rfl (hP.cell (i := 0) rfl rfl)) rfl ?_
          refine ow_step (r_slen rfl rfl rfl) rfl ?_
          refine ow_step (r_gt rfl rfl) rfl ?_
          refine ow_step (r_bne rfl rfl rfl) rfl ?_
          refine ow_step (r_move rfl) rfl ?_
          apply ow_orP (p := 85) (m := 80) 5 hP rfl
          · intro hg11_8; have hg11_8p := hg11_8; (try simp only [Bool.and_eq_true, Bool.or_eq_true, Bool.and_eq_false_iff, Bool.or_eq_false_iff, Bool.not_eq_true', Bool.not_eq_false', decide_eq_true_eq, decide_eq_false_iff_not, ne_eq, Decidable.not_not, not_true_eq_false, not_false_eq_true] at hg11_8p)
            refine ow_guard rfl rfl rfl (by rw [hg11_8]; rfl) ?_
            refine ow_step (r_fieldAddr rfl fl26_1) rfl ?_
            refine ow_guard rfl rfl rfl (by rw [hg11_8]; rfl) ?_
            refine ow_step (r_load rfl rfl (hP.cell (i := 0) rfl rfl)) rfl ?_
            refine ow_guard rfl rfl rfl (by rw [hg11_8]; rfl) ?_
            refine ow_step (r_slen rfl rfl rfl) rfl ?_
            refine ow_guard rfl rfl rfl (by rw [hg11_8]; rfl) ?_
            refine ow_step (r_gt rfl rfl) rfl ?_
            refine ow_step (r_pickF rfl hg11_8 rfl) rfl ?_
            refine ow_nil (ew_logic rfl (by repeat (first | exact trivial | refine ⟨rfl, ?_⟩)) hP)
          · intro hg11_8
            refine ow_pass rfl rfl rfl (by rw [hg11_8]; rfl) rfl ?_
            refine ow_pass rfl rfl rfl (by rw [hg11_8]; rfl) rfl ?_
            refine ow_pass rfl rfl rfl (by rw [hg11_8]; rfl) rfl ?_
            refine ow_pass rfl rfl rfl (by rw [hg11_8]; rfl) rfl ?_
            refine ow_step (r_pickT rfl hg11_8 rfl) rfl ?_
            refine ow_nil (ew_logic rfl (by repeat (first | exact trivial | refine ⟨rfl, ?_⟩)) hP)
          intro W hP
          refine ow_step (r_move rfl) rfl ?_
          apply ow_orP (p := 96) (m := 86) 10 hP rfl
          · intro hg11_14; have hg11_14p := hg11_14; (try simp only [Bool.and_eq_true, Bool.or_eq_true, Bool.and_eq_false_iff, Bool.or_eq_false_iff, Bool.not_eq_true', Bool.not_eq_false', decide_eq_true_eq, decide_eq_false_iff_not, ne_eq, Decidable.not_not, not_true_eq_false, not_false_eq_true] at hg11_14p)
            refine ow_guard rfl rfl rfl (by rw [hg11_14]; rfl) ?_
            refine ow_step (r_fieldAddr rfl fl26_4) rfl ?_
            refine ow_guard rfl rfl rfl (by rw [hg11_14]; rfl) ?_
            refine ow_step (r_load rfl rfl (hP.cell (i := 0) rfl rfl)) rfl ?_
            refine ow_guard rfl rfl rfl (by rw [hg11_14]; rfl) ?_
            refine ow_step (r_ne rfl rfl) rfl ?_
            refine ow_guard rfl rfl rfl (by rw [hg11_14]; rfl) ?_
            refine ow_step (r_move rfl) rfl ?_
            apply ow_andP (p := 95) (m := 90) 5 hP rfl
            · intro hg11_18; have hg11_18p := hg11_18; (try simp only [Bool.and_eq_true, Bool.or_eq_true, Bool.and_eq_false_iff, Bool.or_eq_false_iff, Bool.not_eq_true', Bool.not_eq_false', decide_eq_true_eq, decide_eq_false_iff_not, ne_eq, Decidable.not_not, not_true_eq_false, not_false_eq_true] at hg11_18p)
              refine ow_guard rfl rfl rfl (by rw [hg11_18]; rfl) ?_
              refine ow_step (r_fieldAddr rfl fl26_9) rfl ?_
              refine ow_guard rfl rfl rfl (by rw [hg11_18]; rfl) ?_
              refine ow_step (r_load rfl rfl (hP.cell (i := 0) rfl rfl)) rfl ?_
              refine ow_guard rfl rfl rfl (by rw [hg11_18]; rfl) ?_
              refine ow_step (r_len rfl (by rfl) rfl) rfl ?_
              refine ow_guard rfl rfl rfl (by rw [hg11_18]; rfl) ?_
              refine ow_step (r_gt rfl rfl) rfl ?_
              refine ow_guard rfl rfl rfl (by rw [hg11_14]; rfl) ?_
              refine ow_step (r_pickT rfl hg11_18 rfl) rfl ?_
              refine ow_nil (ew_logic rfl (by repeat (first | exact trivial | refine ⟨rfl, ?_⟩)) hP)
            · intro hg11_18
              refine ow_pass rfl rfl rfl (by rw [hg11_18]; rfl) rfl ?_
              refine ow_pass rfl rfl rfl (by rw [hg11_18]; rfl) rfl ?_
              refine ow_pass rfl rfl rfl (by rw [hg11_18]; rfl) rfl ?_
              refine ow_pass rfl rfl rfl (by rw [hg11_18]; rfl) rfl ?_
              refine ow_guard rfl rfl rfl (by rw [hg11_14]; rfl) ?_
              refine ow_step (r_pickF rfl hg11_18 rfl) rfl ?_
              refine ow_nil (ew_logic rfl (by repeat (first | exact trivial | refine ⟨rfl, ?_⟩)) hP)
            intro W hP
            refine ow_step (r_pickF rfl hg11_14 rfl) rfl ?_
            refine ow_nil (ew_logic rfl (by repeat (first | exact trivial | refine ⟨rfl, ?_⟩)) hP)
          · intro hg11_14
            refine ow_pass rfl rfl rfl (by rw [hg11_14]; rfl) rfl ?_
            refine ow_pass rfl rfl rfl (by rw [hg11_14]; rfl) rfl ?_
            refine ow_pass rfl rfl rfl (by rw [hg11_14]; rfl) rfl ?_
            refine ow_pass rfl rfl rfl (by rw [hg11_14]; rfl) rfl ?_
            refine ow_passU rfl rfl rfl rfl ?_
            refine ow_passU rfl rfl rfl rfl ?_
            refine ow_passU rfl rfl rfl rfl ?_
            refine ow_passU rfl rfl rfl rfl ?_
            refine ow_pass rfl rfl rfl (by rw [hg11_14]; rfl) rfl ?_
            refine ow_step (r_pickT rfl hg11_14 rfl) rfl ?_
            refine ow_nil (ew_logic rfl (by repeat (first | exact trivial | refine ⟨rfl, ?_⟩)) hP)
          intro W hP
          refine ow_nil ?_
          refine ew_next ?_
          refine cw_cond rfl (fun hb4 => ?_) (fun hb4 => ?_)
          · -- cond 4 yes
            have hc4 := hb4; (try simp only [Bool.and_eq_true, Bool.or_eq_true, Bool.and_eq_false_iff, Bool.or_eq_false_iff, Bool.not_eq_true', Bool.not_eq_false', decide_eq_true_eq, decide_eq_false_iff_not, ne_eq, Decidable.not_not, not_true_eq_false, not_false_eq_true] at hc4)
            refine cw_seq ?_
            -- region 12 tape.go:100
            refine cw_region ?_
            refine ow_step (r_assign rfl) rfl ?_
            refine ow_nil ?_
            refine ew_next ?_
            refine cw_ret ?_
            refine ew_then_ret ?_
            refine ew_ret1 rfl (.tmp rfl .nil) ⟨?_, hP.old⟩
            simp only [sndB, hb0, hb1, inM_yes g5, inM_yes g6, inM_yes g7, Bool.and_true, Bool.not_true, hb4, cond_true, cond_false]
          · -- cond 4 no
            have hc4 := hb4; (try simp only [Bool.and_eq_true, Bool.or_eq_true, Bool.and_eq_false_iff, Bool.or_eq_false_iff, Bool.not_eq_true', Bool.not_eq_false', decide_eq_true_eq, decide_eq_false_iff_not, ne_eq, Decidable.not_not, not_true_eq_false, not_false_eq_true] at hc4)
            refine cw_skip ?_
            refine ew_next ?_
            refine cw_seq ?_
            -- region 13 tape.go:102
            refine cw_region ?_
            refine ow_step (r_fieldAddr rfl fl26_0) rfl ?_
            refine ow_step (r_load rfl rfl (hP.cell (i := 0) rfl rfl)) rfl ?_
            refine ow_call en39 rfl (tape_cut.calls k f0 p r ok _ hcut) rfl ?_
            rintro e W ⟨rfl, ⟨m_, rfl⟩⟩; replace hP := hP.drewN m_; refine ⟨_, rfl, ?_⟩
            refine ow_step (r_move rfl) rfl ?_
            refine ow_step (r_extract rfl rfl) rfl ?_
            refine ow_step (r_extract rfl rfl) rfl ?_
            refine ow_step (r_extract rfl rfl) rfl ?_
            refine ow_step (r_assign rfl) rfl ?_
            refine ow_step (r_assign rfl) rfl ?_
            refine ow_step (r_assign rfl) rfl ?_
            refine ow_nil ?_
            refine ew_next ?_
            refine cw_seq ?_
            -- region 14 DRAWS tape.go:103
            refine cw_quietP hP (by kernel_rfl) (by kernel_rfl) ?_
            refine qw_step (fun w hw => r_move rfl) rfl ?_
            refine qw_step (fun w hw => r_move rfl) rfl ?_
            apply qw_and (p := 113) (m := 105) 8 rfl
            · intro hg14_1; have hg14_1p := hg14_1; (try simp only [Bool.and_eq_true, Bool.or_eq_true, Bool.and_eq_false_iff, Bool.or_eq_false_iff, Bool.not_eq_true', Bool.not_eq_false', decide_eq_true_eq, decide_eq_false_iff_not, ne_eq, Decidable.not_not, not_true_eq_false, not_false_eq_true] at hg14_1p)
              refine qw_guard rfl rfl rfl (by rw [hg14_1]; rfl) ?_
              refine qw_step (fun w hw => r_fieldAddr rfl fl26_0) rfl ?_
              refine qw_guard rfl rfl rfl (by rw [hg14_1]; rfl) ?_
              refine qw_step (fun w hw => r_load rfl rfl (hw.cell (i := 0) rfl rfl)) rfl ?_
              refine qw_guard rfl rfl rfl (by rw [hg14_1]; rfl) ?_
              refine qw_call en40 rfl (fun w hw => (strings_HasSuffix.calls f0 ⟨#[47]⟩ sf _ hsf).mono (fun e w' ⟨he, m_, hm_⟩ => ⟨he, hm_ ▸ hw.drewN m_⟩)) rfl ?_
              refine qw_guard rfl rfl rfl (by rw [hg14_1]; rfl) ?_
              refine qw_step (fun w hw => r_fieldAddr rfl fl26_4) rfl ?_
              refine qw_guard rfl rfl rfl (by rw [hg14_1]; rfl) ?_
              refine qw_step (fun w hw => r_load rfl rfl (hw.cell (i := 0) rfl rfl)) rfl ?_
              refine qw_guard rfl rfl rfl (by rw [hg14_1]; rfl) ?_
              refine qw_step (fun w hw => r_eq rfl rfl) rfl ?_
              refine qw_guard rfl rfl rfl (by rw [hg14_1]; rfl) ?_
              refine qw_step (fun w hw => r_beq rfl rfl rfl) rfl ?_
              refine qw_step (fun w hw => r_pickT rfl hg14_1 rfl) rfl ?_
              exact qw_end rfl (by repeat (first | exact trivial | refine ⟨rfl, ?_⟩))
            · intro hg14_1
              refine qw_pass rfl rfl rfl (by rw [hg14_1]; rfl) rfl ?_
              refine qw_pass rfl rfl rfl (by rw [hg14_1]; rfl) rfl ?_
              refine qw_pass rfl rfl rfl (by rw [hg14_1]; rfl) rfl ?_
              refine qw_pass rfl rfl rfl (by rw [hg14_1]; rfl) rfl ?_
              refine qw_pass rfl rfl rfl (by rw [hg14_1]; rfl) rfl ?_
              refine qw_pass rfl rfl rfl (by rw [hg14_1]; rfl) rfl ?_
              refine qw_pass rfl rfl rfl (by rw [hg14_1]; rfl) rfl ?_
              refine qw_step (fun w hw => r_pickF rfl hg14_1 rfl) rfl ?_
              exact qw_end rfl (by repeat (first | exact trivial | refine ⟨rfl, ?_⟩))
            refine qw_step (fun w hw => r_assign rfl) rfl ?_
            clear hP; refine qw_nil (fun W hP => ?_)
            refine ew_next ?_
            refine cw_ret ?_
            refine ew_ret1 rfl (.tmp rfl .nil) ⟨?_, hP.old⟩
            simp only [sndB, hb0, hb1, inM_yes g5, inM_yes g6, inM_yes g7, Bool.and_true, Bool.not_true, hb4, cond_true, cond_false]
end Go.Proofs.YtlhmbncalonomaaDoor.Snd
