/- Own walks: up, padded, total, octal. -/
import Derived.Test.YtlhmbncalonomaaDoorHead
import Derived.Test.YtlhmbncalonomaaDoorSnd
namespace Go.Proofs.YtlhmbncalonomaaDoor.TpB
open Go.RowKit Go.Proofs.YtlhmbncalonomaaDoor.Q Go.Proofs.YtlhmbncalonomaaDoor.Cpy Go.Proofs.YtlhmbncalonomaaDoor.Hand Go.Proofs.YtlhmbncalonomaaDoor.Arr Go.Proofs.YtlhmbncalonomaaDoor.Sx Go.Proofs.YtlhmbncalonomaaDoor.Head Go.Proofs.YtlhmbncalonomaaDoorW.PrintWords Go.Proofs.YtlhmbncalonomaaDoorW.PrintLast Go.Proofs.YtlhmbncalonomaaDoorW.PrintMore
set_option linter.unusedVariables false
set_option linter.unusedSimpArgs false

/-- In whole records. -/
def padT (n : Nat) : Nat := (n + 511) / 512 * 512
/-- The sum of a list's first numbers. -/
def sumTo (L : List Int) (i : Nat) : Int := (L.take i).sum
theorem bt_bn (s : ByteArray) (i : Nat) (h : i < s.size) : bt s (i : Int) = (bn s).getD i 0 := by
  unfold bt bn
  have h2 : i < s.data.toList.length := by rw [Array.length_toList]; exact h
  simp only [Int.toNat_natCast, h, dif_pos, List.getD_eq_getElem?_getD, List.getElem?_map, List.getElem?_eq_getElem h2]
  rfl
theorem sumTo_succ (L : List Int) (i : Nat) (h : i < L.length) : sumTo L (i + 1) = sumTo L i + L.getD i 0 := by
  unfold sumTo
  rw [List.take_add_one, List.sum_append, List.getD_eq_getElem?_getD, List.getElem?_eq_getElem h]
  simp
theorem sumTo_range (L : List Int) (hL : ∀ x ∈ L, 0 ≤ x ∧ x ≤ 255) (i : Nat) (h : i ≤ L.length) : 0 ≤ sumTo L i ∧ sumTo L i ≤ 255 * (i : Int) := by
  induction i with
  | zero => simp [sumTo]
  | succ i ih =>
    have h1 := ih (by omega)
    have h2 := hL (L.getD i 0) (by rw [List.getD_eq_getElem?_getD, List.getElem?_eq_getElem (by omega)]; exact List.getElem_mem _)
    rw [sumTo_succ L i (by omega)]
    omega
theorem bn_range (s : ByteArray) : ∀ x ∈ bn s, 0 ≤ x ∧ x ≤ 255 := (inrB s).out
/-- A number in octal digits. -/
def octS (m : Nat) (n : Int) : ByteArray := strOfNums (digs m n)
theorem octS_size (m : Nat) (n : Int) : (octS m n).size = m := by unfold octS; rw [strOfNums_size, digs_length]
theorem octS_succ (j m : Nat) (n : Int) (h : 0 ≤ n) : octS (j + 1) n = strOfNums [48 + (n / 8 ^ j) % 8] ++ octS j n := by
  have key : digs (j + 1) n = [48 + (n / 8 ^ j) % 8] ++ digs j n := by
    clear m
    induction j generalizing n with
    | zero => simp [digs]
    | succ j ih =>
      have e : n / 8 ^ (j + 1) = n / 8 / 8 ^ j := by rw [Int.pow_succ, Int.mul_comm, Int.ediv_ediv_of_nonneg (by omega)]
      show digs (j + 1) (n / 8) ++ [48 + n % 8] = _ ++ (digs j (n / 8) ++ [48 + n % 8])
      rw [ih (n / 8) (by omega), e, List.append_assoc]
  unfold octS
  rw [key]
  apply ByteArray.ext
  simp [strOfNums]

set_option maxRecDepth 100000 in
theorem up_calls (n : Nat) (w : World) (h : n ≤ 1099511627776) : Calls Tryd.prog 20 #[.int .i64 (n : Int)] w fun e w' => e = .returned (.int .i64 (padT n : Nat)) ∧ w' = w := by
  refine calls_cw Tryd.func20 rfl rfl (by simp) ?_
  refine cw_seq ?_
  -- region 0 tape.go:71
  refine cw_region ?_
  refine ow_step (r_assign rfl) rfl ?_
  refine ow_nil ?_
  refine ew_next ?_
  refine cw_seq ?_
  -- region 1 tape.go:71
  refine cw_region ?_
  refine ow_step (r_move rfl) rfl ?_
  refine ow_step (i_add rfl rfl (by omega)) rfl ?_
  refine ow_step (i_sub rfl rfl (by omega)) rfl ?_
  refine ow_step (i_quo rfl rfl (by omega)) rfl ?_
  refine ow_step (i_mul rfl rfl (by omega)) rfl ?_
  refine ow_step (r_assign rfl) rfl ?_
  refine ow_nil ?_
  refine ew_next ?_
  refine cw_ret ?_
  refine ew_ret1 rfl (.tmp rfl .nil) ⟨?_, rfl⟩
  congr 2
  unfold padT; omega

set_option maxRecDepth 100000 in
theorem padded_calls (n : Nat) (w : World) (h : n ≤ 1099511627776) : Calls Tryd.prog 23 #[.int .i64 (n : Int)] w fun e w' => e = .returned (.int .i64 (padT n : Nat)) ∧ w' = w := by
  refine calls_cw Tryd.func23 rfl rfl (by simp) ?_
  refine cw_seq ?_
  -- region 0 tape.go:106
  refine cw_region ?_
  refine ow_step (r_assign rfl) rfl ?_
  refine ow_nil ?_
  refine ew_next ?_
  refine cw_seq ?_
  refine cw_block ?_
  refine cw_loop (fun i => padT n - i) (fun i => [(0, .int .i64 ((i : Nat) : Int))]) (fun i w' => n ≤ i ∧ i ≤ padT n ∧ w' = w) n ⟨rfl, trivial⟩ ⟨Nat.le_refl _, by unfold padT; omega, rfl⟩ ?_
  rintro i W ⟨hi, hi2, rfl⟩
  have hp : padT n ≤ n + 511 := by unfold padT; omega
  · -- round 0
    refine cw_seq ?_
    refine cw_seq ?_
    -- region 1 tape.go:107
    refine cw_region ?_
    refine ow_step (r_move rfl) rfl ?_
    refine ow_step (i_rem rfl rfl (by omega)) rfl ?_
    refine ow_step (r_ne rfl rfl) rfl ?_
    refine ow_nil ?_
    refine ew_next ?_
    refine cw_cond rfl (fun hb0 => ?_) (fun hb0 => ?_)
    · -- cond 0 yes
      have hc0 := hb0; (try simp only [Bool.and_eq_true, Bool.or_eq_true, Bool.and_eq_false_iff, Bool.or_eq_false_iff, Bool.not_eq_true', Bool.not_eq_false', decide_eq_true_eq, decide_eq_false_iff_not, ne_eq, Decidable.not_not, not_true_eq_false, not_false_eq_true] at hc0)
      have h3 : i < padT n := by unfold padT at *; omega
      refine cw_skip ?_
      refine ew_next ?_
      refine cw_block ?_
      -- region 2 tape.go:108
      refine cw_region ?_
      refine ow_step (r_move rfl) rfl ?_
      refine ow_step (i_add rfl rfl (by omega)) rfl ?_
      refine ow_step (r_assign rfl) rfl ?_
      refine ow_nil ?_
      refine ew_block ?_
      refine ew_round (i + 1) ⟨rfl, trivial⟩ ⟨by omega, by omega, rfl⟩ (by omega)
    · -- cond 0 no
      have hc0 := hb0; (try simp only [Bool.and_eq_true, Bool.or_eq_true, Bool.and_eq_false_iff, Bool.or_eq_false_iff, Bool.not_eq_true', Bool.not_eq_false', decide_eq_true_eq, decide_eq_false_iff_not, ne_eq, Decidable.not_not, not_true_eq_false, not_false_eq_true] at hc0)
      refine cw_exit ?_
      refine ew_then_exit ?_
      refine ew_then_exit ?_
      refine ew_block_hit ?_
      refine ew_next ?_
      refine cw_seq ?_
      -- region 3 tape.go:110
      refine cw_region ?_
      refine ow_step (r_move rfl) rfl ?_
      refine ow_step (r_assign rfl) rfl ?_
      refine ow_nil ?_
      refine ew_next ?_
      refine cw_ret ?_
      refine ew_ret1 rfl (.tmp rfl .nil) ⟨?_, rfl⟩
      congr 2
      unfold padT at *; omega

set_option maxRecDepth 100000 in
theorem total25_calls (x : ByteArray) (w : World) (h : x.size ≤ 1099511627776) : Calls Tryd.prog 25 #[.string x] w fun e w' => e = .returned (.int .i64 (sumTo (bn x) x.size)) ∧ w' = w := by
  refine calls_cw Tryd.func25 rfl rfl (by simp) ?_
  refine cw_seq ?_
  -- region 0 tape.go:97
  refine cw_region ?_
  refine ow_step (r_assign rfl) rfl ?_
  refine ow_nil ?_
  refine ew_next ?_
  refine cw_seq ?_
  -- region 1 tape.go:98
  refine cw_region ?_
  refine ow_step (r_assign rfl) rfl ?_
  refine ow_nil ?_
  refine ew_next ?_
  refine cw_seq ?_
  refine cw_seq ?_
  -- region 2 tape.go:99
  refine cw_region ?_
  refine ow_step (r_assign rfl) rfl ?_
  refine ow_nil ?_
  refine ew_next ?_
  refine cw_block ?_
  refine cw_loop (fun i => x.size - i) (fun i => [(0, .string x), (4, .int .i64 ((i : Nat) : Int)), (3, .int .i64 (sumTo (bn x) i))]) (fun i w' => i ≤ x.size ∧ w' = w) 0 ⟨rfl, rfl, rfl, trivial⟩ ⟨by omega, rfl⟩ ?_
  rintro i W ⟨hi, rfl⟩
  have hs := sumTo_range (bn x) (bn_range x) i (by rw [bn_length]; exact hi)
  have hb := bt_range x (i : Int)
  · -- round 0
    refine cw_seq ?_
    refine cw_seq ?_
    -- region 3 tape.go:99
    refine cw_region ?_
    refine ow_step (r_move rfl) rfl ?_
    refine ow_step (r_move rfl) rfl ?_
    refine ow_step (r_slen rfl rfl rfl) rfl ?_
    refine ow_step (r_lt rfl rfl) rfl ?_
    refine ow_nil ?_
    refine ew_next ?_
    refine cw_cond rfl (fun hb0 => ?_) (fun hb0 => ?_)
    · -- cond 0 yes
      have hc0 := hb0; (try simp only [Bool.and_eq_true, Bool.or_eq_true, Bool.and_eq_false_iff, Bool.or_eq_false_iff, Bool.not_eq_true', Bool.not_eq_false', decide_eq_true_eq, decide_eq_false_iff_not, ne_eq, Decidable.not_not, not_true_eq_false, not_false_eq_true] at hc0)
      refine cw_skip ?_
      refine ew_next ?_
      refine cw_seq ?_
      refine cw_block ?_
      -- region 5 tape.go:100
      refine cw_region ?_
      refine ow_step (r_move rfl) rfl ?_
      refine ow_step (r_move rfl) rfl ?_
      refine ow_step (r_move rfl) rfl ?_
      refine ow_step (r_sindex rfl rfl rfl ⟨by omega, by omega⟩) rfl ?_
      refine ow_step (r_conv_in rfl rfl Tryd.underlying3 (IntWalk.i64_in _ (by omega))) rfl ?_
      refine ow_step (i_add rfl rfl (by omega)) rfl ?_
      refine ow_step (r_assign rfl) rfl ?_
      refine ow_nil ?_
      refine ew_block ?_
      refine ew_next ?_
      -- region 4 tape.go:99
      refine cw_region ?_
      refine ow_step (r_move rfl) rfl ?_
      refine ow_step (i_add rfl rfl (by omega)) rfl ?_
      refine ow_step (r_assign rfl) rfl ?_
      refine ow_nil ?_
      refine ew_round (i + 1) ⟨rfl, rfl, ?_, trivial⟩ ⟨by omega, rfl⟩ (by omega)
      rw [sumTo_succ (bn x) i (by rw [bn_length]; omega), ← bt_bn x i (by omega)]; rfl
    · -- cond 0 no
      have hc0 := hb0; (try simp only [Bool.and_eq_true, Bool.or_eq_true, Bool.and_eq_false_iff, Bool.or_eq_false_iff, Bool.not_eq_true', Bool.not_eq_false', decide_eq_true_eq, decide_eq_false_iff_not, ne_eq, Decidable.not_not, not_true_eq_false, not_false_eq_true] at hc0)
      refine cw_exit ?_
      refine ew_then_exit ?_
      refine ew_then_exit ?_
      refine ew_block_hit ?_
      refine ew_next ?_
      refine cw_seq ?_
      -- region 6 tape.go:102
      refine cw_region ?_
      refine ow_step (r_move rfl) rfl ?_
      refine ow_step (r_assign rfl) rfl ?_
      refine ow_nil ?_
      refine ew_next ?_
      refine cw_ret ?_
      refine ew_ret1 rfl (.tmp rfl .nil) ⟨?_, rfl⟩
      obtain rfl : i = x.size := by omega
      rfl

set_option maxRecDepth 100000 in
theorem octal_calls (x : Int) (m : Nat) (w : World) (h0 : 0 ≤ x) (h1 : x ≤ 9223372036854775807) (hm : m ≤ 1048576) : Calls Tryd.prog 27 #[.int .i64 x, .int .i64 (m : Int)] w fun e w' => e = .returned (.string (octS m x)) ∧ Below w.heap.size w w' := by
  have hP := HP.start w
  refine calls_cw Tryd.func27 rfl rfl (by simp) ?_
  refine cw_seq ?_
  -- region 0 tape.go:70
  refine cw_region ?_
  refine ow_step (r_assign rfl) rfl ?_
  refine ow_nil ?_
  refine ew_next ?_
  refine cw_seq ?_
  -- region 1 tape.go:71
  refine cw_region ?_
  refine ow_step (r_assign rfl) rfl ?_
  refine ow_nil ?_
  refine ew_next ?_
  refine cw_seq ?_
  refine cw_seq ?_
  -- region 2 tape.go:72
  refine cw_region ?_
  refine ow_step (r_assign rfl) rfl ?_
  refine ow_nil ?_
  refine ew_next ?_
  refine cw_block ?_
  refine cw_loop (fun i => m - i) (fun i => [(0, .int .i64 (x / 8 ^ i)), (1, .int .i64 (m : Int)), (6, .int .i64 ((i : Nat) : Int)), (5, .string (octS i x))]) (fun i w' => i ≤ m ∧ HP w w' []) 0 ⟨by rw [Int.pow_zero, Int.ediv_one]; rfl, rfl, rfl, rfl, trivial⟩ ⟨by omega, hP⟩ ?_
  clear hP; rintro i W ⟨hi, hP⟩
  have hx0 : 0 ≤ x / 8 ^ i := Int.ediv_nonneg h0 (Int.pow_nonneg (by omega))
  have hx1 : x / 8 ^ i ≤ 9223372036854775807 := Int.le_trans (Int.ediv_le_self _ h0) h1
  have hss := octS_size i x
  · -- round 0
    refine cw_seq ?_
    refine cw_seq ?_
    -- region 3 tape.go:72
    refine cw_region ?_
    refine ow_step (r_move rfl) rfl ?_
    refine ow_step (r_move rfl) rfl ?_
    refine ow_step (r_lt rfl rfl) rfl ?_
    refine ow_nil ?_
    refine ew_next ?_
    refine cw_cond rfl (fun hb0 => ?_) (fun hb0 => ?_)
    · -- cond 0 yes
      have hc0 := hb0; (try simp only [Bool.and_eq_true, Bool.or_eq_true, Bool.and_eq_false_iff, Bool.or_eq_false_iff, Bool.not_eq_true', Bool.not_eq_false', decide_eq_true_eq, decide_eq_false_iff_not, ne_eq, Decidable.not_not, not_true_eq_false, not_false_eq_true] at hc0)
      refine cw_skip ?_
      refine ew_next ?_
      refine cw_seq ?_
      refine cw_block ?_
      refine cw_seq ?_
      -- region 5 tape.go:73
      refine cw_region ?_
      refine ow_step (r_move rfl) rfl ?_
      refine ow_step (i_rem rfl rfl (by omega)) rfl ?_
      refine ow_step (i_add rfl rfl (by omega)) rfl ?_
      refine ow_step (r_conv_in rfl rfl Tryd.underlying5 (IntWalk.u8_in _ (by omega))) rfl ?_
      refine ow_buildSlice hP (ws := [.int .u8 (48 + x / 8 ^ i % 8)]) (e := 5) rfl (fun w => by kernel_rfl) rfl ?_
      intro g W hz hg hP
      refine ow_step (r_bytes (xs := [48 + x / 8 ^ i % 8]) rfl Tryd.underlying24 Tryd.underlying5 Tryd.underlying9 rfl (fun j hj => by (obtain rfl : j = 0 := (by omega)); exact hP.cell (i := 0) rfl rfl)) rfl ?_
      refine ow_step (r_move rfl) rfl ?_
      refine ow_step (r_sadd rfl rfl (by rw [strOfNums_size, hss]; simp; omega)) rfl ?_
      refine ow_step (r_assign rfl) rfl ?_
      refine ow_nil ?_
      refine ew_next ?_
      -- region 6 tape.go:74
      refine cw_region ?_
      refine ow_step (r_move rfl) rfl ?_
      refine ow_step (i_quo rfl rfl (by omega)) rfl ?_
      refine ow_step (r_assign rfl) rfl ?_
      refine ow_nil ?_
      refine ew_block ?_
      refine ew_next ?_
      -- region 4 tape.go:72
      refine cw_region ?_
      refine ow_step (r_move rfl) rfl ?_
      refine ow_step (i_add rfl rfl (by omega)) rfl ?_
      refine ow_step (r_assign rfl) rfl ?_
      refine ow_nil ?_
      refine ew_round (i + 1) ⟨?_, rfl, rfl, ?_, trivial⟩ ⟨by omega, hP.sub (List.sublist_cons_self _ _)⟩ (by omega)
      · rw [Int.pow_succ, ← Int.ediv_ediv_of_nonneg (Int.pow_nonneg (by omega))]; rfl
      · rw [octS_succ i 0 x h0]; rfl
    · -- cond 0 no
      have hc0 := hb0; (try simp only [Bool.and_eq_true, Bool.or_eq_true, Bool.and_eq_false_iff, Bool.or_eq_false_iff, Bool.not_eq_true', Bool.not_eq_false', decide_eq_true_eq, decide_eq_false_iff_not, ne_eq, Decidable.not_not, not_true_eq_false, not_false_eq_true] at hc0)
      refine cw_exit ?_
      refine ew_then_exit ?_
      refine ew_then_exit ?_
      refine ew_block_hit ?_
      refine ew_next ?_
      refine cw_seq ?_
      -- region 7 tape.go:76
      refine cw_region ?_
      refine ow_step (r_move rfl) rfl ?_
      refine ow_step (r_assign rfl) rfl ?_
      refine ow_nil ?_
      refine ew_next ?_
      refine cw_ret ?_
      refine ew_ret1 rfl (.tmp rfl .nil) ⟨?_, hP.old⟩
      obtain rfl : i = m := by omega
      rfl
end Go.Proofs.YtlhmbncalonomaaDoor.TpB
