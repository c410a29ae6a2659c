/- Own walk: the program's Put. -/
import Derived.Test.YtlhmbncalonomaaDoorFil2
namespace Go.Proofs.YtlhmbncalonomaaDoor.PrP
open Go.RowKit Go.Proofs.YtlhmbncalonomaaDoor.Q Go.Proofs.YtlhmbncalonomaaDoor.Cpy Go.Proofs.YtlhmbncalonomaaDoor.Hand Go.Proofs.YtlhmbncalonomaaDoor.Arr Go.Proofs.YtlhmbncalonomaaDoor.Sx Go.Proofs.YtlhmbncalonomaaDoor.Head Go.Proofs.YtlhmbncalonomaaDoor.Snd Go.Proofs.YtlhmbncalonomaaDoor.TpB Go.Proofs.YtlhmbncalonomaaDoor.TpH Go.Proofs.YtlhmbncalonomaaDoor.RfH Go.Proofs.YtlhmbncalonomaaDoor.Spc Go.Proofs.YtlhmbncalonomaaDoor.Spd Go.Proofs.YtlhmbncalonomaaDoor.Fil Go.Proofs.YtlhmbncalonomaaDoor.Fil2 Go.Proofs.YtlhmbncalonomaaDoorW.PrintWords Go.Proofs.YtlhmbncalonomaaDoorW.PrintLast Go.Proofs.YtlhmbncalonomaaDoorW.PrintMore
set_option linter.unusedVariables false
set_option linter.unusedSimpArgs false

theorem ow_appA {Q : Exit → Act → World → Prop} {N : Nat} {sl : List (Nat × Value)} {W0 W : World} {ops : Array Oper} {rest : List Oper} {d m g c : Nat} {ty : TypeId} {pos : String} {aft : Array Edge} {x y : Operand} {bs : List (Nat × List Value × Nat)} {v : Value} {L l : List Int}
    (hG : Grow W0 W bs v L.length (u8s L) 5 1) (hx : sv sl x = some v) (hy : sv sl y = some (.slice (some ⟨g, 0, none⟩) m c)) (hl : l.length = m) (hc : ∀ j u, (u8s l)[j]? = some u → W.cell? ⟨g, j, none⟩ = some u) (hb : L.length + m ≤ 140737488355328) (hd : Nat.blt d N = true)
    (h : ∀ v' W', W.grownBy W' v.ownBlock → Grow W0 W' bs v' (L ++ l).length (u8s (L ++ l)) 5 1 → OW Tryd.prog ops Q rest N ((d, v') :: sl) W') : OW Tryd.prog ops Q (⟨some d, .call ⟨.builtin .append, #[x, y], #[24, 24]⟩, ty, pos, aft, none⟩ :: rest) N sl W := by
  subst hl
  refine ow_append hG hx hy Tryd.underlying24 info5s rfl (takes_slice (news := u8s l) Tryd.underlying24 (by rw [u8s_length, Nat.mul_one]) (fun j u hj => by rw [Addr.add_mid, Nat.zero_add]; exact hc j u hj) u8s_one) (by omega) (by omega) hd (fun v' W' hg hG' => h v' W' hg ?_)
  rw [u8s_app] at hG'
  rw [List.length_append]
  exact hG'
theorem en20 : Enters Tryd.prog 20 := fun args w => by kernel_rfl
theorem en21 : Enters Tryd.prog 21 := fun args w => by kernel_rfl
theorem en22 : Enters Tryd.prog 22 := fun args w => by kernel_rfl

set_option maxRecDepth 100000 in
theorem prPut_calls (A : Option Addr) (c : Nat) (xs : List S26) (w : World) (hl : Laid w) (hC : Kd.C k26 w A xs.length xs) (hs : Small xs) :
    Calls Tryd.prog 11 #[.slice A xs.length c] w fun e w' => ∃ v, e = .returned (.tuple #[v, .int .i64 (putE xs)]) ∧ Grow w w' [] v (putB xs).length (u8s (putB xs)) 5 1 := by
  have hP := HP.start w
  have hlen := hs.len
  refine calls_cw Tryd.func11 rfl rfl (by simp) ?_
  refine cw_seq ?_
  -- region 0 tape.go:137
  refine cw_region ?_
  refine ow_step (r_assign rfl) rfl ?_
  refine ow_step (r_assign rfl) rfl ?_
  refine ow_nil ?_
  refine ew_next ?_
  refine cw_seq ?_
  -- region 1 tape.go:138
  refine cw_region ?_
  refine ow_step (r_assign rfl) rfl ?_
  refine ow_nil ?_
  refine ew_next ?_
  refine cw_seq ?_
  refine cw_seq ?_
  -- region 2 tape.go:139
  refine cw_region ?_
  refine ow_step (r_move rfl) rfl ?_
  refine ow_step (r_len rfl (by rfl) rfl) rfl ?_
  refine ow_step (r_move rfl) rfl ?_
  refine ow_nil ?_
  refine ew_next ?_
  refine cw_block ?_
  refine cw_loop (fun i : Nat => xs.length - i) (fun i : Nat => [(0, .slice A xs.length c), (13, .slice A xs.length c), (14, .int .i64 (xs.length : Int)), (15, .int .i64 ((i : Nat) : Int)), (4, .int .i64 ((putN (xs.take i) : Nat) : Int))]) (fun (i : Nat) w' => i ≤ xs.length ∧ putN (xs.take i) ≤ 16777216 ∧ HP w w' []) 0 ⟨rfl, rfl, rfl, rfl, rfl, trivial⟩ ⟨Nat.zero_le _, by simp [putN], hP⟩ ?_
  clear hP; rintro i W ⟨hi, hmx, hP⟩
  · -- round 0
    refine cw_seq ?_
    -- region 3 tape.go:139
    refine cw_region ?_
    refine ow_step (r_lt rfl rfl) rfl ?_
    refine ow_nil ?_
    refine ew_next ?_
    refine cw_seq ?_
    refine cw_cond rfl (fun hb0 => ?_) (fun hb0 => ?_)
    · -- cond 0 yes
      have hc0 := hb0; (try simp only [Bool.and_eq_true, Bool.or_eq_true, Bool.and_eq_false_iff, Bool.or_eq_false_iff, Bool.not_eq_true', Bool.not_eq_false', decide_eq_true_eq, decide_eq_false_iff_not, ne_eq, Decidable.not_not, not_true_eq_false, not_false_eq_true] at hc0)
      have hi' : i < xs.length := by omega
      obtain ⟨b, o, A9, c9, hA, hcells, hc9, hC9⟩ := files_at hC i hi'
      have hsx := hs.at_ _ (fileAt_mem hi')
      have hpd := pad_bd (fileAt xs i).f9.length
      have hbd := putN_bd xs hs i hi
      have hsu := putN_succ xs i hi'
      subst hA
      have hcW : ∀ j u, (rowF (fileAt xs i) A9 c9)[j]? = some u → W.cell? ((⟨b, o + i * 10, none⟩ : Addr).add j) = some u := fun j u hj => by rw [Addr.add_mid]; exact pw_cell_below hP.old (hcells j u hj)
      refine cw_skip ?_
      refine ew_next ?_
      refine cw_seq ?_
      refine cw_block ?_
      refine cw_seq ?_
      -- region 4 tape.go:139
      refine cw_region ?_
      refine ow_step (r_indexSl' (o' := o + i * 10) rfl rfl Tryd.underlying22 size26 ⟨by omega, by omega⟩ (by rw [Int.toNat_natCast])) rfl ?_
      refine ow_step (r_loads (c := rowF (fileAt xs i) A9 c9) rfl Tryd.underlying26 rfl size26 hcW) rfl ?_
      refine ow_var (ws := rowF (fileAt xs i) A9 c9) hP rfl (by kernel_rfl) (by simp [rowF, Value.oneCell']) rfl ?_
      clear hP; intro b6 W hz hg hP; clear hz hg hcW
      refine ow_nil ?_
      refine ew_next ?_
      refine cw_seq ?_
      -- region 5 tape.go:140
      refine cw_region ?_
      refine ow_step (r_move rfl) rfl ?_
      refine ow_step (r_fieldAddr rfl fl26_9) rfl ?_
      refine ow_step (r_load rfl rfl (hP.cell (i := 0) rfl rfl)) rfl ?_
      refine ow_step (r_len rfl (by rfl) rfl) rfl ?_
      refine ow_call en20 rfl (up_calls _ _ (by omega)) rfl ?_
      rintro e W' ⟨rfl, rfl⟩; refine ⟨_, rfl, ?_⟩
      refine ow_step (i_add rfl rfl (by omega)) rfl ?_
      refine ow_step (i_add rfl rfl (by omega)) rfl ?_
      refine ow_step (r_assign rfl) rfl ?_
      refine ow_nil ?_
      refine ew_next ?_
      refine cw_seq ?_
      -- region 6 tape.go:141
      refine cw_region ?_
      refine ow_step (r_move rfl) rfl ?_
      refine ow_step (r_gt rfl rfl) rfl ?_
      refine ow_nil ?_
      refine ew_next ?_
      refine cw_cond rfl (fun hb1 => ?_) (fun hb1 => ?_)
      · -- cond 1 yes
        have hc1 := hb1; (try simp only [Bool.and_eq_true, Bool.or_eq_true, Bool.and_eq_false_iff, Bool.or_eq_false_iff, Bool.not_eq_true', Bool.not_eq_false', decide_eq_true_eq, decide_eq_false_iff_not, ne_eq, Decidable.not_not, not_true_eq_false, not_false_eq_true] at hc1)
        refine cw_seq ?_
        -- region 7 tape.go:142
        refine cw_region ?_
        refine ow_step (r_assign rfl) rfl ?_
        refine ow_step (r_assign rfl) rfl ?_
        refine ow_nil ?_
        refine ew_next ?_
        refine cw_ret ?_
        refine ew_block_ret ?_
        refine ew_then_ret ?_
        refine ew_then_ret ?_
        refine ew_block_ret ?_
        refine ew_then_ret ?_
        have hle := putN_le xs hs (i + 1) (by omega)
        obtain ⟨e1, e2⟩ := putE1 (xs := xs) (by omega)
        rw [e1, e2]
        refine ew_rets (rs := [(Go.ResultVar.tmp 2), (Go.ResultVar.tmp 3)]) rfl (by simp) (.tmp rfl (.tmp rfl (.nil))) ⟨_, rfl, ?_⟩
        exact Grow.start (hP.sub (List.nil_sublist _))
      · -- cond 1 no
        have hc1 := hb1; (try simp only [Bool.and_eq_true, Bool.or_eq_true, Bool.and_eq_false_iff, Bool.or_eq_false_iff, Bool.not_eq_true', Bool.not_eq_false', decide_eq_true_eq, decide_eq_false_iff_not, ne_eq, Decidable.not_not, not_true_eq_false, not_false_eq_true] at hc1)
        refine cw_skip ?_
        refine ew_block ?_
        refine ew_next ?_
        -- region 8 tape.go:139
        refine cw_region ?_
        refine ow_step (i_add rfl rfl (by omega)) rfl ?_
        refine ow_step (r_move rfl) rfl ?_
        refine ow_nil ?_
        refine ew_round (m := (fun i : Nat => xs.length - i)) (S := (fun i : Nat => [(0, .slice (some ⟨b, o, none⟩) xs.length c), (13, .slice (some ⟨b, o, none⟩) xs.length c), (14, .int .i64 (xs.length : Int)), (15, .int .i64 ((i : Nat) : Int)), (4, .int .i64 ((putN (xs.take i) : Nat) : Int))])) (I := (fun (i : Nat) w' => i ≤ xs.length ∧ putN (xs.take i) ≤ 16777216 ∧ HP w w' [])) (u := i) (i + 1) ⟨rfl, rfl, rfl, rfl, ?_, trivial⟩ ⟨by omega, by omega, hP.sub (List.nil_sublist _)⟩ (by omega)
        rw [hsu]
        show some (Value.int .i64 _) = some (Value.int .i64 _)
        congr 2
        all_goals omega
    · -- cond 0 no
      have hc0 := hb0; (try simp only [Bool.and_eq_true, Bool.or_eq_true, Bool.and_eq_false_iff, Bool.or_eq_false_iff, Bool.not_eq_true', Bool.not_eq_false', decide_eq_true_eq, decide_eq_false_iff_not, ne_eq, Decidable.not_not, not_true_eq_false, not_false_eq_true] at hc0)
      obtain rfl : i = xs.length := by omega
      have hbd := putN_bd xs hs xs.length (Nat.le_refl _)
      rw [List.take_length] at hbd hmx
      rw [List.take_length]
      have hno : ¬ 16777216 < putN xs := by omega
      refine cw_exit ?_
      refine ew_then_exit ?_
      refine ew_then_exit ?_
      refine ew_block_hit ?_
      refine ew_next ?_
      refine cw_seq ?_
      refine cw_seq ?_
      -- region 9 tape.go:145
      refine cw_region ?_
      refine ow_step (r_move rfl) rfl ?_
      refine ow_step (r_len rfl (by rfl) rfl) rfl ?_
      refine ow_step (r_move rfl) rfl ?_
      refine ow_nil ?_
      refine ew_next ?_
      refine cw_block ?_
      refine cw_loop (fun i : Nat => xs.length - i) (fun i : Nat => [(0, .slice A xs.length c), (29, .slice A xs.length c), (30, .int .i64 (xs.length : Int)), (31, .int .i64 ((i : Nat) : Int)), (4, .int .i64 ((putN xs : Nat) : Int))]) (fun (i : Nat) w' => i ≤ xs.length ∧ (∀ j, j < i → okS (fileAt xs j) = true) ∧ HP w w' []) 0 ⟨rfl, rfl, rfl, rfl, rfl, trivial⟩ ⟨Nat.zero_le _, fun j hj => absurd hj (Nat.not_lt_zero _), hP⟩ ?_
      clear hP; rintro i W ⟨hi, hok, hP⟩
      · -- round 1
        refine cw_seq ?_
        -- region 10 tape.go:145
        refine cw_region ?_
        refine ow_step (r_lt rfl rfl) rfl ?_
        refine ow_nil ?_
        refine ew_next ?_
        refine cw_seq ?_
        refine cw_cond rfl (fun hb2 => ?_) (fun hb2 => ?_)
        · -- cond 2 yes
          have hc2 := hb2; (try simp only [Bool.and_eq_true, Bool.or_eq_true, Bool.and_eq_false_iff, Bool.or_eq_false_iff, Bool.not_eq_true', Bool.not_eq_false', decide_eq_true_eq, decide_eq_false_iff_not, ne_eq, Decidable.not_not, not_true_eq_false, not_false_eq_true] at hc2)
          have hi' : i < xs.length := by omega
          obtain ⟨b, o, A9, c9, hA, hcells, hc9, hC9⟩ := files_at hC i hi'
          have hsx := hs.at_ _ (fileAt_mem hi')
          have hpd := pad_bd (fileAt xs i).f9.length
          have hbd := putN_bd xs hs i hi
          have hsu := putN_succ xs i hi'
          subst hA
          have hcW : ∀ j u, (rowF (fileAt xs i) A9 c9)[j]? = some u → W.cell? ((⟨b, o + i * 10, none⟩ : Addr).add j) = some u := fun j u hj => by rw [Addr.add_mid]; exact pw_cell_below hP.old (hcells j u hj)
          refine cw_skip ?_
          refine ew_next ?_
          refine cw_seq ?_
          refine cw_block ?_
          refine cw_seq ?_
          -- region 11 tape.go:145
          refine cw_region ?_
          refine ow_step (r_indexSl' (o' := o + i * 10) rfl rfl Tryd.underlying22 size26 ⟨by omega, by omega⟩ (by rw [Int.toNat_natCast])) rfl ?_
          refine ow_step (r_loads (c := rowF (fileAt xs i) A9 c9) rfl Tryd.underlying26 rfl size26 hcW) rfl ?_
          refine ow_var (ws := rowF (fileAt xs i) A9 c9) hP rfl (by kernel_rfl) (by simp [rowF, Value.oneCell']) rfl ?_
          clear hP; intro b8 W hz hg hP; clear hz hg hcW
          refine ow_nil ?_
          refine ew_next ?_
          refine cw_seq ?_
          -- region 12 tape.go:146
          refine cw_region ?_
          refine ow_step (r_loads (c := rowF (fileAt xs i) A9 c9) rfl Tryd.underlying26 rfl size26 (hP.cells (i := 0) (o := 0) rfl (fun j u hj => by rw [Nat.zero_add]; exact hj))) rfl ?_
          refine ow_call en21 rfl (sound_calls ((fileAt xs i).f0.size + 2) (fileAt xs i).f0 (fileAt xs i).f1 (fileAt xs i).f2 (fileAt xs i).f3 (fileAt xs i).f4 (fileAt xs i).f5 (fileAt xs i).f6 (fileAt xs i).f7 (fileAt xs i).f8 A9 (fileAt xs i).f9.length c9 _ _ _ _ _ (cuts (fileAt xs i).f0 (by omega)).1 (suffix_eq (fileAt xs i).f0 (by omega)) (by omega) (by omega)) rfl ?_
          rintro e W ⟨rfl, hb⟩; replace hP := hP.below hb; clear hb; refine ⟨_, rfl, ?_⟩
          refine ow_step (r_not rfl) rfl ?_
          refine ow_nil ?_
          refine ew_next ?_
          refine cw_cond rfl (fun hb3 => ?_) (fun hb3 => ?_)
          · -- cond 3 yes
            have hc3 := hb3; (try simp only [Bool.and_eq_true, Bool.or_eq_true, Bool.and_eq_false_iff, Bool.or_eq_false_iff, Bool.not_eq_true', Bool.not_eq_false', decide_eq_true_eq, decide_eq_false_iff_not, ne_eq, Decidable.not_not, not_true_eq_false, not_false_eq_true] at hc3)
            refine cw_seq ?_
            -- region 13 tape.go:147
            refine cw_region ?_
            refine ow_step (r_assign rfl) rfl ?_
            refine ow_step (r_assign rfl) rfl ?_
            refine ow_nil ?_
            refine ew_next ?_
            refine cw_ret ?_
            refine ew_block_ret ?_
            refine ew_then_ret ?_
            refine ew_then_ret ?_
            refine ew_block_ret ?_
            refine ew_then_ret ?_
            have hc3' : okS (fileAt xs i) = false := hc3
            obtain ⟨e1, e2⟩ := putE2 hno (not_all xs i hi' hc3')
            rw [e1, e2]
            refine ew_rets (rs := [(Go.ResultVar.tmp 2), (Go.ResultVar.tmp 3)]) rfl (by simp) (.tmp rfl (.tmp rfl (.nil))) ⟨_, rfl, ?_⟩
            exact Grow.start (hP.sub (List.nil_sublist _))
          · -- cond 3 no
            have hc3 := hb3; (try simp only [Bool.and_eq_true, Bool.or_eq_true, Bool.and_eq_false_iff, Bool.or_eq_false_iff, Bool.not_eq_true', Bool.not_eq_false', decide_eq_true_eq, decide_eq_false_iff_not, ne_eq, Decidable.not_not, not_true_eq_false, not_false_eq_true] at hc3)
            refine cw_skip ?_
            refine ew_block ?_
            refine ew_next ?_
            -- region 14 tape.go:145
            refine cw_region ?_
            refine ow_step (i_add rfl rfl (by omega)) rfl ?_
            refine ow_step (r_move rfl) rfl ?_
            refine ow_nil ?_
            refine ew_round (m := (fun i : Nat => xs.length - i)) (S := (fun i : Nat => [(0, .slice (some ⟨b, o, none⟩) xs.length c), (29, .slice (some ⟨b, o, none⟩) xs.length c), (30, .int .i64 (xs.length : Int)), (31, .int .i64 ((i : Nat) : Int)), (4, .int .i64 ((putN xs : Nat) : Int))])) (I := (fun (i : Nat) w' => i ≤ xs.length ∧ (∀ j, j < i → okS (fileAt xs j) = true) ∧ HP w w' [])) (u := i) (i + 1) ⟨rfl, rfl, rfl, rfl, rfl, trivial⟩ ⟨by omega, fun j hj => ?_, hP.sub (List.nil_sublist _)⟩ (by omega)
            rcases Nat.lt_or_ge j i with h | h
            · exact hok j h
            · obtain rfl : j = i := by omega
              exact hc3
        · -- cond 2 no
          have hc2 := hb2; (try simp only [Bool.and_eq_true, Bool.or_eq_true, Bool.and_eq_false_iff, Bool.or_eq_false_iff, Bool.not_eq_true', Bool.not_eq_false', decide_eq_true_eq, decide_eq_false_iff_not, ne_eq, Decidable.not_not, not_true_eq_false, not_false_eq_true] at hc2)
          obtain rfl : i = xs.length := by omega
          refine cw_exit ?_
          refine ew_then_exit ?_
          refine ew_then_exit ?_
          refine ew_block_hit ?_
          refine ew_next ?_
          refine cw_seq ?_
          -- region 15 tape.go:150
          refine cw_region ?_
          refine ow_step (r_move rfl) rfl ?_
          refine ow_make1 (N := 0) (M := putN xs) (z := .int .u8 0) (m := 1) hP rfl rfl Tryd.underlying24 info5s rfl ⟨by omega, by omega, by omega, by omega⟩ rfl (Int.toNat_natCast _) rfl ?_
          clear hP; intro g W hz hg hP
          have hG : Grow w W [] (.slice (some ⟨g, 0, none⟩) 0 (putN xs)) ([] : List Int).length (u8s []) 5 1 := .inr ⟨g, _, List.replicate (putN xs) (.int .u8 0), rfl, Nat.zero_le _, rfl, by simp, hP⟩
          clear hP hz hg; have hP := hG.hp
          refine ow_step (r_assign rfl) rfl ?_
          refine ow_nil ?_
          refine ew_next ?_
          refine cw_seq ?_
          refine cw_seq ?_
          -- region 16 tape.go:151
          refine cw_region ?_
          refine ow_step (r_move rfl) rfl ?_
          refine ow_step (r_len rfl (by rfl) rfl) rfl ?_
          refine ow_step (r_move rfl) rfl ?_
          refine ow_nil ?_
          refine ew_next ?_
          refine cw_block ?_
          refine cw_loop (α := Nat × Value) (fun u : Nat × Value => xs.length - u.1) (fun u : Nat × Value => [(41, .slice A xs.length c), (42, .int .i64 (xs.length : Int)), (43, .int .i64 ((u.1 : Nat) : Int)), (9, u.2)]) (fun (u : Nat × Value) w' => u.1 ≤ xs.length ∧ Grow w w' [] u.2 (recs (xs.take u.1)).length (u8s (recs (xs.take u.1))) 5 1) (0, .slice (some ⟨g, 0, none⟩) 0 (putN xs)) ⟨rfl, rfl, rfl, rfl, trivial⟩ ⟨Nat.zero_le _, hG⟩ ?_
          clear hP hG; rintro ⟨i, v⟩ W ⟨hi, hG⟩; dsimp only at hi hG ⊢; have hP := hG.hp
          · -- round 2
            refine cw_seq ?_
            -- region 17 tape.go:151
            refine cw_region ?_
            refine ow_step (r_lt rfl rfl) rfl ?_
            refine ow_nil ?_
            refine ew_next ?_
            refine cw_seq ?_
            refine cw_cond rfl (fun hb4 => ?_) (fun hb4 => ?_)
            · -- cond 4 yes
              have hc4 := hb4; (try simp only [Bool.and_eq_true, Bool.or_eq_true, Bool.and_eq_false_iff, Bool.or_eq_false_iff, Bool.not_eq_true', Bool.not_eq_false', decide_eq_true_eq, decide_eq_false_iff_not, ne_eq, Decidable.not_not, not_true_eq_false, not_false_eq_true] at hc4)
              have hi' : i < xs.length := by omega
              obtain ⟨b, o, A9, c9, hA, hcells, hc9, hC9⟩ := files_at hC i hi'
              have hsx := hs.at_ _ (fileAt_mem hi')
              have hpd := pad_bd (fileAt xs i).f9.length
              have hbd := putN_bd xs hs i hi
              have hsu := putN_succ xs i hi'
              subst hA
              have hcW : ∀ j u, (rowF (fileAt xs i) A9 c9)[j]? = some u → W.cell? ((⟨b, o + i * 10, none⟩ : Addr).add j) = some u := fun j u hj => by rw [Addr.add_mid]; exact pw_cell_below hP.old (hcells j u hj)
              have hle := putN_le xs hs i hi
              have hrl := recs_length xs hs i hi (fun j hj => hok j (by omega))
              have hct := cuts (fileAt xs i).f0 (by omega)
              obtain ⟨k1, k2, k3, k4, k5, k6, k7, k8, k9, k10, k11⟩ := okS_facts (fileAt xs i) (by omega) (hok i hi')
              obtain ⟨HL, hHL⟩ : ∃ z, z = hdL (cutP (fileAt xs i).f0).1 (cutP (fileAt xs i).f0).2.1 (fileAt xs i).f1 (fileAt xs i).f2 (fileAt xs i).f3 (fileAt xs i).f4 (fileAt xs i).f5 (fileAt xs i).f6 (fileAt xs i).f7 (fileAt xs i).f9.length (fileAt xs i).f8 := ⟨_, rfl⟩
              have hHl : HL.length = 512 := by rw [hHL]; exact fsH_length _ _ _ _ _ _ _ _ _ _ _ _ k2 k3 k4 k5 k6 (by simp [digs_length])
              have hhead : ∀ W, Laid W → Calls Tryd.prog 22 #[.agg (rowF (fileAt xs i) A9 c9).toArray] W fun e w' => e = .returned (.agg (u8s HL).toArray) ∧ Below W.heap.size W w' := fun W hl => (head_calls ((fileAt xs i).f0.size + 2) (fileAt xs i).f0 (fileAt xs i).f1 (fileAt xs i).f2 (fileAt xs i).f3 (fileAt xs i).f4 (fileAt xs i).f5 (fileAt xs i).f6 (fileAt xs i).f7 (fileAt xs i).f8 A9 c9 (fileAt xs i).f9 (cutP (fileAt xs i).f0).1 (cutP (fileAt xs i).f0).2.1 (cutP (fileAt xs i).f0).2.2 W hl hct.1 k2 k3 k4 k5 k6 k7 k8 k9 k10 k11 (by omega)).mono (fun e w' ⟨he, hb⟩ => ⟨by rw [he, head_flat _ _ _ _ _ _ _ _ _ _ _ k2 k3 k4 k5 k6, hHL], hb⟩)
              refine cw_skip ?_
              refine ew_next ?_
              refine cw_seq ?_
              refine cw_block ?_
              refine cw_seq ?_
              -- region 18 tape.go:151
              refine cw_region ?_
              refine ow_step (r_indexSl' (o' := o + i * 10) rfl rfl Tryd.underlying22 size26 ⟨by omega, by omega⟩ (by rw [Int.toNat_natCast])) rfl ?_
              refine ow_step (r_loads (c := rowF (fileAt xs i) A9 c9) rfl Tryd.underlying26 rfl size26 hcW) rfl ?_
              refine ow_var (ws := rowF (fileAt xs i) A9 c9) hP rfl (by kernel_rfl) (by simp [rowF, Value.oneCell']) rfl ?_
              intro b11 W' hz hg hP'; clear hP; replace hG := hG.var hz hg (hP'.blk (i := 0) rfl); clear hP' hz hg; have hP := hG.hp
              refine ow_nil ?_
              refine ew_next ?_
              refine cw_seq ?_
              -- region 19 tape.go:152
              refine cw_region ?_
              refine ow_step (r_loads (c := rowF (fileAt xs i) A9 c9) rfl Tryd.underlying26 rfl size26 (hP.cells (i := 0) (o := 0) rfl (fun j u hj => by rw [Nat.zero_add]; exact hj))) rfl ?_
              refine ow_call en22 rfl (hhead _ (hl.below hP.old)) rfl ?_
              rintro e W ⟨rfl, hb⟩; replace hG := hG.below hb; clear hb hP hcW; have hP := hG.hp; refine ⟨_, rfl, ?_⟩
              refine ow_var (ws := u8s HL) hP rfl (by rw [u8s_length, hHl]; kernel_rfl) u8s_one rfl ?_
              intro b12 W' hz hg hP'; clear hP; replace hG := hG.var hz hg (hP'.blk (i := 0) rfl); clear hP' hz hg; have hP := hG.hp
              refine ow_nil ?_
              refine ew_next ?_
              refine cw_seq ?_
              -- region 20 tape.go:153
              refine cw_region ?_
              refine ow_step (r_move rfl) rfl ?_
              refine ow_step (r_sliceArr rfl Tryd.underlying50 size5) rfl ?_
              refine ow_appA (l := HL) hG rfl rfl hHl (fun j u hj => hP.cell (i := 0) rfl hj) (by omega) rfl ?_
              clear hP hG; intro v' W'' hg hG; have hP := hG.hp; clear hg
              refine ow_step (r_assign rfl) rfl ?_
              refine ow_nil ?_
              refine ew_next ?_
              refine cw_seq ?_
              -- region 21 tape.go:154
              refine cw_region ?_
              refine ow_step (r_move rfl) rfl ?_
              refine ow_step (r_fieldAddr rfl fl26_9) rfl ?_
              refine ow_step (r_load rfl rfl (hP.cell (i := 1) rfl rfl)) rfl ?_
              refine ow_appB hG (Kd.C_below hC9 hP.old) rfl rfl (by rw [List.length_append]; omega) rfl ?_
              clear hP hG; intro v' W'' hg hG; have hP := hG.hp; clear hg
              refine ow_step (r_assign rfl) rfl ?_
              refine ow_nil ?_
              refine ew_next ?_
              -- region 22 DRAWS tape.go:155
              refine cw_held (fun w' => HP w w' [(b12, u8s HL, 50), (b11, rowF (fileAt xs i) A9 c9, 26)]) (by kernel_rfl) ?_
              replace hG := hG.drew
              replace hP := hG.hp
              refine hw_take 0 rfl rfl rfl (by kernel_rfl) (by kernel_rfl) (by kernel_rfl) (by repeat (first | with_reducible exact mild_body | with_reducible refine mild_then ?_ | with_reducible refine mild_block ?_)) hG.hp (fun w' hw => r_move rfl) rfl ?_
              refine hw_take 1 rfl rfl rfl (by kernel_rfl) (by kernel_rfl) (by kernel_rfl) (by repeat (first | with_reducible exact mild_body | with_reducible refine mild_then ?_ | with_reducible refine mild_block ?_)) hG.hp (fun w' hw => r_fieldAddr rfl fl26_9) rfl ?_
              refine hw_take 2 rfl rfl rfl (by kernel_rfl) (by kernel_rfl) (by kernel_rfl) (by repeat (first | with_reducible exact mild_body | with_reducible refine mild_then ?_ | with_reducible refine mild_block ?_)) hG.hp (fun w' hw => r_load rfl rfl (hw.cell (i := 1) rfl rfl)) rfl ?_
              refine hw_take 3 rfl rfl rfl (by kernel_rfl) (by kernel_rfl) (by kernel_rfl) (by repeat (first | with_reducible exact mild_body | with_reducible refine mild_then ?_ | with_reducible refine mild_block ?_)) hG.hp (fun w' hw => r_len rfl (by rfl) rfl) rfl ?_
              refine hw_take 5 rfl rfl rfl (by kernel_rfl) (by kernel_rfl) (by kernel_rfl) (by repeat (first | with_reducible exact mild_body | with_reducible refine mild_then ?_ | with_reducible refine mild_block ?_)) hG.hp (fun w' hw => r_fieldAddr rfl fl26_9) rfl ?_
              refine hw_take 6 rfl rfl rfl (by kernel_rfl) (by kernel_rfl) (by kernel_rfl) (by repeat (first | with_reducible exact mild_body | with_reducible refine mild_then ?_ | with_reducible refine mild_block ?_)) hG.hp (fun w' hw => r_load rfl rfl (hw.cell (i := 1) rfl rfl)) rfl ?_
              refine hw_take 7 rfl rfl rfl (by kernel_rfl) (by kernel_rfl) (by kernel_rfl) (by repeat (first | with_reducible exact mild_body | with_reducible refine mild_then ?_ | with_reducible refine mild_block ?_)) hG.hp (fun w' hw => r_len rfl (by rfl) rfl) rfl ?_
              refine hw_one 4 (by kernel_rfl) (nw_of rfl ?_ lets_then)
              refine ow_call en20 rfl (up_calls _ _ (by omega)) rfl ?_
              rintro e W' ⟨rfl, rfl⟩; refine ⟨_, rfl, ?_⟩
              refine ow_nil (ew_held hG.hp ?_)
              refine hw_take 8 rfl rfl rfl (by kernel_rfl) (by kernel_rfl) (by kernel_rfl) (by repeat (first | with_reducible exact mild_body | with_reducible refine mild_then ?_ | with_reducible refine mild_block ?_)) hG.hp (fun w' hw => i_sub rfl rfl (by omega)) rfl ?_
              refine hw_one 9 (by kernel_rfl) (nw_of rfl ?_ lets_then)
              refine ow_appZ (m := padT (fileAt xs i).f9.length - (fileAt xs i).f9.length) hG rfl (by omega) rfl (by rw [List.length_append, List.length_append]; omega) rfl ?_
              clear hP hG; intro v' W'' hg hG; have hP := hG.hp; clear hg
              refine ow_nil (ew_held hG.hp ?_)
              refine hw_take 10 rfl rfl rfl (by kernel_rfl) (by kernel_rfl) (by kernel_rfl) (by repeat (first | with_reducible exact mild_body | with_reducible refine mild_then ?_ | with_reducible refine mild_block ?_)) hG.hp (fun w' hw => r_assign rfl) rfl ?_
              refine hw_done (by kernel_rfl) ?_
              refine ew_block ?_
              refine ew_next ?_
              -- region 23 tape.go:151
              refine cw_region ?_
              refine ow_step (i_add rfl rfl (by omega)) rfl ?_
              refine ow_step (r_move rfl) rfl ?_
              refine ow_nil ?_
              rw [hHL, List.append_assoc, List.append_assoc, ← List.append_assoc (hdL _ _ _ _ _ _ _ _ _ _ _)] at hG
              refine ew_round (α := Nat × Value) (m := (fun u : Nat × Value => xs.length - u.1)) (S := (fun u : Nat × Value => [(41, .slice (some ⟨b, o, none⟩) xs.length c), (42, .int .i64 (xs.length : Int)), (43, .int .i64 ((u.1 : Nat) : Int)), (9, u.2)])) (I := (fun (u : Nat × Value) w' => u.1 ≤ xs.length ∧ Grow w w' [] u.2 (recs (xs.take u.1)).length (u8s (recs (xs.take u.1))) 5 1)) (u := (i, v)) (i + 1, v') ⟨rfl, rfl, rfl, rfl, trivial⟩ ⟨by dsimp only; omega, ?_⟩ (by dsimp only; omega)
              dsimp only
              rw [recs_succ xs i hi']
              exact hG.sub (List.nil_sublist _)
            · -- cond 4 no
              have hc4 := hb4; (try simp only [Bool.and_eq_true, Bool.or_eq_true, Bool.and_eq_false_iff, Bool.or_eq_false_iff, Bool.not_eq_true', Bool.not_eq_false', decide_eq_true_eq, decide_eq_false_iff_not, ne_eq, Decidable.not_not, not_true_eq_false, not_false_eq_true] at hc4)
              obtain rfl : i = xs.length := by omega
              have hrl := recs_length xs hs xs.length (Nat.le_refl _) hok
              rw [List.take_length] at hG hrl
              obtain ⟨e1, e2⟩ := putE0 hno (all_of xs hok)
              rw [e1, e2]
              refine cw_exit ?_
              refine ew_then_exit ?_
              refine ew_then_exit ?_
              refine ew_block_hit ?_
              refine ew_next ?_
              refine cw_seq ?_
              -- region 24 tape.go:157
              refine cw_region ?_
              refine ow_step (r_move rfl) rfl ?_
              refine ow_appZ (m := 1024) hG rfl rfl rfl (by omega) rfl ?_
              clear hP hG; intro v' W'' hg hG; have hP := hG.hp; clear hg
              refine ow_step (r_assign rfl) rfl ?_
              refine ow_step (r_assign rfl) rfl ?_
              refine ow_nil ?_
              refine ew_next ?_
              refine cw_ret ?_
              refine ew_rets (rs := [(Go.ResultVar.tmp 2), (Go.ResultVar.tmp 3)]) rfl (by simp) (.tmp rfl (.tmp rfl (.nil))) ⟨_, rfl, hG⟩
end Go.Proofs.YtlhmbncalonomaaDoor.PrP
