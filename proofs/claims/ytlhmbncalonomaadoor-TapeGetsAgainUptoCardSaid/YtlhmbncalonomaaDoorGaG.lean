/- Own walks and lemmas, those that this claim leans on: PrP, Rnd, Bak, GaL. -/
import Derived.Test.YtlhmbncalonomaaDoorGaC
import Derived.Test.YtlhmbncalonomaaDoorGaD
namespace Go.Proofs.YtlhmbncalonomaaDoor.PrP
open Go.RowKit Go.Proofs.YtlhmbncalonomaaDoor.Q Go.Proofs.YtlhmbncalonomaaDoor.Cpy Go.Proofs.YtlhmbncalonomaaDoor.Hand Go.Proofs.YtlhmbncalonomaaDoor.Arr Go.Proofs.YtlhmbncalonomaaDoor.Sx Go.Proofs.YtlhmbncalonomaaDoor.Head Go.Proofs.YtlhmbncalonomaaDoor.Snd Go.Proofs.YtlhmbncalonomaaDoor.TpB Go.Proofs.YtlhmbncalonomaaDoor.TpH Go.Proofs.YtlhmbncalonomaaDoor.RfH Go.Proofs.YtlhmbncalonomaaDoor.Spc Go.Proofs.YtlhmbncalonomaaDoor.Spd Go.Proofs.YtlhmbncalonomaaDoor.Fil Go.Proofs.YtlhmbncalonomaaDoor.Fil2 Go.Proofs.YtlhmbncalonomaaDoorW.PrintWords Go.Proofs.YtlhmbncalonomaaDoorW.PrintLast Go.Proofs.YtlhmbncalonomaaDoorW.PrintMore
set_option linter.unusedVariables false
set_option linter.unusedSimpArgs false
theorem ow_appA {Q : Exit → Act → World → Prop} {N : Nat} {sl : List (Nat × Value)} {W0 W : World} {ops : Array Oper} {rest : List Oper} {d m g c : Nat} {ty : TypeId} {pos : String} {aft : Array Edge} {x y : Operand} {bs : List (Nat × List Value × Nat)} {v : Value} {L l : List Int}
    (hG : Grow W0 W bs v L.length (u8s L) 5 1) (hx : sv sl x = some v) (hy : sv sl y = some (.slice (some ⟨g, 0, none⟩) m c)) (hl : l.length = m) (hc : ∀ j u, (u8s l)[j]? = some u → W.cell? ⟨g, j, none⟩ = some u) (hb : L.length + m ≤ 140737488355328) (hd : Nat.blt d N = true)
    (h : ∀ v' W', W.grownBy W' v.ownBlock → Grow W0 W' bs v' (L ++ l).length (u8s (L ++ l)) 5 1 → OW Tryd.prog ops Q rest N ((d, v') :: sl) W') : OW Tryd.prog ops Q (⟨some d, .call ⟨.builtin .append, #[x, y], #[24, 24]⟩, ty, pos, aft, none⟩ :: rest) N sl W := by
  subst hl
  refine ow_append hG hx hy Tryd.underlying24 info5s rfl (takes_slice (news := u8s l) Tryd.underlying24 (by rw [u8s_length, Nat.mul_one]) (fun j u hj => by rw [Addr.add_mid, Nat.zero_add]; exact hc j u hj) u8s_one) (by omega) (by omega) hd (fun v' W' hg hG' => h v' W' hg ?_)
  rw [u8s_app] at hG'
  rw [List.length_append]
  exact hG'
theorem en20 : Enters Tryd.prog 20 := fun args w => by kernel_rfl
theorem en21 : Enters Tryd.prog 21 := fun args w => by kernel_rfl
theorem en22 : Enters Tryd.prog 22 := fun args w => by kernel_rfl
set_option maxRecDepth 100000 in
theorem prPut_calls (A : Option Addr) (c : Nat) (xs : List S26) (w : World) (hl : Laid w) (hC : Kd.C k26 w A xs.length xs) (hs : Small xs) :
    Calls Tryd.prog 11 #[.slice A xs.length c] w fun e w' => ∃ v, e = .returned (.tuple #[v, .int .i64 (putE xs)]) ∧ Grow w w' [] v (putB xs).length (u8s (putB xs)) 5 1 := by
  have hP := HP.start w
  have hlen := hs.len
  refine calls_cw Tryd.func11 rfl rfl (by simp) ?_
  refine cw_seq ?_
  -- region 0 tape.go:137
  refine cw_region ?_
  refine ow_step (r_assign rfl) rfl ?_
  refine ow_step (r_assign rfl) rfl ?_
  refine ow_nil ?_
  refine ew_next ?_
  refine cw_seq ?_
  -- region 1 tape.go:138
  refine cw_region ?_
  refine ow_step (r_assign rfl) rfl ?_
  refine ow_nil ?_
  refine ew_next ?_
  refine cw_seq ?_
  refine cw_seq ?_
  -- region 2 tape.go:139
  refine cw_region ?_
  refine ow_step (r_move rfl) rfl ?_
  refine ow_step (r_len rfl (by rfl) rfl) rfl ?_
  refine ow_step (r_move rfl) rfl ?_
  refine ow_nil ?_
  refine ew_next ?_
  refine cw_block ?_
  refine cw_loop (fun i : Nat => xs.length - i) (fun i : Nat => [(0, .slice A xs.length c), (13, .slice A xs.length c), (14, .int .i64 (xs.length : Int)), (15, .int .i64 ((i : Nat) : Int)), (4, .int .i64 ((putN (xs.take i) : Nat) : Int))]) (fun (i : Nat) w' => i ≤ xs.length ∧ putN (xs.take i) ≤ 16777216 ∧ HP w w' []) 0 ⟨rfl, rfl, rfl, rfl, rfl, trivial⟩ ⟨Nat.zero_le _, by simp [putN], hP⟩ ?_
  clear hP; rintro i W ⟨hi, hmx, hP⟩
  · -- round 0
    refine cw_seq ?_
    -- region 3 tape.go:139
    refine cw_region ?_
    refine ow_step (r_lt rfl rfl) rfl ?_
    refine ow_nil ?_
    refine ew_next ?_
    refine cw_seq ?_
    refine cw_cond rfl (fun hb0 => ?_) (fun hb0 => ?_)
    · -- cond 0 yes
      have hc0 := hb0; (try simp only [Bool.and_eq_true, Bool.or_eq_true, Bool.and_eq_false_iff, Bool.or_eq_false_iff, Bool.not_eq_true', Bool.not_eq_false', decide_eq_true_eq, decide_eq_false_iff_not, ne_eq, Decidable.not_not, not_true_eq_false, not_false_eq_true] at hc0)
      have hi' : i < xs.length := by omega
      obtain ⟨b, o, A9, c9, hA, hcells, hc9, hC9⟩ := files_at hC i hi'
      have hsx := hs.at_ _ (fileAt_mem hi')
      have hpd := pad_bd (fileAt xs i).f9.length
      have hbd := putN_bd xs hs i hi
      have hsu := putN_succ xs i hi'
      subst hA
      have hcW : ∀ j u, (rowF (fileAt xs i) A9 c9)[j]? = some u → W.cell? ((⟨b, o + i * 10, none⟩ : Addr).add j) = some u := fun j u hj => by rw [Addr.add_mid]; exact pw_cell_below hP.old (hcells j u hj)
      refine cw_skip ?_
      refine ew_next ?_
      refine cw_seq ?_
      refine cw_block ?_
      refine cw_seq ?_
      -- region 4 tape.go:139
      refine cw_region ?_
      refine ow_step (r_indexSl' (o' := o + i * 10) rfl rfl Tryd.underlying22 size26 ⟨by omega, by omega⟩ (by rw [Int.toNat_natCast])) rfl ?_
      refine ow_step (r_loads (c := rowF (fileAt xs i) A9 c9) rfl Tryd.underlying26 rfl size26 hcW) rfl ?_
      refine ow_var (ws := rowF (fileAt xs i) A9 c9) hP rfl (by kernel_rfl) (by simp [rowF, Value.oneCell']) rfl ?_
      clear hP; intro b6 W hz hg hP; clear hz hg hcW
      refine ow_nil ?_
      refine ew_next ?_
      refine cw_seq ?_
      -- region 5 tape.go:140
      refine cw_region ?_
      refine ow_step (r_move rfl) rfl ?_
      refine ow_step (r_fieldAddr rfl fl26_9) rfl ?_
      refine ow_step (r_load rfl rfl (hP.cell (i := 0) rfl rfl)) rfl ?_
      refine ow_step (r_len rfl (by rfl) rfl) rfl ?_
      refine ow_call en20 rfl (up_calls _ _ (by omega)) rfl ?_
      rintro e W' ⟨rfl, rfl⟩; refine ⟨_, rfl, ?_⟩
      refine ow_step (i_add rfl rfl (by omega)) rfl ?_
      refine ow_step (i_add rfl rfl (by omega)) rfl ?_
      refine ow_step (r_assign rfl) rfl ?_
      refine ow_nil ?_
      refine ew_next ?_
      refine cw_seq ?_
      -- region 6 tape.go:141
      refine cw_region ?_
      refine ow_step (r_move rfl) rfl ?_
      refine ow_step (r_gt rfl rfl) rfl ?_
      refine ow_nil ?_
      refine ew_next ?_
      refine cw_cond rfl (fun hb1 => ?_) (fun hb1 => ?_)
      · -- cond 1 yes
        have hc1 := hb1; (try simp only [Bool.and_eq_true, Bool.or_eq_true, Bool.and_eq_false_iff, Bool.or_eq_false_iff, Bool.not_eq_true', Bool.not_eq_false', decide_eq_true_eq, decide_eq_false_iff_not, ne_eq, Decidable.not_not, not_true_eq_false, not_false_eq_true] at hc1)
        refine cw_seq ?_
        -- region 7 tape.go:142
        refine cw_region ?_
        refine ow_step (r_assign rfl) rfl ?_
        refine ow_step (r_assign rfl) rfl ?_
        refine ow_nil ?_
        refine ew_next ?_
        refine cw_ret ?_
        refine ew_block_ret ?_
        refine ew_then_ret ?_
        refine ew_then_ret ?_
        refine ew_block_ret ?_
        refine ew_then_ret ?_
        have hle := putN_le xs hs (i + 1) (by omega)
        obtain ⟨e1, e2⟩ := putE1 (xs := xs) (by omega)
        rw [e1, e2]
        refine ew_rets (rs := [(Go.ResultVar.tmp 2), (Go.ResultVar.tmp 3)]) rfl (by simp) (.tmp rfl (.tmp rfl (.nil))) ⟨_, rfl, ?_⟩
        exact Grow.start (hP.sub (List.nil_sublist _))
      · -- cond 1 no
        have hc1 := hb1; (try simp only [Bool.and_eq_true, Bool.or_eq_true, Bool.and_eq_false_iff, Bool.or_eq_false_iff, Bool.not_eq_true', Bool.not_eq_false', decide_eq_true_eq, decide_eq_false_iff_not, ne_eq, Decidable.not_not, not_true_eq_false, not_false_eq_true] at hc1)
        refine cw_skip ?_
        refine ew_block ?_
        refine ew_next ?_
        -- region 8 tape.go:139
        refine cw_region ?_
        refine ow_step (i_add rfl rfl (by omega)) rfl ?_
        refine ow_step (r_move rfl) rfl ?_
        refine ow_nil ?_
        refine ew_round (m := (fun i : Nat => xs.length - i)) (S := (fun i : Nat => [(0, .slice (some ⟨b, o, none⟩) xs.length c), (13, .slice (some ⟨b, o, none⟩) xs.length c), (14, .int .i64 (xs.length : Int)), (15, .int .i64 ((i : Nat) : Int)), (4, .int .i64 ((putN (xs.take i) : Nat) : Int))])) (I := (fun (i : Nat) w' => i ≤ xs.length ∧ putN (xs.take i) ≤ 16777216 ∧ HP w w' [])) (u := i) (i + 1) ⟨rfl, rfl, rfl, rfl, ?_, trivial⟩ ⟨by omega, by omega, hP.sub (List.nil_sublist _)⟩ (by omega)
        rw [hsu]
        show some (Value.int .i64 _) = some (Value.int .i64 _)
        congr 2
        all_goals omega
    · -- cond 0 no
      have hc0 := hb0; (try simp only [Bool.and_eq_true, Bool.or_eq_true, Bool.and_eq_false_iff, Bool.or_eq_false_iff, Bool.not_eq_true', Bool.not_eq_false', decide_eq_true_eq, decide_eq_false_iff_not, ne_eq, Decidable.not_not, not_true_eq_false, not_false_eq_true] at hc0)
      obtain rfl : i = xs.length := by omega
      have hbd := putN_bd xs hs xs.length (Nat.le_refl _)
      rw [List.take_length] at hbd hmx
      rw [List.take_length]
      have hno : ¬ 16777216 < putN xs := by omega
      refine cw_exit ?_
      refine ew_then_exit ?_
      refine ew_then_exit ?_
      refine ew_block_hit ?_
      refine ew_next ?_
      refine cw_seq ?_
      refine cw_seq ?_
      -- region 9 tape.go:145
      refine cw_region ?_
      refine ow_step (r_move rfl) rfl ?_
      refine ow_step (r_len rfl (by rfl) rfl) rfl ?_
      refine ow_step (r_move rfl) rfl ?_
      refine ow_nil ?_
      refine ew_next ?_
      refine cw_block ?_
      refine cw_loop (fun i : Nat => xs.length - i) (fun i : Nat => [(0, .slice A xs.length c), (29, .slice A xs.length c), (30, .int .i64 (xs.length : Int)), (31, .int .i64 ((i : Nat) : Int)), (4, .int .i64 ((putN xs : Nat) : Int))]) (fun (i : Nat) w' => i ≤ xs.length ∧ (∀ j, j < i → okS (fileAt xs j) = true) ∧ HP w w' []) 0 ⟨rfl, rfl, rfl, rfl, rfl, trivial⟩ ⟨Nat.zero_le _, fun j hj => absurd hj (Nat.not_lt_zero _), hP⟩ ?_
      clear hP; rintro i W ⟨hi, hok, hP⟩
      · -- round 1
        refine cw_seq ?_
        -- region 10 tape.go:145
        refine cw_region ?_
        refine ow_step (r_lt rfl rfl) rfl ?_
        refine ow_nil ?_
        refine ew_next ?_
        refine cw_seq ?_
        refine cw_cond rfl (fun hb2 => ?_) (fun hb2 => ?_)
        · -- cond 2 yes
          have hc2 := hb2; (try simp only [Bool.and_eq_true, Bool.or_eq_true, Bool.and_eq_false_iff, Bool.or_eq_false_iff, Bool.not_eq_true', Bool.not_eq_false', decide_eq_true_eq, decide_eq_false_iff_not, ne_eq, Decidable.not_not, not_true_eq_false, not_false_eq_true] at hc2)
          have hi' : i < xs.length := by omega
          obtain ⟨b, o, A9, c9, hA, hcells, hc9, hC9⟩ := files_at hC i hi'
          have hsx := hs.at_ _ (fileAt_mem hi')
          have hpd := pad_bd (fileAt xs i).f9.length
          have hbd := putN_bd xs hs i hi
          have hsu := putN_succ xs i hi'
          subst hA
          have hcW : ∀ j u, (rowF (fileAt xs i) A9 c9)[j]? = some u → W.cell? ((⟨b, o + i * 10, none⟩ : Addr).add j) = some u := fun j u hj => by rw [Addr.add_mid]; exact pw_cell_below hP.old (hcells j u hj)
          refine cw_skip ?_
          refine ew_next ?_
          refine cw_seq ?_
          refine cw_block ?_
          refine cw_seq ?_
          -- region 11 tape.go:145
          refine cw_region ?_
          refine ow_step (r_indexSl' (o' := o + i * 10) rfl rfl Tryd.underlying22 size26 ⟨by omega, by omega⟩ (by rw [Int.toNat_natCast])) rfl ?_
          refine ow_step (r_loads (c := rowF (fileAt xs i) A9 c9) rfl Tryd.underlying26 rfl size26 hcW) rfl ?_
          refine ow_var (ws := rowF (fileAt xs i) A9 c9) hP rfl (by kernel_rfl) (by simp [rowF, Value.oneCell']) rfl ?_
          clear hP; intro b8 W hz hg hP; clear hz hg hcW
          refine ow_nil ?_
          refine ew_next ?_
          refine cw_seq ?_
          -- region 12 tape.go:146
          refine cw_region ?_
          refine ow_step (r_loads (c := rowF (fileAt xs i) A9 c9) rfl Tryd.underlying26 rfl size26 (hP.cells (i := 0) (o := 0) rfl (fun j u hj => by rw [Nat.zero_add]; exact hj))) rfl ?_
          refine ow_call en21 rfl (sound_calls ((fileAt xs i).f0.size + 2) (fileAt xs i).f0 (fileAt xs i).f1 (fileAt xs i).f2 (fileAt xs i).f3 (fileAt xs i).f4 (fileAt xs i).f5 (fileAt xs i).f6 (fileAt xs i).f7 (fileAt xs i).f8 A9 (fileAt xs i).f9.length c9 _ _ _ _ _ (cuts (fileAt xs i).f0 (by omega)).1 (suffix_eq (fileAt xs i).f0 (by omega)) (by omega) (by omega)) rfl ?_
          rintro e W ⟨rfl, hb⟩; replace hP := hP.below hb; clear hb; refine ⟨_, rfl, ?_⟩
          refine ow_step (r_not rfl) rfl ?_
          refine ow_nil ?_
          refine ew_next ?_
          refine cw_cond rfl (fun hb3 => ?_) (fun hb3 => ?_)
          · -- cond 3 yes
            have hc3 := hb3; (try simp only [Bool.and_eq_true, Bool.or_eq_true, Bool.and_eq_false_iff, Bool.or_eq_false_iff, Bool.not_eq_true', Bool.not_eq_false', decide_eq_true_eq, decide_eq_false_iff_not, ne_eq, Decidable.not_not, not_true_eq_false, not_false_eq_true] at hc3)
            refine cw_seq ?_
            -- region 13 tape.go:147
            refine cw_region ?_
            refine ow_step (r_assign rfl) rfl ?_
            refine ow_step (r_assign rfl) rfl ?_
            refine ow_nil ?_
            refine ew_next ?_
            refine cw_ret ?_
            refine ew_block_ret ?_
            refine ew_then_ret ?_
            refine ew_then_ret ?_
            refine ew_block_ret ?_
            refine ew_then_ret ?_
            have hc3' : okS (fileAt xs i) = false := hc3
            obtain ⟨e1, e2⟩ := putE2 hno (not_all xs i hi' hc3')
            rw [e1, e2]
            refine ew_rets (rs := [(Go.ResultVar.tmp 2), (Go.ResultVar.tmp 3)]) rfl (by simp) (.tmp rfl (.tmp rfl (.nil))) ⟨_, rfl, ?_⟩
            exact Grow.start (hP.sub (List.nil_sublist _))
          · -- cond 3 no
            have hc3 := hb3; (try simp only [Bool.and_eq_true, Bool.or_eq_true, Bool.and_eq_false_iff, Bool.or_eq_false_iff, Bool.not_eq_true', Bool.not_eq_false', decide_eq_true_eq, decide_eq_false_iff_not, ne_eq, Decidable.not_not, not_true_eq_false, not_false_eq_true] at hc3)
            refine cw_skip ?_
            refine ew_block ?_
            refine ew_next ?_
            -- region 14 tape.go:145
            refine cw_region ?_
            refine ow_step (i_add rfl rfl (by omega)) rfl ?_
            refine ow_step (r_move rfl) rfl ?_
            refine ow_nil ?_
            refine ew_round (m := (fun i : Nat => xs.length - i)) (S := (fun i : Nat => [(0, .slice (some ⟨b, o, none⟩) xs.length c), (29, .slice (some ⟨b, o, none⟩) xs.length c), (30, .int .i64 (xs.length : Int)), (31, .int .i64 ((i : Nat) : Int)), (4, .int .i64 ((putN xs : Nat) : Int))])) (I := (fun (i : Nat) w' => i ≤ xs.length ∧ (∀ j, j < i → okS (fileAt xs j) = true) ∧ HP w w' [])) (u := i) (i + 1) ⟨rfl, rfl, rfl, rfl, rfl, trivial⟩ ⟨by omega, fun j hj => ?_, hP.sub (List.nil_sublist _)⟩ (by omega)
            rcases Nat.lt_or_ge j i with h | h
            · exact hok j h
            · obtain rfl : j = i := by omega
              exact hc3
        · -- cond 2 no
          have hc2 := hb2; (try simp only [Bool.and_eq_true, Bool.or_eq_true, Bool.and_eq_false_iff, Bool.or_eq_false_iff, Bool.not_eq_true', Bool.not_eq_false', decide_eq_true_eq, decide_eq_false_iff_not, ne_eq, Decidable.not_not, not_true_eq_false, not_false_eq_true] at hc2)
          obtain rfl : i = xs.length := by omega
          refine cw_exit ?_
          refine ew_then_exit ?_
          refine ew_then_exit ?_
          refine ew_block_hit ?_
          refine ew_next ?_
          refine cw_seq ?_
          -- region 15 tape.go:150
          refine cw_region ?_
          refine ow_step (r_move rfl) rfl ?_
          refine ow_make1 (N := 0) (M := putN xs) (z := .int .u8 0) (m := 1) hP rfl rfl Tryd.underlying24 info5s rfl ⟨by omega, by omega, by omega, by omega⟩ rfl (Int.toNat_natCast _) rfl ?_
          clear hP; intro g W hz hg hP
          have hG : Grow w W [] (.slice (some ⟨g, 0, none⟩) 0 (putN xs)) ([] : List Int).length (u8s []) 5 1 := .inr ⟨g, _, List.replicate (putN xs) (.int .u8 0), rfl, Nat.zero_le _, rfl, by simp, hP⟩
          clear hP hz hg; have hP := hG.hp
          refine ow_step (r_assign rfl) rfl ?_
          refine ow_nil ?_
          refine ew_next ?_
          refine cw_seq ?_
          refine cw_seq ?_
          -- region 16 tape.go:151
          refine cw_region ?_
          refine ow_step (r_move rfl) rfl ?_
          refine ow_step (r_len rfl (by rfl) rfl) rfl ?_
          refine ow_step (r_move rfl) rfl ?_
          refine ow_nil ?_
          refine ew_next ?_
          refine cw_block ?_
          refine cw_loop (α := Nat × Value) (fun u : Nat × Value => xs.length - u.1) (fun u : Nat × Value => [(41, .slice A xs.length c), (42, .int .i64 (xs.length : Int)), (43, .int .i64 ((u.1 : Nat) : Int)), (9, u.2)]) (fun (u : Nat × Value) w' => u.1 ≤ xs.length ∧ Grow w w' [] u.2 (recs (xs.take u.1)).length (u8s (recs (xs.take u.1))) 5 1) (0, .slice (some ⟨g, 0, none⟩) 0 (putN xs)) ⟨rfl, rfl, rfl, rfl, trivial⟩ ⟨Nat.zero_le _, hG⟩ ?_
          clear hP hG; rintro ⟨i, v⟩ W ⟨hi, hG⟩; dsimp only at hi hG ⊢; have hP := hG.hp
          · -- round 2
            refine cw_seq ?_
            -- region 17 tape.go:151
            refine cw_region ?_
            refine ow_step (r_lt rfl rfl) rfl ?_
            refine ow_nil ?_
            refine ew_next ?_
            refine cw_seq ?_
            refine cw_cond rfl (fun hb4 => ?_) (fun hb4 => ?_)
            · -- cond 4 yes
              have hc4 := hb4; (try simp only [Bool.and_eq_true, Bool.or_eq_true, Bool.and_eq_false_iff, Bool.or_eq_false_iff, Bool.not_eq_true', Bool.not_eq_false', decide_eq_true_eq, decide_eq_false_iff_not, ne_eq, Decidable.not_not, not_true_eq_false, not_false_eq_true] at hc4)
              have hi' : i < xs.length := by omega
              obtain ⟨b, o, A9, c9, hA, hcells, hc9, hC9⟩ := files_at hC i hi'
              have hsx := hs.at_ _ (fileAt_mem hi')
              have hpd := pad_bd (fileAt xs i).f9.length
              have hbd := putN_bd xs hs i hi
              have hsu := putN_succ xs i hi'
              subst hA
              have hcW : ∀ j u, (rowF (fileAt xs i) A9 c9)[j]? = some u → W.cell? ((⟨b, o + i * 10, none⟩ : Addr).add j) = some u := fun j u hj => by rw [Addr.add_mid]; exact pw_cell_below hP.old (hcells j u hj)
              have hle := putN_le xs hs i hi
              have hrl := recs_length xs hs i hi (fun j hj => hok j (by omega))
              have hct := cuts (fileAt xs i).f0 (by omega)
              obtain ⟨k1, k2, k3, k4, k5, k6, k7, k8, k9, k10, k11⟩ := okS_facts (fileAt xs i) (by omega) (hok i hi')
              obtain ⟨HL, hHL⟩ : ∃ z, z = hdL (cutP (fileAt xs i).f0).1 (cutP (fileAt xs i).f0).2.1 (fileAt xs i).f1 (fileAt xs i).f2 (fileAt xs i).f3 (fileAt xs i).f4 (fileAt xs i).f5 (fileAt xs i).f6 (fileAt xs i).f7 (fileAt xs i).f9.length (fileAt xs i).f8 := ⟨_, rfl⟩
              have hHl : HL.length = 512 := by rw [hHL]; exact fsH_length _ _ _ _ _ _ _ _ _ _ _ _ k2 k3 k4 k5 k6 (by simp [digs_length])
              have hhead : ∀ W, Laid W → Calls Tryd.prog 22 #[.agg (rowF (fileAt xs i) A9 c9).toArray] W fun e w' => e = .returned (.agg (u8s HL).toArray) ∧ Below W.heap.size W w' := fun W hl => (head_calls ((fileAt xs i).f0.size + 2) (fileAt xs i).f0 (fileAt xs i).f1 (fileAt xs i).f2 (fileAt xs i).f3 (fileAt xs i).f4 (fileAt xs i).f5 (fileAt xs i).f6 (fileAt xs i).f7 (fileAt xs i).f8 A9 c9 (fileAt xs i).f9 (cutP (fileAt xs i).f0).1 (cutP (fileAt xs i).f0).2.1 (cutP (fileAt xs i).f0).2.2 W hl hct.1 k2 k3 k4 k5 k6 k7 k8 k9 k10 k11 (by omega)).mono (fun e w' ⟨he, hb⟩ => ⟨by rw [he, head_flat _ _ _ _ _ _ _ _ _ _ _ k2 k3 k4 k5 k6, hHL], hb⟩)
              refine cw_skip ?_
              refine ew_next ?_
              refine cw_seq ?_
              refine cw_block ?_
              refine cw_seq ?_
              -- region 18 tape.go:151
              refine cw_region ?_
              refine ow_step (r_indexSl' (o' := o + i * 10) rfl rfl Tryd.underlying22 size26 ⟨by omega, by omega⟩ (by rw [Int.toNat_natCast])) rfl ?_
              refine ow_step (r_loads (c := rowF (fileAt xs i) A9 c9) rfl Tryd.underlying26 rfl size26 hcW) rfl ?_
              refine ow_var (ws := rowF (fileAt xs i) A9 c9) hP rfl (by kernel_rfl) (by simp [rowF, Value.oneCell']) rfl ?_
              intro b11 W' hz hg hP'; clear hP; replace hG := hG.var hz hg (hP'.blk (i := 0) rfl); clear hP' hz hg; have hP := hG.hp
              refine ow_nil ?_
              refine ew_next ?_
              refine cw_seq ?_
              -- region 19 tape.go:152
              refine cw_region ?_
              refine ow_step (r_loads (c := rowF (fileAt xs i) A9 c9) rfl Tryd.underlying26 rfl size26 (hP.cells (i := 0) (o := 0) rfl (fun j u hj => by rw [Nat.zero_add]; exact hj))) rfl ?_
              refine ow_call en22 rfl (hhead _ (hl.below hP.old)) rfl ?_
              rintro e W ⟨rfl, hb⟩; replace hG := hG.below hb; clear hb hP hcW; have hP := hG.hp; refine ⟨_, rfl, ?_⟩
              refine ow_var (ws := u8s HL) hP rfl (by rw [u8s_length, hHl]; kernel_rfl) u8s_one rfl ?_
              intro b12 W' hz hg hP'; clear hP; replace hG := hG.var hz hg (hP'.blk (i := 0) rfl); clear hP' hz hg; have hP := hG.hp
              refine ow_nil ?_
              refine ew_next ?_
              refine cw_seq ?_
              -- region 20 tape.go:153
              refine cw_region ?_
              refine ow_step (r_move rfl) rfl ?_
              refine ow_step (r_sliceArr rfl Tryd.underlying50 size5) rfl ?_
              refine ow_appA (l := HL) hG rfl rfl hHl (fun j u hj => hP.cell (i := 0) rfl hj) (by omega) rfl ?_
              clear hP hG; intro v' W'' hg hG; have hP := hG.hp; clear hg
              refine ow_step (r_assign rfl) rfl ?_
              refine ow_nil ?_
              refine ew_next ?_
              refine cw_seq ?_
              -- region 21 tape.go:154
              refine cw_region ?_
              refine ow_step (r_move rfl) rfl ?_
              refine ow_step (r_fieldAddr rfl fl26_9) rfl ?_
              refine ow_step (r_load rfl rfl (hP.cell (i := 1) rfl rfl)) rfl ?_
              refine ow_appB hG (Kd.C_below hC9 hP.old) rfl rfl (by rw [List.length_append]; omega) rfl ?_
              clear hP hG; intro v' W'' hg hG; have hP := hG.hp; clear hg
              refine ow_step (r_assign rfl) rfl ?_
              refine ow_nil ?_
              refine ew_next ?_
              -- region 22 DRAWS tape.go:155
              refine cw_held (fun w' => HP w w' [(b12, u8s HL, 50), (b11, rowF (fileAt xs i) A9 c9, 26)]) (by kernel_rfl) ?_
              replace hG := hG.drew
              replace hP := hG.hp
              refine hw_take 0 rfl rfl rfl (by kernel_rfl) (by kernel_rfl) (by kernel_rfl) (by repeat (first | with_reducible exact mild_body | with_reducible refine mild_then ?_ | with_reducible refine mild_block ?_)) hG.hp (fun w' hw => r_move rfl) rfl ?_
              refine hw_take 1 rfl rfl rfl (by kernel_rfl) (by kernel_rfl) (by kernel_rfl) (by repeat (first | with_reducible exact mild_body | with_reducible refine mild_then ?_ | with_reducible refine mild_block ?_)) hG.hp (fun w' hw => r_fieldAddr rfl fl26_9) rfl ?_
              refine hw_take 2 rfl rfl rfl (by kernel_rfl) (by kernel_rfl) (by kernel_rfl) (by repeat (first | with_reducible exact mild_body | with_reducible refine mild_then ?_ | with_reducible refine mild_block ?_)) hG.hp (fun w' hw => r_load rfl rfl (hw.cell (i := 1) rfl rfl)) rfl ?_
              refine hw_take 3 rfl rfl rfl (by kernel_rfl) (by kernel_rfl) (by kernel_rfl) (by repeat (first | with_reducible exact mild_body | with_reducible refine mild_then ?_ | with_reducible refine mild_block ?_)) hG.hp (fun w' hw => r_len rfl (by rfl) rfl) rfl ?_
              refine hw_take 5 rfl rfl rfl (by kernel_rfl) (by kernel_rfl) (by kernel_rfl) (by repeat (first | with_reducible exact mild_body | with_reducible refine mild_then ?_ | with_reducible refine mild_block ?_)) hG.hp (fun w' hw => r_fieldAddr rfl fl26_9) rfl ?_
              refine hw_take 6 rfl rfl rfl (by kernel_rfl) (by kernel_rfl) (by kernel_rfl) (by repeat (first | with_reducible exact mild_body | with_reducible refine mild_then ?_ | with_reducible refine mild_block ?_)) hG.hp (fun w' hw => r_load rfl rfl (hw.cell (i := 1) rfl rfl)) rfl ?_
              refine hw_take 7 rfl rfl rfl (by kernel_rfl) (by kernel_rfl) (by kernel_rfl) (by repeat (first | with_reducible exact mild_body | with_reducible refine mild_then ?_ | with_reducible refine mild_block ?_)) hG.hp (fun w' hw => r_len rfl (by rfl) rfl) rfl ?_
              refine hw_one 4 (by kernel_rfl) (nw_of rfl ?_ lets_then)
              refine ow_call en20 rfl (up_calls _ _ (by omega)) rfl ?_
              rintro e W' ⟨rfl, rfl⟩; refine ⟨_, rfl, ?_⟩
              refine ow_nil (ew_held hG.hp ?_)
              refine hw_take 8 rfl rfl rfl (by kernel_rfl) (by kernel_rfl) (by kernel_rfl) (by repeat (first | with_reducible exact mild_body | with_reducible refine mild_then ?_ | with_reducible refine mild_block ?_)) hG.hp (fun w' hw => i_sub rfl rfl (by omega)) rfl ?_
              refine hw_one 9 (by kernel_rfl) (nw_of rfl ?_ lets_then)
              refine ow_appZ (m := padT (fileAt xs i).f9.length - (fileAt xs i).f9.length) hG rfl (by omega) rfl (by rw [List.length_append, List.length_append]; omega) rfl ?_
              clear hP hG; intro v' W'' hg hG; have hP := hG.hp; clear hg
              refine ow_nil (ew_held hG.hp ?_)
              refine hw_take 10 rfl rfl rfl (by kernel_rfl) (by kernel_rfl) (by kernel_rfl) (by repeat (first | with_reducible exact mild_body | with_reducible refine mild_then ?_ | with_reducible refine mild_block ?_)) hG.hp (fun w' hw => r_assign rfl) rfl ?_
              refine hw_done (by kernel_rfl) ?_
              refine ew_block ?_
              refine ew_next ?_
              -- region 23 tape.go:151
              refine cw_region ?_
              refine ow_step (i_add rfl rfl (by omega)) rfl ?_
              refine ow_step (r_move rfl) rfl ?_
              refine ow_nil ?_
              rw [hHL, List.append_assoc, List.append_assoc, ← List.append_assoc (hdL _ _ _ _ _ _ _ _ _ _ _)] at hG
              refine ew_round (α := Nat × Value) (m := (fun u : Nat × Value => xs.length - u.1)) (S := (fun u : Nat × Value => [(41, .slice (some ⟨b, o, none⟩) xs.length c), (42, .int .i64 (xs.length : Int)), (43, .int .i64 ((u.1 : Nat) : Int)), (9, u.2)])) (I := (fun (u : Nat × Value) w' => u.1 ≤ xs.length ∧ Grow w w' [] u.2 (recs (xs.take u.1)).length (u8s (recs (xs.take u.1))) 5 1)) (u := (i, v)) (i + 1, v') ⟨rfl, rfl, rfl, rfl, trivial⟩ ⟨by dsimp only; omega, ?_⟩ (by dsimp only; omega)
              dsimp only
              rw [recs_succ xs i hi']
              exact hG.sub (List.nil_sublist _)
            · -- cond 4 no
              have hc4 := hb4; (try simp only [Bool.and_eq_true, Bool.or_eq_true, Bool.and_eq_false_iff, Bool.or_eq_false_iff, Bool.not_eq_true', Bool.not_eq_false', decide_eq_true_eq, decide_eq_false_iff_not, ne_eq, Decidable.not_not, not_true_eq_false, not_false_eq_true] at hc4)
              obtain rfl : i = xs.length := by omega
              have hrl := recs_length xs hs xs.length (Nat.le_refl _) hok
              rw [List.take_length] at hG hrl
              obtain ⟨e1, e2⟩ := putE0 hno (all_of xs hok)
              rw [e1, e2]
              refine cw_exit ?_
              refine ew_then_exit ?_
              refine ew_then_exit ?_
              refine ew_block_hit ?_
              refine ew_next ?_
              refine cw_seq ?_
              -- region 24 tape.go:157
              refine cw_region ?_
              refine ow_step (r_move rfl) rfl ?_
              refine ow_appZ (m := 1024) hG rfl rfl rfl (by omega) rfl ?_
              clear hP hG; intro v' W'' hg hG; have hP := hG.hp; clear hg
              refine ow_step (r_assign rfl) rfl ?_
              refine ow_step (r_assign rfl) rfl ?_
              refine ow_nil ?_
              refine ew_next ?_
              refine cw_ret ?_
              refine ew_rets (rs := [(Go.ResultVar.tmp 2), (Go.ResultVar.tmp 3)]) rfl (by simp) (.tmp rfl (.tmp rfl (.nil))) ⟨_, rfl, hG⟩
end Go.Proofs.YtlhmbncalonomaaDoor.PrP
namespace Go.Proofs.YtlhmbncalonomaaDoor.Rnd
open Go.RowKit Go.Proofs.YtlhmbncalonomaaDoor.Q Go.Proofs.YtlhmbncalonomaaDoor.Cpy Go.Proofs.YtlhmbncalonomaaDoor.Hand Go.Proofs.YtlhmbncalonomaaDoor.Arr Go.Proofs.YtlhmbncalonomaaDoor.Sx Go.Proofs.YtlhmbncalonomaaDoor.Head Go.Proofs.YtlhmbncalonomaaDoor.Snd Go.Proofs.YtlhmbncalonomaaDoor.TpB Go.Proofs.YtlhmbncalonomaaDoor.TpH Go.Proofs.YtlhmbncalonomaaDoor.RfH Go.Proofs.YtlhmbncalonomaaDoor.Spc Go.Proofs.YtlhmbncalonomaaDoor.Spd Go.Proofs.YtlhmbncalonomaaDoor.Fil Go.Proofs.YtlhmbncalonomaaDoor.Fil2 Go.Proofs.YtlhmbncalonomaaDoor.Twn Go.Proofs.YtlhmbncalonomaaDoor.Alk Go.Proofs.YtlhmbncalonomaaDoor.Nm Go.Proofs.YtlhmbncalonomaaDoor.Txt Go.Proofs.YtlhmbncalonomaaDoor.Tld Go.Proofs.YtlhmbncalonomaaDoor.RfF Go.Proofs.YtlhmbncalonomaaDoor.GtP Go.Proofs.YtlhmbncalonomaaDoorW.PrintWords Go.Proofs.YtlhmbncalonomaaDoorW.PrintLast Go.Proofs.YtlhmbncalonomaaDoorW.PrintMore
set_option linter.unusedVariables false
set_option linter.unusedSimpArgs false
theorem sub_flat : ∀ (fs : List (Nat × List Int)) (j n : Nat) (l : List Int), okF fs → fs[j]? = some (n, l) → sub (flat fs) (offs fs j) n = fldL n l
  | [], j, n, l, _, h => by simp at h
  | p :: r, 0, n, l, ho, h => by
    simp at h; subst h
    have hl : (fldL n l).length = n := fldL_length (ho (n, l) List.mem_cons_self)
    show sub (fldL n l ++ flat r) 0 n = _
    unfold sub
    rw [List.drop_zero, List.take_append_of_le_length (by omega), List.take_of_length_le (by omega)]
  | p :: r, j + 1, n, l, ho, h => by
    have hl := fldL_length (ho p List.mem_cons_self)
    have ih := sub_flat r j n l (fun q hq => ho q (List.mem_cons_of_mem _ hq)) (by simpa using h)
    rw [← ih]
    show sub (fldL p.1 p.2 ++ flat r) (offs (p :: r) (j + 1)) n = _
    have e : offs (p :: r) (j + 1) = p.1 + offs r j := by simp [offs]
    have e2 : (fldL p.1 p.2 ++ flat r).drop p.1 = flat r := List.drop_left' hl
    unfold sub
    rw [e, ← List.drop_drop, e2]
theorem flat_range : ∀ (fs : List (Nat × List Int)), (∀ p ∈ fs, ∀ x ∈ p.2, 0 ≤ x ∧ x ≤ 255) → ∀ x ∈ flat fs, 0 ≤ x ∧ x ≤ 255
  | [], _, x, hx => by simp [flat] at hx
  | p :: r, h, x, hx => by
    rcases List.mem_append.1 (show x ∈ fldL p.1 p.2 ++ flat r from hx) with hx | hx
    · rcases List.mem_append.1 (show x ∈ p.2 ++ List.replicate _ 0 from hx) with hx | hx
      · exact h p List.mem_cons_self x hx
      · rw [(List.mem_replicate.1 hx).2]; decide
    · exact flat_range r (fun q hq => h q (List.mem_cons_of_mem _ hq)) x hx
theorem dg_digs : ∀ (m : Nat) (x a : Int) (R : List Int), 0 ≤ x → x < 8 ^ m → 0 ≤ a → (a + 1) * 8 ^ m ≤ 68719476736 → dg (digs m x ++ R) a = dg R (a * 8 ^ m + x)
  | 0, x, a, R, h0, h1, ha, hb => by
    have : x = 0 := by simp at h1; omega
    subst this
    simp [digs]
  | m + 1, x, a, R, h0, h1, ha, hb => by
    rw [Int.pow_succ] at h1 hb
    have hp : (0 : Int) < 8 ^ m := Int.pow_pos (by decide)
    have h2 : x / 8 < 8 ^ m := by omega
    have h3 : (a + 1) * (8 ^ m * 8) = ((a + 1) * 8 ^ m) * 8 := by rw [Int.mul_assoc]
    rw [h3] at hb
    have h4 : 0 ≤ (a + 1) * 8 ^ m := Int.mul_nonneg (by omega) (by omega)
    have ih := dg_digs m (x / 8) a ([48 + x % 8] ++ R) (by omega) h2 ha (by omega)
    show dg ((digs m (x / 8) ++ [48 + x % 8]) ++ R) a = _
    rw [List.append_assoc, ih]
    show dg ((48 + x % 8) :: R) _ = _
    simp only [dg]
    have h5 : 0 ≤ a * 8 ^ m := Int.mul_nonneg ha (by omega)
    have h6 : (a + 1) * 8 ^ m = a * 8 ^ m + 8 ^ m := by rw [Int.add_mul, Int.one_mul]
    rw [if_neg (by omega), if_neg (by omega)]
    congr 1
    unfold stp
    have h7 : a * (8 ^ m * 8) = (a * 8 ^ m) * 8 := by rw [Int.mul_assoc]
    rw [Int.pow_succ, h7]
    generalize a * 8 ^ m = q at *
    rw [w64 (n := 8 * (q + x / 8)) (by omega), show (48 + x % 8 - 48) % 256 = x % 8 by omega, w64 (by omega)]
    omega
theorem digs_oct (m : Nat) (x : Int) : ∀ d ∈ digs m x, 48 ≤ d ∧ d ≤ 55 := by
  induction m generalizing x with
  | zero => intro d hd; simp [digs] at hd
  | succ m ih =>
    intro d hd
    rcases List.mem_append.1 (show d ∈ digs m (x / 8) ++ [48 + x % 8] from hd) with hd | hd
    · exact ih _ d hd
    · rw [List.mem_singleton] at hd; omega
theorem lst_all : ∀ {M : List Int}, M ≠ [] → (∀ d ∈ M, blk d = false) → Lst M
  | [], h, _ => absurd rfl h
  | x :: R, _, h => by
    unfold Lst
    by_cases hR : R = []
    · rw [if_pos hR]; exact h x List.mem_cons_self
    · rw [if_neg hR]; exact lst_all hR (fun d hd => h d (List.mem_cons_of_mem _ hd))
theorem num_digs (m : Nat) (x : Int) (B : List Int) (hm : 0 < m) (hm2 : m ≤ 11) (h0 : 0 ≤ x) (h1 : x < 8 ^ m) (hB : B.all blk = true) (hne : B ≠ []) : num (digs m x ++ B) = (x, true) := by
  have hl := digs_length m x
  have hM : digs m x ≠ [] := fun h => by rw [h] at hl; simp at hl; omega
  have ho := digs_oct m x
  have hb : (1 : Int) * 8 ^ m ≤ 8 ^ 11 := by
    have := Nat.pow_le_pow_right (n := 8) (by decide) hm2
    rw [Int.one_mul]
    exact_mod_cast this
  rw [num_sp hB hne _ (.inr (lst_all hM (fun d hd => by have := ho d hd; simp [blk]; omega)))]
  obtain ⟨d, R, e⟩ := List.exists_cons_of_ne_nil hM
  have hd := ho d (by rw [e]; exact List.mem_cons_self)
  have hs : sp (digs m x) = dg (digs m x) 0 := by rw [e]; simp only [sp]; rw [if_neg (by omega)]
  have := dg_digs m x 0 [] h0 h1 (Int.le_refl _) (by rw [Int.zero_add]; omega)
  rw [List.append_nil, Int.zero_mul, Int.zero_add] at this
  rw [hs, this]
  rfl
theorem wd_fld : ∀ (l : List Int) (n : Nat), (∀ x ∈ l, x ≠ 0) → wd (l ++ List.replicate n 0) = l ∧ dz (l ++ List.replicate n 0) = List.replicate n 0
  | [], n, _ => by
    cases n with
    | zero => exact ⟨rfl, rfl⟩
    | succ n => rw [List.nil_append, List.replicate_succ, wd_cons, dz_cons, if_pos rfl, if_pos rfl]; exact ⟨rfl, rfl⟩
  | x :: r, n, h => by
    have ih := wd_fld r n (fun y hy => h y (List.mem_cons_of_mem _ hy))
    have hx := h x List.mem_cons_self
    rw [List.cons_append, wd_cons, dz_cons, if_neg hx, if_neg hx, ih.1, ih.2]
    exact ⟨rfl, rfl⟩
theorem bn_ne0 {s : ByteArray} (h : z0 s = false) : ∀ x ∈ bn s, x ≠ 0 := fun x hx => by
  unfold bn at hx
  obtain ⟨b, hb, rfl⟩ := List.mem_map.1 hx
  unfold z0 at h
  have := (List.any_eq_false.1 h) b hb
  intro hc
  apply this
  have : b.toNat = 0 := by exact_mod_cast hc
  have : b = 0 := UInt8.toNat_inj.1 (by rw [this]; rfl)
  simp [this]
theorem tx_of {L : List Int} {a n : Nat} {s : ByteArray} (hs : sub L a n = fldL n (bn s)) (hz : z0 s = false) : txS L a n = s ∧ wd (sub L a n) = bn s ∧ wz (sub L a n) = true := by
  have h := wd_fld (bn s) (n - (bn s).length) (bn_ne0 hz)
  have e : wd (sub L a n) = bn s := by rw [hs]; exact h.1
  refine ⟨by unfold txS; rw [e, str_bn], e, ?_⟩
  rw [wz_dz, hs]
  show (dz (bn s ++ List.replicate _ 0)).all _ = true
  rw [h.2]
  rw [List.all_eq_true]
  intro x hx
  rw [(List.mem_replicate.1 hx).2]; rfl
theorem txO_of {L : List Int} {a n : Nat} {s : ByteArray} {b : Bool} (hs : sub L a n = fldL n (bn s)) (hz : z0 s = false) (hb : b = true ∨ s.size < n) (hle : s.size ≤ n) : txO L a n b = true := by
  obtain ⟨_, h1, h2⟩ := tx_of hs hz
  have hl : (sub L a n).length = n := by rw [hs]; exact fldL_length (by rw [bn_length]; exact hle)
  unfold txO
  rw [h1, h2, hl, bn_length]
  rcases hb with rfl | hb
  · rfl
  · rw [decide_eq_true hb]; simp
theorem ext_join (s : ByteArray) (i : Nat) (hi : i < s.size) (h : bt s (i : Int) = 47) : (s.extract 0 i ++ ⟨#[47]⟩) ++ s.extract (i + 1) s.size = s := by
  have hl : (bn s).length = s.size := bn_length s
  rw [← str_bn ((s.extract 0 i ++ ⟨#[47]⟩) ++ s.extract (i + 1) s.size)]
  conv => rhs; rw [← str_bn s]
  congr 1
  have e1 := bn_ext s 0 i
  have e2 := bn_ext s (i + 1) (s.size - (i + 1))
  rw [Nat.zero_add] at e1
  rw [show i + 1 + (s.size - (i + 1)) = s.size by omega] at e2
  rw [bn_app, bn_app, e1, e2, show bn ⟨#[47]⟩ = [47] by decide]
  unfold sub
  rw [List.drop_zero, List.take_of_length_le (l := (bn s).drop (i + 1)) (by rw [List.length_drop]; omega)]
  have hg : (bn s)[i]'(by omega) = 47 := by
    rw [bt_bn s i hi, List.getD_eq_getElem?_getD, List.getElem?_eq_getElem (by omega)] at h
    exact h
  rw [List.append_assoc, ← hg, List.singleton_append, ← List.drop_eq_getElem_cons, List.take_append_drop]
theorem cut_join (s : ByteArray) (hs : s.size ≤ 1048576) : ∀ (d i k : Nat), 1 ≤ i → s.size - i ≤ d → d < k → ∃ p r ok, tape_cut.l0 k s (i : Int) = some (p, r, ok) ∧ (ok = true → 1 ≤ p.size ∧ (p ++ ⟨#[47]⟩) ++ r = s)
  | d, i, 0, _, _, hk => by omega
  | d, i, k + 1, h1, hd, hk => by
    simp only [tape_cut.l0]
    by_cases hlt : (i : Int) < (s.size : Int)
    · have e1 : wrap64 ((i : Int) + 1) = ((i + 1 : Nat) : Int) := by rw [w64 (by omega)]; rfl
      have e2 : wrap64 ((wrap64 ((s.size : Int) - (i : Int))) - 1) = (s.size : Int) - i - 1 := by rw [w64 (n := (s.size : Int) - i) (by omega), w64 (by omega)]
      obtain ⟨p, r, ok, g1, g3⟩ := cut_join s hs (d - 1) (i + 1) k (by omega) (by omega) (by omega)
      rw [if_pos hlt, if_pos (show (0 : Int) ≤ i by omega), e1, e2]
      by_cases h47 : bt s (i : Int) = 47
      · rw [if_pos h47]
        by_cases h100 : (s.size : Int) - i - 1 ≤ 100
        · rw [if_pos h100, if_pos (show (i : Int) ≤ (s.size : Int) by omega), if_pos (show (0 : Int) ≤ ((i + 1 : Nat) : Int) by omega), if_pos (show ((i + 1 : Nat) : Int) ≤ (s.size : Int) by omega)]
          have hj := ext_join s i (by omega) h47
          have hz : (s.extract 0 i).size = i := by rw [ext_size _ _ _ (by omega) (by omega)]; omega
          by_cases h155 : (i : Int) ≤ 155
          · rw [if_pos h155]
            exact ⟨_, _, _, rfl, fun _ => ⟨by show 1 ≤ (s.extract 0 i).size; omega, hj⟩⟩
          · rw [if_neg h155]
            exact ⟨_, _, _, rfl, fun h => by cases h⟩
        · rw [if_neg h100]
          exact ⟨p, r, ok, g1, g3⟩
      · rw [if_neg h47]
        exact ⟨p, r, ok, g1, g3⟩
    · rw [if_neg hlt]
      exact ⟨_, _, false, rfl, fun h => by cases h⟩
theorem cutP_join (s : ByteArray) (hs : s.size ≤ 1048576) (h : (cutP s).2.2 = true) : (if isE (cutP s).1 = true then (cutP s).2.1 else ((cutP s).1 ++ ⟨#[47]⟩) ++ (cutP s).2.1) = s := by
  by_cases h1 : (s.size : Int) ≤ 100
  · have e1 : cutP s = (⟨#[]⟩, s, decide ((s.size : Int) > 0)) := by unfold cutP tape_cut.f; rw [if_pos h1]; rfl
    rw [e1]
    exact if_pos (by rw [isE_eq]; exact decide_eq_true ((empty_iff _).2 rfl))
  · obtain ⟨p, r, ok, g1, g2⟩ := cut_join s hs s.size 1 (s.size + 2) (by omega) (by omega) (by omega)
    have e1 : cutP s = (p, r, ok) := by unfold cutP tape_cut.f; rw [if_neg h1]; rw [show tape_cut.l0 (s.size + 2) s 1 = some (p, r, ok) from g1]; rfl
    rw [e1] at h ⊢
    obtain ⟨g3, g4⟩ := g2 h
    rw [if_neg]
    · exact g4
    · rw [isE_eq]
      intro hc
      have := (empty_iff p).1 (of_decide_eq_true hc)
      omega
def hdrL (x : S26) : List Int := hdL (cutP x.f0).1 (cutP x.f0).2.1 x.f1 x.f2 x.f3 x.f4 x.f5 x.f6 x.f7 x.f9.length x.f8
structure Snd9 (x : S26) : Prop where
  k4 : x.f4 = 0 ∨ x.f4 = 2 ∨ x.f4 = 5
  z0_ : z0 x.f0 = false
  z1_ : z0 x.f1 = false
  z2_ : z0 x.f2 = false
  z3_ : z0 x.f3 = false
  s2 : x.f2.size < 32
  s3 : x.f3.size < 32
  b8 : 0 ≤ x.f8 ∧ x.f8 ≤ 8589934591
  b5 : 0 ≤ x.f5 ∧ x.f5 ≤ 2097151
  b6 : 0 ≤ x.f6 ∧ x.f6 ≤ 2097151
  b7 : 0 ≤ x.f7 ∧ x.f7 ≤ 2097151
  l1 : x.f4 = 2 ↔ 0 < x.f1.size
  s1 : x.f1.size ≤ 100
  n9 : x.f4 ≠ 0 → x.f9.length = 0
  cut : (cutP x.f0).2.2 = true
theorem snd9 {x : S26} (h : okS x = true) : Snd9 x := by
  unfold okS sndF sndB at h
  cases h1 : ((decide (x.f4 ≠ 0) && decide (x.f4 ≠ 2) && decide (x.f4 ≠ 5)) || has0 (x.f0 ++ x.f1 ++ x.f2 ++ x.f3)) with
  | true => rw [h1] at h; cases h
  | false =>
  rw [h1] at h
  cases h2 : (decide (32 ≤ (x.f2.size : Int)) || decide (32 ≤ (x.f3.size : Int)) || decide (x.f8 < 0) || decide (8589934591 < x.f8)) with
  | true => rw [h2] at h; cases h
  | false =>
  rw [h2] at h
  cases h3 : (!(inM x.f5 && inM x.f6 && inM x.f7)) with
  | true => rw [h3] at h; cases h
  | false =>
  rw [h3] at h
  cases h4 : (!(decide (x.f4 = 2) == decide (0 < (x.f1.size : Int))) || decide (100 < (x.f1.size : Int)) || (decide (x.f4 ≠ 0) && decide (0 < (x.f9.length : Int)))) with
  | true => rw [h4] at h; cases h
  | false =>
  rw [h4] at h
  simp only [cond_false, Bool.and_eq_true] at h
  rw [has0_z0, z0_app, z0_app, z0_app] at h1
  simp only [Bool.or_eq_false_iff, Bool.and_eq_false_iff, decide_eq_false_iff_not, Bool.not_eq_false', Bool.and_eq_true, inM, decide_eq_true_eq] at h1 h2 h3 h4
  obtain ⟨k, ⟨⟨z0', z1'⟩, z2'⟩, z3'⟩ := h1
  obtain ⟨⟨⟨a2, a3⟩, a8⟩, a8'⟩ := h2
  obtain ⟨⟨c5, c6⟩, c7⟩ := h3
  obtain ⟨⟨d1, d2⟩, d3⟩ := h4
  refine ⟨by omega, z0', z1', z2', z3', by omega, by omega, by omega, c5, c6, c7, ?_, by omega, fun hk => ?_, h.1⟩
  · have := eq_of_beq d1
    constructor
    · intro hk
      rw [decide_eq_true hk] at this
      have := of_decide_eq_true this.symm
      omega
    · intro hk
      rw [decide_eq_true (show 0 < (x.f1.size : Int) by omega)] at this
      exact of_decide_eq_true this
  · rcases d3 with d3 | d3
    · omega
    · omega
theorem okS_nil {x : S26} (h : okS x = true) : okS { x with f9 := [] } = true := by
  have hs := snd9 h
  unfold okS sndF sndB at h ⊢
  by_cases h0 : x.f4 = 0
  · have e : (decide (x.f4 ≠ 0) && decide (0 < (([] : List Int).length : Int))) = (decide (x.f4 ≠ 0) && decide (0 < (x.f9.length : Int))) := by simp [h0]
    show _ = true
    dsimp only
    rw [e]
    exact h
  · have := hs.n9 h0
    dsimp only
    rw [show ([] : List Int).length = x.f9.length from this.symm]
    exact h
theorem p6 : (8 : Int) ^ 6 = 262144 := by decide
theorem p7 : (8 : Int) ^ 7 = 2097152 := by decide
theorem p11 : (8 : Int) ^ 11 = 8589934592 := by decide
theorem isZ_no {h : List Int} {d : Int} (i : Nat) (hd : h[i]? = some d) (hne : d ≠ 0) : isZ h = false := by
  unfold isZ
  rw [List.all_eq_false]
  exact ⟨d, List.mem_of_getElem? hd, by simp [hne]⟩
set_option maxHeartbeats 4000000 in
theorem round {x : S26} (hz : x.f0.size ≤ 1048576) (h9 : x.f9.length ≤ 1048576) (hok : okS x = true) :
    (hdrL x).length = 512 ∧ (∀ b ∈ hdrL x, 0 ≤ b ∧ b ≤ 255) ∧ isZ (hdrL x) = false ∧ sumOk (hdrL x) = true ∧ hdrOk (hdrL x) = true ∧ hdrF (hdrL x) = { x with f9 := [] } ∧ szN (hdrL x) = x.f9.length := by
  have hs := snd9 hok
  obtain ⟨_, _, _, hc⟩ := cuts x.f0 hz
  obtain ⟨_, hp, hr, hr1⟩ := hc hs.cut
  have hj := cutP_join x.f0 hz hs.cut
  obtain ⟨p, hpe⟩ : ∃ p, p = (cutP x.f0).1 := ⟨_, rfl⟩
  obtain ⟨r, hre⟩ : ∃ r, r = (cutP x.f0).2.1 := ⟨_, rfl⟩
  rw [← hpe] at hp hj
  rw [← hre] at hr hr1 hj
  have hzp : z0 p = false ∧ z0 r = false := by
    have h0 := hs.z0_
    rw [← hj] at h0
    by_cases he : isE p = true
    · rw [if_pos he] at h0
      refine ⟨?_, h0⟩
      rw [isE_eq] at he
      have e := of_decide_eq_true he
      unfold z0
      rw [← toList_eq, e]; rfl
    · rw [if_neg he, z0_app, z0_app] at h0
      simp only [Bool.or_eq_false_iff] at h0
      exact ⟨h0.1.1, h0.2⟩
  have h1 := hs.s1; have h2 := hs.s2; have h3 := hs.s3; have b5 := hs.b5; have b6 := hs.b6; have b7 := hs.b7; have b8 := hs.b8
  have k4 : 0 ≤ x.f4 ∧ x.f4 ≤ 9 := by have := hs.k4; omega
  obtain ⟨S, hS⟩ : ∃ S, S = sumH p r x.f1 x.f2 x.f3 x.f4 x.f5 x.f6 x.f7 x.f9.length x.f8 := ⟨_, rfl⟩
  obtain ⟨h, hh⟩ : ∃ h, h = hdrL x := ⟨_, rfl⟩
  obtain ⟨fs, hfs⟩ : ∃ fs, fs = fsH p r x.f1 x.f2 x.f3 x.f4 x.f5 x.f6 x.f7 x.f9.length x.f8 (digs 6 S ++ [0, 32]) := ⟨_, rfl⟩
  have hhf : h = flat fs := by rw [hh, hfs, hS, hpe, hre]; rfl
  have hl8 : (digs 6 S ++ [0, 32]).length ≤ 8 := by rw [List.length_append, digs_length]; decide
  have hokF : okF fs := by rw [hfs]; exact okF_H p r x.f1 x.f2 x.f3 x.f4 x.f5 x.f6 x.f7 x.f9.length x.f8 _ hp hr h1 (by omega) (by omega) hl8
  have hL : h.length = 512 := by rw [hhf, hfs]; exact fsH_length p r x.f1 x.f2 x.f3 x.f4 x.f5 x.f6 x.f7 x.f9.length x.f8 _ hp hr h1 (by omega) (by omega) hl8
  have rg : ∀ s : List Int, (∀ b ∈ s, 0 ≤ b ∧ b ≤ 255) → ∀ b ∈ flat (fsH p r x.f1 x.f2 x.f3 x.f4 x.f5 x.f6 x.f7 x.f9.length x.f8 s), 0 ≤ b ∧ b ≤ 255 := fun s hsr => flat_range _ (fun q hq b hb => by
    have dr : ∀ m n, ∀ d ∈ digs m n, 0 ≤ d ∧ d ≤ 255 := fun m n d hd => by have := digs_oct m n d hd; omega
    simp only [fsH, List.mem_cons, List.not_mem_nil, or_false] at hq
    rcases hq with rfl | rfl | rfl | rfl | rfl | rfl | rfl | rfl | rfl | rfl | rfl | rfl | rfl | rfl | rfl | rfl <;> first | exact bn_range _ b hb | exact dr _ _ b hb | exact hsr b hb | (dsimp only at hb; rw [List.mem_singleton] at hb; omega) | (simp at hb; done))
  have hrange : ∀ b ∈ h, 0 ≤ b ∧ b ≤ 255 := by
    rw [hhf, hfs]
    refine rg _ (fun b hb => ?_)
    rcases List.mem_append.1 hb with hb | hb
    · have := digs_oct 6 S b hb; omega
    · simp at hb; omega
  have at_ : ∀ (j n a : Nat) (l : List Int), fs[j]? = some (n, l) → offs fs j = a → sub h a n = fldL n l := fun j n a l hj ha => by rw [← ha, hhf]; exact sub_flat fs j n l hokF hj
  -- the fields
  have g0 := at_ 0 100 0 (bn r) (by rw [hfs]; rfl) (by rw [hfs]; rfl)
  have g1 := at_ 1 8 100 (digs 7 x.f5) (by rw [hfs]; rfl) (by rw [hfs]; rfl)
  have g2 := at_ 2 8 108 (digs 7 x.f6) (by rw [hfs]; rfl) (by rw [hfs]; rfl)
  have g3 := at_ 3 8 116 (digs 7 x.f7) (by rw [hfs]; rfl) (by rw [hfs]; rfl)
  have g4 := at_ 4 12 124 (digs 11 x.f9.length) (by rw [hfs]; rfl) (by rw [hfs]; rfl)
  have g5 := at_ 5 12 136 (digs 11 x.f8) (by rw [hfs]; rfl) (by rw [hfs]; rfl)
  have g6 := at_ 6 8 148 (digs 6 S ++ [0, 32]) (by rw [hfs]; rfl) (by rw [hfs]; rfl)
  have g7 := at_ 7 1 156 [48 + x.f4] (by rw [hfs]; rfl) (by rw [hfs]; rfl)
  have g8 := at_ 8 100 157 (bn x.f1) (by rw [hfs]; rfl) (by rw [hfs]; rfl)
  have g9 := at_ 9 8 257 (bn magic) (by rw [hfs]; rfl) (by rw [hfs]; rfl)
  have g10 := at_ 10 32 265 (bn x.f2) (by rw [hfs]; rfl) (by rw [hfs]; rfl)
  have g11 := at_ 11 32 297 (bn x.f3) (by rw [hfs]; rfl) (by rw [hfs]; rfl)
  have g14 := at_ 14 155 345 (bn p) (by rw [hfs]; rfl) (by rw [hfs]; rfl)
  have nm : ∀ (i m n : Nat) (v : Int), sub h (numA i).toNat (numB i).toNat = fldL n (digs m v) → 0 < m → m ≤ 11 → m < n → 0 ≤ v → v < 8 ^ m → nf h i = (v, true) := fun i m n v hg h0 h11 hn hv0 hv1 => by
    unfold nf
    rw [hg]
    unfold fldL
    rw [digs_length]
    refine num_digs m v _ h0 h11 hv0 hv1 ?_ (fun hc => by have := congrArg List.length hc; simp at this; omega)
    rw [List.all_eq_true]
    intro b hb
    rw [(List.mem_replicate.1 hb).2]; rfl
  have n0 := nm 0 7 8 x.f5 g1 (by decide) (by decide) (by decide) b5.1 (by rw [p7]; omega)
  have n1 := nm 1 7 8 x.f6 g2 (by decide) (by decide) (by decide) b6.1 (by rw [p7]; omega)
  have n2 := nm 2 7 8 x.f7 g3 (by decide) (by decide) (by decide) b7.1 (by rw [p7]; omega)
  have n3 := nm 3 11 12 x.f9.length g4 (by decide) (by decide) (by decide) (by omega) (by rw [p11]; omega)
  have n4 := nm 4 11 12 x.f8 g5 (by decide) (by decide) (by decide) b8.1 (by rw [p11]; omega)
  have hbyte : h[156]? = some (48 + x.f4) := by
    have := congrArg (·[0]?) g7
    simp only [sub, List.getElem?_take, List.getElem?_drop] at this
    simpa [fldL] using this
  have hkind : kindP (h.getD 156 0) = some x.f4 := by
    rw [List.getD_eq_getElem?_getD, hbyte]
    unfold kindP
    rcases hs.k4 with e | e | e <;> rw [e] <;> rfl
  have hkd := kd_of hkind
  have hm : mag h = true := by
    unfold mag
    rw [g9, show fldL 8 (bn magic) = bn magic by decide, str_bn]
    exact beq_self_eq_true _
  have t0 := tx_of g0 hzp.2; have t14 := tx_of g14 hzp.1; have t8 := tx_of g8 hs.z1_; have t10 := tx_of g10 hs.z2_; have t11 := tx_of g11 hs.z3_
  have o0 := txO_of (b := true) g0 hzp.2 (.inl rfl) hr
  have o14 := txO_of (b := true) g14 hzp.1 (.inl rfl) hp
  have o8 := txO_of (b := true) g8 hs.z1_ (.inl rfl) h1
  have o10 := txO_of (b := false) g10 hs.z2_ (.inr h2) (by omega)
  have o11 := txO_of (b := false) g11 hs.z3_ (.inr h3) (by omega)
  have hname : nameF h = x.f0 := by unfold nameF; rw [t0.1, t14.1]; exact hj
  have hF : hdrF h = { x with f9 := [] } := by
    unfold hdrF
    rw [hkd, hname, t8.1, t10.1, t11.1, n0, n1, n2, n4]
    have e1 : (if x.f4 = 2 then x.f1 else ⟨#[]⟩ : ByteArray) = x.f1 := by
      by_cases h42 : x.f4 = 2
      · rw [if_pos h42]
      · rw [if_neg h42]
        have hz1 : x.f1.size = 0 := by have := hs.l1; omega
        exact (ByteArray.ext (Array.eq_empty_of_size_eq_zero hz1)).symm
    rw [e1]
  have hv : numsOk h = true := by unfold numsOk; rw [n0, n1, n2, n3, n4]; rfl
  have hre1 : isE r = false := by rw [isE_eq]; exact decide_eq_false (fun hc => by have := (empty_iff r).1 hc; omega)
  have hbig : bigB h x.f4 = false := by
    unfold bigB
    rw [o0, o14, o10, o11, t0.1, hre1, n3]
    by_cases h40 : x.f4 = 0
    · simp [h40]
    · simp [hs.n9 h40]
  have hlk : (!decide (x.f4 = 2) || txO h 157 100 true) = true := by rw [o8]; simp
  have hok2 := hdr_of hm hkind hv hbig hlk
  rw [hF, okS_nil hok] at hok2
  have hsum : S = tot h 512 := by
    rw [tot_sum h hL, hhf, hfs, fsH_sum p r x.f1 x.f2 x.f3 x.f4 x.f5 x.f6 x.f7 x.f9.length x.f8 _ (List.replicate 8 32) hp hr h1 (by omega) (by omega) hl8 (by decide), hS]
    rfl
  have hSb : 0 ≤ S ∧ S ≤ 130560 := by
    have hl2 := fsH_length p r x.f1 x.f2 x.f3 x.f4 x.f5 x.f6 x.f7 x.f9.length x.f8 (List.replicate 8 32) hp hr h1 (by omega) (by omega) (by decide)
    have := sumTo_range (flat (fsH p r x.f1 x.f2 x.f3 x.f4 x.f5 x.f6 x.f7 x.f9.length x.f8 (List.replicate 8 32))) (rg _ (fun b hb => by rw [(List.mem_replicate.1 hb).2]; decide)) 512 (by omega)
    unfold sumTo at this
    rw [List.take_of_length_le (by omega)] at this
    rw [hS]
    unfold sumH
    omega
  have n5 : nf h 5 = (S, true) := by
    show num (sub h 148 8) = _
    rw [g6]
    have : fldL 8 (digs 6 S ++ [0, 32]) = digs 6 S ++ [0, 32] := by
      unfold fldL
      rw [List.length_append, digs_length]
      simp
    rw [this]
    exact num_digs 6 S [0, 32] (by decide) (by decide) hSb.1 (by rw [p6]; omega) (by decide) (by decide)
  rw [← hh]
  refine ⟨hL, hrange, isZ_no 156 hbyte (by omega), ?_, hok2, hF, ?_⟩
  · unfold sumOk; rw [n5, hsum]; simp
  · unfold szN; rw [n3]; simp
end Go.Proofs.YtlhmbncalonomaaDoor.Rnd
namespace Go.Proofs.YtlhmbncalonomaaDoor.Bak
open Go.RowKit Go.Proofs.YtlhmbncalonomaaDoor.Q Go.Proofs.YtlhmbncalonomaaDoor.Cpy Go.Proofs.YtlhmbncalonomaaDoor.Hand Go.Proofs.YtlhmbncalonomaaDoor.Arr Go.Proofs.YtlhmbncalonomaaDoor.Sx Go.Proofs.YtlhmbncalonomaaDoor.Head Go.Proofs.YtlhmbncalonomaaDoor.Snd Go.Proofs.YtlhmbncalonomaaDoor.TpB Go.Proofs.YtlhmbncalonomaaDoor.TpH Go.Proofs.YtlhmbncalonomaaDoor.RfH Go.Proofs.YtlhmbncalonomaaDoor.Spc Go.Proofs.YtlhmbncalonomaaDoor.Spd Go.Proofs.YtlhmbncalonomaaDoor.Fil Go.Proofs.YtlhmbncalonomaaDoor.Fil2 Go.Proofs.YtlhmbncalonomaaDoor.Twn Go.Proofs.YtlhmbncalonomaaDoor.Alk Go.Proofs.YtlhmbncalonomaaDoor.Nm Go.Proofs.YtlhmbncalonomaaDoor.Txt Go.Proofs.YtlhmbncalonomaaDoor.Tld Go.Proofs.YtlhmbncalonomaaDoor.RfF Go.Proofs.YtlhmbncalonomaaDoor.GtP Go.Proofs.YtlhmbncalonomaaDoor.Rnd Go.Proofs.YtlhmbncalonomaaDoorW.PrintWords Go.Proofs.YtlhmbncalonomaaDoorW.PrintLast Go.Proofs.YtlhmbncalonomaaDoorW.PrintMore
set_option linter.unusedVariables false
set_option linter.unusedSimpArgs false
theorem isZ_rep (n : Nat) : isZ (List.replicate n 0) = true := by
  unfold isZ
  rw [List.all_eq_true]
  intro x hx
  rw [(List.mem_replicate.1 hx).2]; rfl
theorem recB_hdr (x : S26) : recB x = hdrL x ++ (x.f9 ++ List.replicate (padT x.f9.length - x.f9.length) 0) := by
  unfold recB hdrL; rw [List.append_assoc]
theorem pad_le (n : Nat) : n ≤ padT n ∧ padT n ≤ n + 511 := by unfold padT; omega
theorem hdW_round {x : S26} (h : hdrF (hdrL x) = { x with f9 := [] }) : hdW (hdrL x) x.f9 = x := by
  unfold hdW; rw [h]
theorem getF_recs : ∀ (xs ys : List S26), (∀ x ∈ xs, okS x = true ∧ x.f0.size ≤ 1048576 ∧ x.f9.length ≤ 1048576) → getF ys (recs xs ++ List.replicate 1024 0) = (0, ys ++ xs)
  | [], ys, _ => by
    rw [show recs [] ++ List.replicate 1024 (0 : Int) = List.replicate 1024 0 from rfl, List.append_nil]
    refine getF_z2 (by rw [List.length_replicate]; decide) ?_ ?_ ?_
    · rw [List.take_replicate]; exact isZ_rep _
    · rw [List.drop_replicate, List.length_replicate]; decide
    · rw [List.drop_replicate, List.take_replicate]; exact isZ_rep _
  | x :: xs, ys, h => by
    obtain ⟨h1, h2, h3⟩ := h x List.mem_cons_self
    obtain ⟨r1, r2, r3, r4, r5, r6, r7⟩ := round h2 h3 h1
    have ih := getF_recs xs (ys ++ [x]) (fun y hy => h y (List.mem_cons_of_mem _ hy))
    obtain ⟨R, hR⟩ : ∃ R, R = recs xs ++ List.replicate 1024 (0 : Int) := ⟨_, rfl⟩
    have e : recs (x :: xs) ++ List.replicate 1024 0 = hdrL x ++ (x.f9 ++ (List.replicate (padT x.f9.length - x.f9.length) 0 ++ R)) := by
      show (recB x ++ recs xs) ++ _ = _
      rw [recB_hdr, hR]; simp only [List.append_assoc]
    have et : (hdrL x ++ (x.f9 ++ (List.replicate (padT x.f9.length - x.f9.length) 0 ++ R))).take 512 = hdrL x := List.take_left' r1
    have ed : (hdrL x ++ (x.f9 ++ (List.replicate (padT x.f9.length - x.f9.length) 0 ++ R))).drop 512 = x.f9 ++ (List.replicate (padT x.f9.length - x.f9.length) 0 ++ R) := List.drop_left' r1
    have hp := pad_le x.f9.length
    rw [e, getF_next (by rw [List.length_append]; omega) (by rw [et]; exact r3) (by rw [et]; exact r4) (by rw [et]; exact r5) (by rw [ed, et, r7, List.length_append, List.length_append, List.length_replicate]; omega), et, ed, r7]
    rw [List.take_left' rfl, ← List.append_assoc x.f9, List.drop_left' (by rw [List.length_append, List.length_replicate]; omega), hdW_round r6, hR, ih, List.append_assoc]
    rfl
theorem recs_len {xs : List S26} (hs : Small xs) (ha : xs.all okS = true) : (recs xs).length + 1024 = putN xs := by
  have := recs_length xs hs xs.length (Nat.le_refl _) (fun j hj => List.all_eq_true.1 ha _ (fileAt_mem hj))
  rwa [List.take_length] at this
theorem getP_putB {xs : List S26} (hs : Small xs) (hN : putN xs ≤ 16777216) (ha : xs.all okS = true) : getP (putB xs) = (0, xs) ∧ (putB xs).length = putN xs := by
  have hl := recs_len hs ha
  have e := (putE0 (by omega) ha).2
  have hlen : (putB xs).length = putN xs := by rw [e, List.length_append, List.length_replicate]; exact hl
  refine ⟨?_, hlen⟩
  unfold getP
  rw [if_neg (by omega), e, getF_recs xs [] (fun x hx => ⟨List.all_eq_true.1 ha x hx, by have := hs.at_ x hx; omega, (hs.at_ x hx).2⟩)]
  rfl
theorem putN_snoc (ys : List S26) (x : S26) : putN (ys ++ [x]) = putN ys + (512 + padT x.f9.length) := by
  unfold putN; rw [List.map_append, List.sum_append]; simp; omega
theorem okS_data {y : S26} {l : List Int} (h : okS y = true) (hy : y.f9 = []) (hd : y.f4 = 0 ∨ l = []) : okS { y with f9 := l } = true := by
  unfold okS sndF sndB at h ⊢
  rcases hd with h0 | h0
  · have e : (decide (y.f4 ≠ 0) && decide (0 < (l.length : Int))) = (decide (y.f4 ≠ 0) && decide (0 < (y.f9.length : Int))) := by simp [h0]
    dsimp only
    rw [e]
    exact h
  · dsimp only
    rw [h0, show ([] : List Int).length = y.f9.length by rw [hy]]
    exact h
theorem okS_hdW {h : List Int} (hL : h.length = 512) (l : List Int) (ho : hdrOk h = true) (hl : l.length ≤ szN h) : okS (hdW h l) = true := by
  have hnb := nf_bd h hL 3 (by decide)
  unfold hdrOk at ho
  simp only [Bool.and_eq_true, Bool.not_eq_true'] at ho
  obtain ⟨_, _, _, hb, _, hok⟩ := ho
  refine okS_data (y := hdrF h) hok rfl ?_
  unfold bigB at hb
  simp only [Bool.or_eq_false_iff, Bool.and_eq_false_iff, decide_eq_false_iff_not] at hb
  rcases hb.2 with h1 | h1
  · exact .inl (by show kd h = 0; omega)
  · refine .inr (List.eq_nil_of_length_eq_zero ?_)
    unfold szN at hl
    omega
theorem getF_good : ∀ (m : Nat) (R : List Int) (ys : List S26), R.length = m → (∀ y ∈ ys, okS y = true) → ((getF ys R).1 ≠ 0 → (getF ys R).2 = []) ∧ ((getF ys R).1 = 0 → (∀ y ∈ (getF ys R).2, okS y = true) ∧ putN (getF ys R).2 + 1024 ≤ putN ys + R.length) := by
  intro m
  induction m using Nat.strongRecOn with
  | ind m ih =>
    intro R ys hm hy
    have bad : ∀ c : Int, c ≠ 0 → getF ys R = (c, []) → ((getF ys R).1 ≠ 0 → (getF ys R).2 = []) ∧ ((getF ys R).1 = 0 → (∀ y ∈ (getF ys R).2, okS y = true) ∧ putN (getF ys R).2 + 1024 ≤ putN ys + R.length) := fun c hc e => by
      rw [e]; exact ⟨fun _ => rfl, fun h => absurd h hc⟩
    by_cases h1 : R.length < 512
    · exact bad 242 (by decide) (getF_short h1)
    have hdl : (R.drop 512).length = R.length - 512 := List.length_drop ..
    cases hz : isZ (R.take 512) with
    | true =>
      by_cases h2 : (R.drop 512).length < 512
      · exact bad 242 (by decide) (getF_z1 h1 hz h2)
      cases hz2 : isZ ((R.drop 512).take 512) with
      | true =>
        rw [getF_z2 h1 hz h2 hz2]
        exact ⟨fun h => absurd rfl h, fun _ => ⟨hy, by dsimp only; omega⟩⟩
      | false => exact bad 240 (by decide) (getF_z3 h1 hz h2 hz2)
    | false =>
      cases hs : sumOk (R.take 512) with
      | false => exact bad 241 (by decide) (getF_sum h1 hz hs)
      | true =>
        cases hh : hdrOk (R.take 512) with
        | false => exact bad 240 (by decide) (getF_hdr h1 hz hs hh)
        | true =>
          by_cases h3 : (R.drop 512).length < padT (szN (R.take 512))
          · exact bad 242 (by decide) (getF_long h1 hz hs hh h3)
          have hL : (R.take 512).length = 512 := by rw [List.length_take]; omega
          have hp := pad_le (szN (R.take 512))
          have hk := okS_hdW hL ((R.drop 512).take (szN (R.take 512))) hh (by rw [List.length_take]; omega)
          have hf9 : (hdW (R.take 512) ((R.drop 512).take (szN (R.take 512)))).f9.length = szN (R.take 512) := by
            show ((R.drop 512).take (szN (R.take 512))).length = _
            rw [List.length_take]; omega
          rw [getF_next h1 hz hs hh h3]
          obtain ⟨g1, g2⟩ := ih _ (by rw [← hm, List.length_drop]; omega) ((R.drop 512).drop (padT (szN (R.take 512)))) (ys ++ [hdW (R.take 512) ((R.drop 512).take (szN (R.take 512)))]) rfl (fun y hy' => by
            rcases List.mem_append.1 hy' with h | h
            · exact hy y h
            · rw [List.mem_singleton] at h; rw [h]; exact hk)
          refine ⟨g1, fun h => ?_⟩
          obtain ⟨g3, g4⟩ := g2 h
          refine ⟨g3, ?_⟩
          rw [putN_snoc, hf9, List.length_drop] at g4
          omega
theorem getP_good (l : List Int) : ((getP l).1 ≠ 0 → (getP l).2 = []) ∧ ((getP l).1 = 0 → (getP l).2.all okS = true ∧ putN (getP l).2 ≤ l.length) := by
  unfold getP
  by_cases h : 16777216 < l.length
  · rw [if_pos h]; exact ⟨fun _ => rfl, fun h => absurd h (by decide)⟩
  · rw [if_neg h]
    obtain ⟨g1, g2⟩ := getF_good l.length l [] rfl (fun y hy => by simp at hy)
    refine ⟨g1, fun h0 => ?_⟩
    obtain ⟨g3, g4⟩ := g2 h0
    refine ⟨List.all_eq_true.2 g3, ?_⟩
    have : putN [] = 1024 := rfl
    omega
theorem getP_zeros : getP (List.replicate 1024 0) = (0, []) := by
  unfold getP
  rw [if_neg (by rw [List.length_replicate]; decide)]
  exact getF_recs [] [] (fun x hx => by simp at hx)
theorem getP_short : getP (List.replicate 1023 0) = (242, []) := by
  unfold getP
  rw [if_neg (by rw [List.length_replicate]; decide)]
  refine getF_z1 (by rw [List.length_replicate]; decide) ?_ ?_
  · rw [List.take_replicate]; exact isZ_rep _
  · rw [List.drop_replicate, List.length_replicate]; decide
end Go.Proofs.YtlhmbncalonomaaDoor.Bak
namespace Go.Proofs.YtlhmbncalonomaaDoor.GaL
open Go.RowKit Go.Proofs.YtlhmbncalonomaaDoor.Q Go.Proofs.YtlhmbncalonomaaDoor.Cpy Go.Proofs.YtlhmbncalonomaaDoor.Hand Go.Proofs.YtlhmbncalonomaaDoor.Arr Go.Proofs.YtlhmbncalonomaaDoor.Sx Go.Proofs.YtlhmbncalonomaaDoor.Head Go.Proofs.YtlhmbncalonomaaDoor.Snd Go.Proofs.YtlhmbncalonomaaDoor.TpB Go.Proofs.YtlhmbncalonomaaDoor.TpH Go.Proofs.YtlhmbncalonomaaDoor.RfH Go.Proofs.YtlhmbncalonomaaDoor.Spc Go.Proofs.YtlhmbncalonomaaDoor.Spd Go.Proofs.YtlhmbncalonomaaDoor.Fil Go.Proofs.YtlhmbncalonomaaDoor.Fil2 Go.Proofs.YtlhmbncalonomaaDoor.Twn Go.Proofs.YtlhmbncalonomaaDoor.Alk Go.Proofs.YtlhmbncalonomaaDoor.Nm Go.Proofs.YtlhmbncalonomaaDoor.Txt Go.Proofs.YtlhmbncalonomaaDoor.Tld Go.Proofs.YtlhmbncalonomaaDoor.RfF Go.Proofs.YtlhmbncalonomaaDoor.GtP Go.Proofs.YtlhmbncalonomaaDoor.GtA Go.Proofs.YtlhmbncalonomaaDoor.Rnd Go.Proofs.YtlhmbncalonomaaDoor.Bak Go.Proofs.YtlhmbncalonomaaDoor.PrP Go.Proofs.YtlhmbncalonomaaDoorW.PrintWords Go.Proofs.YtlhmbncalonomaaDoorW.PrintLast Go.Proofs.YtlhmbncalonomaaDoorW.PrintMore
set_option linter.unusedVariables false
set_option linter.unusedSimpArgs false
theorem en9 : Enters Tryd.prog 9 := fun args w => by kernel_rfl
theorem en10 : Enters Tryd.prog 10 := fun args w => by kernel_rfl
theorem en11 : Enters Tryd.prog 11 := fun args w => by kernel_rfl
theorem en13 : Enters Tryd.prog 13 := fun args w => by kernel_rfl
theorem en15 : Enters Tryd.prog 15 := fun args w => by kernel_rfl
theorem en16 : Enters Tryd.prog 16 := fun args w => by kernel_rfl
theorem small0 : Small [] := ⟨by simp, fun x hx => by simp at hx⟩
theorem rep_range (n : Nat) : ∀ x ∈ List.replicate n (0 : Int), 0 ≤ x ∧ x ≤ 255 := fun x hx => by rw [(List.mem_replicate.1 hx).2]; decide
theorem get_at (A : Option Addr) (n c : Nat) (l : List Int) (hn : l.length = n) (w : World) (hl : Laid w) (hC : U8 w A l) (hc : n ≤ c) (hr : ∀ x ∈ l, 0 ≤ x ∧ x ≤ 255) :
    Calls Tryd.prog 16 #[.slice A n c] w fun e w' => GetPost w l e w' := by
  subst hn
  exact get_calls A c l w hl hC hc hr
theorem gt_no {n : Nat} {sl : List (Nat × Value)} {w : World} {dst : Option Tmp} {ty t t2 : TypeId} {pos : String} {aft : Array Edge} {g : Option (Nat × Bool)} {x y : Operand} {a b : Int} (hx : sv sl x = some (.int .i64 a)) (hy : sv sl y = some (.int .i64 b)) (h : ¬ b < a) : Runs Tryd.prog ⟨dst, .binOp .gtr t x y t2, ty, pos, aft, g⟩ n sl w (.bool false) w := by
  have := r_gt (P := Tryd.prog) (n := n) (w := w) (dst := dst) (ty := ty) (t := t) (t2 := t2) (pos := pos) (aft := aft) (g := g) hx hy
  rwa [decide_eq_false h] at this
theorem growB {W0 W : World} {bs : List (Nat × List Value × Nat)} {v : Value} {l : List Int} (h : Grow W0 W bs v l.length (u8s l) 5 1) (hl : l.length ≤ 9223372036854775807) : ∃ A c, v = .slice A l.length c ∧ l.length ≤ c ∧ U8 W A l := by
  rcases h with ⟨h1, h2, h3, hP⟩ | ⟨g, cap, spare, h1, h2, h3, h4, hP⟩
  · have : l = [] := List.eq_nil_of_length_eq_zero h2
    subst this
    exact ⟨none, 0, h1, Nat.le_refl _, rfl, hl, fun hn => absurd hn (by simp)⟩
  · exact ⟨_, cap, h1, h2, u8_C hl (hP.blk (i := 0) rfl) (fun j u hj => by rw [List.getElem?_append_left (List.getElem?_eq_some_iff.1 hj).1]; exact hj)⟩
theorem twin_C {w W : World} {g : Nat} {G : Nat → Nat} {xs : List S26} (hs : Small xs) (hP : HP w W ((g, rowsF xs (fun j => .slice (some ⟨G j, 0, none⟩) (fileAt xs j).f9.length (fileAt xs j).f9.length), 26) :: ((List.range xs.length).map fun j => (G j, u8s (fileAt xs j).f9, 5)))) : Kd.C k26 W (some ⟨g, 0, none⟩) xs.length xs := by
  have hlen := hs.len
  refine kdC_rows (f := fun j => .slice (some ⟨G j, 0, none⟩) (fileAt xs j).f9.length (fileAt xs j).f9.length) (by omega) (fun m u hm => hP.cell (i := 0) rfl hm) (fun i hi => ?_)
  have hsx := hs.at_ _ (fileAt_mem hi)
  have hb := hP.at_ (G i, u8s (fileAt xs i).f9, 5) (List.mem_cons_of_mem _ (List.mem_map.2 ⟨i, List.mem_range.2 hi, rfl⟩))
  exact dataAt_own (by omega) hb (fun j u hj => hj) (Nat.le_refl _)
theorem putB_range {xs : List S26} (hs : Small xs) (ha : xs.all okS = true) (hr9 : ∀ x ∈ xs, ∀ b ∈ x.f9, 0 ≤ b ∧ b ≤ 255) (e : putB xs = recs xs ++ List.replicate 1024 0) : ∀ b ∈ putB xs, 0 ≤ b ∧ b ≤ 255 := fun b hb => by
  rw [e] at hb
  rcases List.mem_append.1 hb with hb | hb
  · obtain ⟨x, hx, hb⟩ := List.mem_flatMap.1 hb
    rw [recB_hdr] at hb
    rcases List.mem_append.1 hb with hb | hb
    · exact (round (by have := hs.at_ x hx; omega) (hs.at_ x hx).2 (List.all_eq_true.1 ha x hx)).2.1 b hb
    · rcases List.mem_append.1 hb with hb | hb
      · exact hr9 x hx b hb
      · exact rep_range _ b hb
  · exact rep_range _ b hb
theorem getF_bytes : ∀ (m : Nat) (R : List Int) (ys : List S26), R.length = m → (∀ x ∈ R, 0 ≤ x ∧ x ≤ 255) → (∀ y ∈ ys, ∀ b ∈ y.f9, 0 ≤ b ∧ b ≤ 255) → ∀ y ∈ (getF ys R).2, ∀ b ∈ y.f9, 0 ≤ b ∧ b ≤ 255 := by
  intro m
  induction m using Nat.strongRecOn with
  | ind m ih =>
    intro R ys hm hR hy
    have h0 : ∀ y ∈ ([] : List S26), ∀ b ∈ y.f9, 0 ≤ b ∧ b ≤ 255 := fun y hy => by simp at hy
    rw [getF]
    split
    · exact h0
    · split
      · split
        · exact h0
        · split
          · exact hy
          · exact h0
      · split
        · exact h0
        · split
          · exact h0
          · split
            · exact h0
            · rename_i h1 _ _ _ _
              refine ih _ (by rw [← hm, List.length_drop, List.length_drop]; omega) _ _ rfl (fun x hx => hR x (List.mem_of_mem_drop (List.mem_of_mem_drop hx))) (fun y hy' => ?_)
              rcases List.mem_append.1 hy' with h | h
              · exact hy y h
              · rw [List.mem_singleton] at h
                rw [h]
                exact fun b hb => hR b (List.mem_of_mem_drop (List.mem_of_mem_take hb))
theorem getP_bytes (l : List Int) (hr : ∀ x ∈ l, 0 ≤ x ∧ x ≤ 255) : ∀ y ∈ (getP l).2, ∀ b ∈ y.f9, 0 ≤ b ∧ b ≤ 255 := by
  unfold getP
  split
  · exact fun y hy => by simp at hy
  · exact getF_bytes _ l [] rfl hr (fun y hy => by simp at hy)
set_option maxRecDepth 100000 in
set_option maxHeartbeats 1000000 in
theorem law_calls (A : Option Addr) (c : Nat) (l : List Int) (w : World) (hl : Laid w) (hC : U8 w A l) (hc : l.length ≤ c) (hr : ∀ x ∈ l, 0 ≤ x ∧ x ≤ 255) (hn : l.length ≤ 1048576) :
    Calls Tryd.prog 6 #[.slice A l.length c] w fun e w' => e = .returned (.bool true) ∧ Below w.heap.size w w' := by
  have hP := HP.start w
  have hs := getP_small l hn
  have hgood := getP_good l
  have hby := getP_bytes l hr
  refine calls_cw Tryd.func6 rfl rfl (by simp) ?_
  refine cw_seq ?_
  -- region 0 tape.go:180
  refine cw_region ?_
  refine ow_step (r_assign rfl) rfl ?_
  refine ow_nil ?_
  refine ew_next ?_
  refine cw_seq ?_
  -- region 1 tape.go:181
  refine cw_region ?_
  refine ow_make1 (N := 1024) (M := 1024) (z := .int .u8 0) (m := 1) hP rfl rfl Tryd.underlying24 info5s rfl ⟨by decide, by decide, by decide, by decide⟩ rfl rfl rfl ?_
  clear hP; intro g14 W hz hg hP; clear hz hg
  obtain ⟨Z14, hZ14⟩ : ∃ Z, Z = List.replicate 1024 (0 : Int) := ⟨_, rfl⟩
  replace hP : HP w W [(g14, u8s Z14, 5)] := by rw [hZ14]; have e : u8s (List.replicate 1024 0) = List.replicate 1024 (Value.int .u8 0) := List.map_replicate; rw [e]; exact hP.sub (List.cons_sublist_cons.2 (List.nil_sublist _))
  have hl14 : Z14.length = 1024 := by rw [hZ14]; exact List.length_replicate
  refine ow_call en16 rfl (get_at (some ⟨g14, 0, none⟩) 1024 1024 Z14 hl14 _ (hl.below hP.old) (u8_C0 (hP.blk (i := 0) rfl) hl14 (by omega)) (Nat.le_refl _) (by rw [hZ14]; exact rep_range _)) rfl ?_
  rintro e W ⟨v1, bsR1, bsD1, f1, rfl, hR1, hD1, hJ⟩
  have hp1 : getP Z14 = (0, []) := by rw [hZ14]; exact getP_zeros
  rw [hp1] at hR1
  obtain ⟨A1, c1, e1, _, _⟩ := files_C hR1 (xs := []) (bsD := []) (fun i hi => absurd hi (by simp)) (hJ.sub (bs' := bsR1 ++ []) (List.Sublist.append (List.Sublist.refl _) (List.nil_sublist _))) small0
  subst e1
  replace hP := hP.below hJ.old; clear hJ
  refine ⟨_, rfl, ?_⟩
  rw [hp1]
  refine ow_step (r_move rfl) rfl ?_
  refine ow_step (r_extract rfl rfl) rfl ?_
  refine ow_step (r_extract rfl rfl) rfl ?_
  refine ow_step (r_assign rfl) rfl ?_
  refine ow_step (r_assign rfl) rfl ?_
  refine ow_nil ?_
  refine ew_next ?_
  refine cw_seq ?_
  -- region 2 tape.go:182
  refine cw_region ?_
  refine ow_make1 (N := 1023) (M := 1023) (z := .int .u8 0) (m := 1) hP rfl rfl Tryd.underlying24 info5s rfl ⟨by decide, by decide, by decide, by decide⟩ rfl rfl rfl ?_
  clear hP; intro g19 W hz hg hP; clear hz hg
  obtain ⟨Z19, hZ19⟩ : ∃ Z, Z = List.replicate 1023 (0 : Int) := ⟨_, rfl⟩
  replace hP : HP w W [(g19, u8s Z19, 5)] := by rw [hZ19]; have e : u8s (List.replicate 1023 0) = List.replicate 1023 (Value.int .u8 0) := List.map_replicate; rw [e]; exact hP.sub (List.cons_sublist_cons.2 (List.nil_sublist _))
  have hl19 : Z19.length = 1023 := by rw [hZ19]; exact List.length_replicate
  refine ow_call en16 rfl (get_at (some ⟨g19, 0, none⟩) 1023 1023 Z19 hl19 _ (hl.below hP.old) (u8_C0 (hP.blk (i := 0) rfl) hl19 (by omega)) (Nat.le_refl _) (by rw [hZ19]; exact rep_range _)) rfl ?_
  rintro e W ⟨v2, bsR2, bsD2, f2, rfl, hR2, hD2, hJ⟩
  have hp2 : getP Z19 = (242, []) := by rw [hZ19]; exact getP_short
  replace hP := hP.below hJ.old; clear hJ
  refine ⟨_, rfl, ?_⟩
  rw [hp2]
  refine ow_step (r_move rfl) rfl ?_
  refine ow_step (r_extract rfl rfl) rfl ?_
  refine ow_step (r_extract rfl rfl) rfl ?_
  refine ow_step (r_assign rfl) rfl ?_
  refine ow_step (r_assign rfl) rfl ?_
  refine ow_nil ?_
  refine ew_next ?_
  refine cw_seq ?_
  refine cw_seq ?_
  -- region 3 tape.go:183
  refine cw_region ?_
  refine ow_step (r_move rfl) rfl ?_
  refine ow_step (r_neS (a := 0) rfl rfl) rfl ?_
  refine ow_step (r_move rfl) rfl ?_
  first | (refine ow_pass rfl rfl rfl (by rfl) rfl ?_) | (refine ow_guard rfl rfl rfl (by rfl) ?_; refine ow_step (r_move rfl) rfl ?_)
  first | (refine ow_pass rfl rfl rfl (by rfl) rfl ?_) | (refine ow_guard rfl rfl rfl (by rfl) ?_; refine ow_step (r_len rfl (by rfl) rfl) rfl ?_)
  first | (refine ow_pass rfl rfl rfl (by rfl) rfl ?_) | (refine ow_guard rfl rfl rfl (by rfl) ?_; refine ow_step (r_neS (a := 0) rfl rfl) rfl ?_)
  refine ow_step (r_pick rfl rfl rfl) rfl ?_
  refine ow_step (r_move rfl) rfl ?_
  first | (refine ow_pass rfl rfl rfl (by rfl) rfl ?_) | (refine ow_guard rfl rfl rfl (by rfl) ?_; refine ow_step (r_move rfl) rfl ?_)
  refine ow_guard rfl rfl rfl (by rfl) ?_
  refine ow_call en13 rfl (valiselaw24_num.calls _ _ _ rfl) rfl ?_
  rintro e W ⟨rfl, m_, rfl⟩; replace hP := hP.drewN m_; refine ⟨_, rfl, ?_⟩
  first | (refine ow_pass rfl rfl rfl (by rfl) rfl ?_) | (refine ow_guard rfl rfl rfl (by rfl) ?_; refine ow_step (r_neS (a := 242) rfl rfl) rfl ?_)
  refine ow_step (r_pick rfl rfl rfl) rfl ?_
  refine ow_nil ?_
  refine ew_next ?_
  refine cw_false rfl ?_
  refine cw_skip ?_
  refine ew_next ?_
  refine cw_seq ?_
  -- region 5 tape.go:186
  refine cw_region ?_
  refine ow_step (r_move rfl) rfl ?_
  refine ow_call en10 rfl (clone_ex A c l _ (Kd.C_below hC hP.old) (by omega)) rfl ?_
  rintro e W ⟨g, rfl, hJ⟩; replace hP := (hP.push hJ.old (hJ.ge (i := 0) rfl) (hJ.blk (i := 0) rfl)).sub (List.cons_sublist_cons.2 (List.nil_sublist _)); clear hJ; refine ⟨_, rfl, ?_⟩
  refine ow_call en16 rfl (get_calls (some ⟨g, 0, none⟩) l.length l _ (hl.below hP.old) (u8_C0 (hP.blk (i := 0) rfl) rfl (by omega)) (Nat.le_refl _) hr) rfl ?_
  rintro e W ⟨v3, bsR3, bsD3, f3, rfl, hR3, hD3, hJ⟩
  obtain ⟨A3, c3, e3, hc3, hC3⟩ := files_C hR3 hD3 hJ hs
  subst e3
  replace hP := hP.below hJ.old; clear hJ
  refine ⟨_, rfl, ?_⟩
  refine ow_step (r_move rfl) rfl ?_
  refine ow_step (r_extract rfl rfl) rfl ?_
  refine ow_step (r_extract rfl rfl) rfl ?_
  refine ow_step (r_assign rfl) rfl ?_
  refine ow_step (r_assign rfl) rfl ?_
  refine ow_nil ?_
  refine ew_next ?_
  refine cw_seq ?_
  refine cw_seq ?_
  -- region 6 tape.go:187
  refine cw_region ?_
  refine ow_step (r_move rfl) rfl ?_
  refine ow_step (r_ne rfl rfl) rfl ?_
  refine ow_nil ?_
  refine ew_next ?_
  refine cw_cond rfl (fun hb1 => ?_) (fun hb1 => ?_)
  · -- cond 1 yes
    have hc1 := hb1; (try simp only [Bool.and_eq_true, Bool.or_eq_true, Bool.and_eq_false_iff, Bool.or_eq_false_iff, Bool.not_eq_true', Bool.not_eq_false', decide_eq_true_eq, decide_eq_false_iff_not, ne_eq, Decidable.not_not, not_true_eq_false, not_false_eq_true] at hc1)
    have hx := hgood.1 hc1
    refine cw_seq ?_
    -- region 7 tape.go:188
    refine cw_region ?_
    refine ow_step (r_move rfl) rfl ?_
    refine ow_step (r_len rfl (by rfl) rfl) rfl ?_
    refine ow_step (r_eqS (a := 0) (by rw [hx]; rfl) rfl) rfl ?_
    refine ow_step (r_assign rfl) rfl ?_
    refine ow_nil ?_
    refine ew_next ?_
    refine cw_ret ?_
    refine ew_then_ret ?_
    refine ew_ret1 rfl (.tmp rfl .nil) ⟨rfl, hP.old⟩
  · -- cond 1 no
    have hc1 := hb1; (try simp only [Bool.and_eq_true, Bool.or_eq_true, Bool.and_eq_false_iff, Bool.or_eq_false_iff, Bool.not_eq_true', Bool.not_eq_false', decide_eq_true_eq, decide_eq_false_iff_not, ne_eq, Decidable.not_not, not_true_eq_false, not_false_eq_true] at hc1)
    have hcode : (getP l).1 = 0 := hc1
    obtain ⟨ha, hN⟩ := hgood.2 hcode
    obtain ⟨xs, hxs⟩ : ∃ xs, xs = (getP l).2 := ⟨_, rfl⟩
    rw [← hxs] at hs ha hN hC3 hc3 ⊢
    have hbk := getP_putB hs (by omega) ha
    have hput := putE0 (xs := xs) (by omega) ha
    rw [← hxs] at hby
    have hbr := putB_range hs ha hby hput.2
    have hlen := hs.len
    refine cw_skip ?_
    refine ew_next ?_
    refine cw_seq ?_
    -- region 8 tape.go:190
    refine cw_region ?_
    refine ow_step (r_move rfl) rfl ?_
    refine ow_call en9 rfl (twin_calls A3 c3 xs _ hC3 hs) rfl ?_
    rintro e W ⟨gt, G, rfl, hJ⟩
    have hCt := twin_C hs hJ
    replace hP := hP.below hJ.old; replace hC3 := Kd.C_below hC3 hJ.old; clear hJ; refine ⟨_, rfl, ?_⟩
    refine ow_call en11 rfl (prPut_calls (some ⟨gt, 0, none⟩) xs.length xs _ (hl.below hP.old) hCt hs) rfl ?_
    rintro e W ⟨v9, rfl, hG⟩
    have hJ := hG.hp
    obtain ⟨A9, c9, e9, hc9, hC9⟩ := growB hG (by omega)
    subst e9
    replace hP := hP.below hJ.old; replace hC3 := Kd.C_below hC3 hJ.old; clear hJ hG; refine ⟨_, rfl, ?_⟩
    rw [hput.1]
    refine ow_step (r_move rfl) rfl ?_
    refine ow_step (r_extract rfl rfl) rfl ?_
    refine ow_step (r_extract rfl rfl) rfl ?_
    refine ow_step (r_assign rfl) rfl ?_
    refine ow_step (r_assign rfl) rfl ?_
    refine ow_nil ?_
    refine ew_next ?_
    refine cw_seq ?_
    refine cw_seq ?_
    -- region 9 tape.go:191
    refine cw_region ?_
    refine ow_step (r_move rfl) rfl ?_
    refine ow_step (r_neS (a := 0) rfl rfl) rfl ?_
    refine ow_step (r_move rfl) rfl ?_
    first | (refine ow_pass rfl rfl rfl (by rfl) rfl ?_) | (refine ow_guard rfl rfl rfl (by rfl) ?_; refine ow_step (r_move rfl) rfl ?_)
    first | (refine ow_pass rfl rfl rfl (by rfl) rfl ?_) | (refine ow_guard rfl rfl rfl (by rfl) ?_; refine ow_step (r_len rfl (by rfl) rfl) rfl ?_)
    first | (refine ow_pass rfl rfl rfl (by rfl) rfl ?_) | (refine ow_guard rfl rfl rfl (by rfl) ?_; refine ow_step (r_move rfl) rfl ?_)
    first | (refine ow_pass rfl rfl rfl (by rfl) rfl ?_) | (refine ow_guard rfl rfl rfl (by rfl) ?_; refine ow_step (r_len rfl (by rfl) rfl) rfl ?_)
    first | (refine ow_pass rfl rfl rfl (by rfl) rfl ?_) | (refine ow_guard rfl rfl rfl (by rfl) ?_; refine ow_step (v := .bool false) (gt_no rfl rfl (by omega)) rfl ?_)
    refine ow_step (r_pick rfl rfl rfl) rfl ?_
    refine ow_nil ?_
    refine ew_next ?_
    refine cw_false rfl ?_
    refine cw_skip ?_
    refine ew_next ?_
    refine cw_seq ?_
    -- region 11 tape.go:194
    refine cw_region ?_
    refine ow_step (r_move rfl) rfl ?_
    refine ow_call en10 rfl (clone_ex A9 c9 (putB xs) _ hC9 (by omega)) rfl ?_
    rintro e W ⟨g2, rfl, hJ⟩; replace hP := (hP.push hJ.old (hJ.ge (i := 0) rfl) (hJ.blk (i := 0) rfl)).sub (List.cons_sublist_cons.2 (List.nil_sublist _)); replace hC3 := Kd.C_below hC3 hJ.old; clear hJ; refine ⟨_, rfl, ?_⟩
    refine ow_call en16 rfl (get_calls (some ⟨g2, 0, none⟩) (putB xs).length (putB xs) _ (hl.below hP.old) (u8_C0 (hP.blk (i := 0) rfl) rfl (by omega)) (Nat.le_refl _) hbr) rfl ?_
    rintro e W ⟨v5, bsR5, bsD5, f5, rfl, hR5, hD5, hJ⟩
    rw [hbk.1] at hR5 hD5
    obtain ⟨A5, c5, e5, hc5, hC5⟩ := files_C (xs := xs) hR5 hD5 hJ hs
    subst e5
    replace hP := hP.below hJ.old; replace hC3 := Kd.C_below hC3 hJ.old; clear hJ
    refine ⟨_, rfl, ?_⟩
    rw [hbk.1]
    refine ow_step (r_move rfl) rfl ?_
    refine ow_step (r_extract rfl rfl) rfl ?_
    refine ow_step (r_extract rfl rfl) rfl ?_
    refine ow_step (r_assign rfl) rfl ?_
    refine ow_step (r_assign rfl) rfl ?_
    refine ow_nil ?_
    refine ew_next ?_
    refine cw_seq ?_
    -- region 12 tape.go:195
    refine cw_region ?_
    refine ow_step (r_move rfl) rfl ?_
    refine ow_step (r_eqS (a := 0) rfl rfl) rfl ?_
    refine ow_step (r_move rfl) rfl ?_
    first | (refine ow_pass rfl rfl rfl (by rfl) rfl ?_) | (refine ow_guard rfl rfl rfl (by rfl) ?_; refine ow_step (r_move rfl) rfl ?_)
    first | (refine ow_pass rfl rfl rfl (by rfl) rfl ?_) | (refine ow_guard rfl rfl rfl (by rfl) ?_; refine ow_step (r_move rfl) rfl ?_)
    refine ow_guard rfl rfl rfl (by rfl) ?_
    refine ow_call en15 rfl (alike_calls A3 A5 c3 c5 xs _ hC3 hC5 hs) rfl ?_
    rintro e W ⟨rfl, hb⟩; replace hP := hP.below hb; clear hb; refine ⟨_, rfl, ?_⟩
    refine ow_step (r_pick rfl rfl rfl) rfl ?_
    refine ow_step (r_assign rfl) rfl ?_
    refine ow_nil ?_
    refine ew_next ?_
    refine cw_ret ?_
    refine ew_ret1 rfl (.tmp rfl .nil) ⟨rfl, hP.old⟩
end Go.Proofs.YtlhmbncalonomaaDoor.GaL
