/- Own walk: the reference's Put. -/
import Derived.Test.YtlhmbncalonomaaDoorFil2
namespace Go.Proofs.YtlhmbncalonomaaDoor.RfP
open Go.RowKit Go.Proofs.YtlhmbncalonomaaDoor.Q Go.Proofs.YtlhmbncalonomaaDoor.Cpy Go.Proofs.YtlhmbncalonomaaDoor.Hand Go.Proofs.YtlhmbncalonomaaDoor.Arr Go.Proofs.YtlhmbncalonomaaDoor.Sx Go.Proofs.YtlhmbncalonomaaDoor.Head Go.Proofs.YtlhmbncalonomaaDoor.Snd Go.Proofs.YtlhmbncalonomaaDoor.TpB Go.Proofs.YtlhmbncalonomaaDoor.TpH Go.Proofs.YtlhmbncalonomaaDoor.RfH Go.Proofs.YtlhmbncalonomaaDoor.Spc Go.Proofs.YtlhmbncalonomaaDoor.Spd Go.Proofs.YtlhmbncalonomaaDoor.Fil Go.Proofs.YtlhmbncalonomaaDoor.Fil2 Go.Proofs.YtlhmbncalonomaaDoorW.PrintWords Go.Proofs.YtlhmbncalonomaaDoorW.PrintLast Go.Proofs.YtlhmbncalonomaaDoorW.PrintMore
set_option linter.unusedVariables false
set_option linter.unusedSimpArgs false
theorem en23 : Enters Tryd.prog 23 := fun args w => by kernel_rfl
theorem en24 : Enters Tryd.prog 24 := fun args w => by kernel_rfl
theorem en25 : Enters Tryd.prog 25 := fun args w => by kernel_rfl
theorem en26 : Enters Tryd.prog 26 := fun args w => by kernel_rfl

set_option maxRecDepth 100000 in
theorem refPut_calls (A : Option Addr) (c : Nat) (xs : List S26) (w : World) (hC : Kd.C k26 w A xs.length xs) (hs : Small xs) :
    Calls Tryd.prog 12 #[.slice A xs.length c] w fun e w' => ∃ v, e = .returned (.tuple #[v, .int .i64 (putE xs)]) ∧ Grow w w' [] v (putB xs).length (u8s (putB xs)) 5 1 := by
  have hP := HP.start w
  have hlen := hs.len
  refine calls_cw Tryd.func12 rfl rfl (by simp) ?_
  refine cw_seq ?_
  -- region 0 tape.go:114
  refine cw_region ?_
  refine ow_step (r_assign rfl) rfl ?_
  refine ow_step (r_assign rfl) rfl ?_
  refine ow_nil ?_
  refine ew_next ?_
  refine cw_seq ?_
  -- region 1 tape.go:115
  refine cw_region ?_
  refine ow_step (r_assign rfl) rfl ?_
  refine ow_nil ?_
  refine ew_next ?_
  refine cw_seq ?_
  refine cw_seq ?_
  -- region 2 tape.go:116
  refine cw_region ?_
  refine ow_step (r_assign rfl) rfl ?_
  refine ow_nil ?_
  refine ew_next ?_
  refine cw_block ?_
  refine cw_loop (fun i => xs.length - i) (fun i => [(0, .slice A xs.length c), (5, .int .i64 ((i : Nat) : Int)), (4, .int .i64 ((putN (xs.take i) : Nat) : Int))]) (fun i w' => i ≤ xs.length ∧ w' = w) 0 ⟨rfl, rfl, rfl, trivial⟩ ⟨Nat.zero_le _, rfl⟩ ?_
  clear hP; rintro i W ⟨hi, rfl⟩
  · -- round 0
    refine cw_seq ?_
    refine cw_seq ?_
    -- region 3 tape.go:116
    refine cw_region ?_
    refine ow_step (r_move rfl) rfl ?_
    refine ow_step (r_move rfl) rfl ?_
    refine ow_step (r_len rfl (by rfl) rfl) rfl ?_
    refine ow_step (r_lt rfl rfl) rfl ?_
    refine ow_nil ?_
    refine ew_next ?_
    refine cw_cond rfl (fun hb0 => ?_) (fun hb0 => ?_)
    · -- cond 0 yes
      have hc0 := hb0; (try simp only [Bool.and_eq_true, Bool.or_eq_true, Bool.and_eq_false_iff, Bool.or_eq_false_iff, Bool.not_eq_true', Bool.not_eq_false', decide_eq_true_eq, decide_eq_false_iff_not, ne_eq, Decidable.not_not, not_true_eq_false, not_false_eq_true] at hc0)
      have hi' : i < xs.length := by omega
      obtain ⟨b, o, A9, c9, hA, hcells, hc9, hC9⟩ := files_at hC i hi'
      have hsx := hs.at_ _ (fileAt_mem hi')
      have hpd := pad_bd (fileAt xs i).f9.length
      have hbd := putN_bd xs hs i hi
      have hsu := putN_succ xs i hi'
      subst hA
      refine cw_skip ?_
      refine ew_next ?_
      refine cw_seq ?_
      refine cw_block ?_
      -- region 5 tape.go:117
      refine cw_region ?_
      refine ow_step (r_move rfl) rfl ?_
      refine ow_step (i_add rfl rfl (by omega)) rfl ?_
      refine ow_step (r_move rfl) rfl ?_
      refine ow_step (r_move rfl) rfl ?_
      refine ow_step (r_indexSl' (o' := o + i * 10) rfl rfl Tryd.underlying22 size26 ⟨by omega, by omega⟩ (by rw [Int.toNat_natCast])) rfl ?_
      refine ow_step (r_fieldAddr rfl fl26_9) rfl ?_
      refine ow_step (r_load rfl rfl (hcells 9 _ rfl)) rfl ?_
      refine ow_step (r_len rfl (by rfl) rfl) rfl ?_
      refine ow_call en23 rfl (padded_calls _ _ (by omega)) rfl ?_
      rintro e W' ⟨rfl, rfl⟩; refine ⟨_, rfl, ?_⟩
      refine ow_step (i_add rfl rfl (by omega)) rfl ?_
      refine ow_step (r_assign rfl) rfl ?_
      refine ow_nil ?_
      refine ew_block ?_
      refine ew_next ?_
      -- region 4 tape.go:116
      refine cw_region ?_
      refine ow_step (r_move rfl) rfl ?_
      refine ow_step (i_add rfl rfl (by omega)) rfl ?_
      refine ow_step (r_assign rfl) rfl ?_
      refine ow_nil ?_
      refine ew_round (i + 1) ⟨rfl, rfl, ?_, trivial⟩ ⟨by omega, rfl⟩ (by omega)
      rw [hsu]
      show some (Value.int .i64 _) = some (Value.int .i64 _)
      congr 2
      omega
    · -- cond 0 no
      have hc0 := hb0; (try simp only [Bool.and_eq_true, Bool.or_eq_true, Bool.and_eq_false_iff, Bool.or_eq_false_iff, Bool.not_eq_true', Bool.not_eq_false', decide_eq_true_eq, decide_eq_false_iff_not, ne_eq, Decidable.not_not, not_true_eq_false, not_false_eq_true] at hc0)
      obtain rfl : i = xs.length := by omega
      have hbd := putN_bd xs hs xs.length (Nat.le_refl _)
      rw [List.take_length] at hbd
      rw [List.take_length]
      have hP := HP.start W
      refine cw_exit ?_
      refine ew_then_exit ?_
      refine ew_then_exit ?_
      refine ew_block_hit ?_
      refine ew_next ?_
      refine cw_seq ?_
      refine cw_seq ?_
      -- region 6 tape.go:119
      refine cw_region ?_
      refine ow_step (r_move rfl) rfl ?_
      refine ow_step (r_gt rfl rfl) rfl ?_
      refine ow_nil ?_
      refine ew_next ?_
      refine cw_cond rfl (fun hb1 => ?_) (fun hb1 => ?_)
      · -- cond 1 yes
        have hc1 := hb1; (try simp only [Bool.and_eq_true, Bool.or_eq_true, Bool.and_eq_false_iff, Bool.or_eq_false_iff, Bool.not_eq_true', Bool.not_eq_false', decide_eq_true_eq, decide_eq_false_iff_not, ne_eq, Decidable.not_not, not_true_eq_false, not_false_eq_true] at hc1)
        refine cw_seq ?_
        -- region 7 tape.go:120
        refine cw_region ?_
        refine ow_step (r_assign rfl) rfl ?_
        refine ow_step (r_assign rfl) rfl ?_
        refine ow_nil ?_
        refine ew_next ?_
        refine cw_ret ?_
        refine ew_then_ret ?_
        obtain ⟨e1, e2⟩ := putE1 (xs := xs) (by omega)
        rw [e1, e2]
        refine ew_rets (rs := [(Go.ResultVar.tmp 2), (Go.ResultVar.tmp 3)]) rfl (by simp) (.tmp rfl (.tmp rfl (.nil))) ⟨_, rfl, ?_⟩
        exact Grow.start (HP.start _)
      · -- cond 1 no
        have hc1 := hb1; (try simp only [Bool.and_eq_true, Bool.or_eq_true, Bool.and_eq_false_iff, Bool.or_eq_false_iff, Bool.not_eq_true', Bool.not_eq_false', decide_eq_true_eq, decide_eq_false_iff_not, ne_eq, Decidable.not_not, not_true_eq_false, not_false_eq_true] at hc1)
        have hno : ¬ 16777216 < putN xs := by omega
        refine cw_skip ?_
        refine ew_next ?_
        refine cw_seq ?_
        -- region 8 tape.go:122
        refine cw_region ?_
        refine ow_step (r_assign rfl) rfl ?_
        refine ow_nil ?_
        refine ew_next ?_
        refine cw_seq ?_
        refine cw_seq ?_
        -- region 9 tape.go:123
        refine cw_region ?_
        refine ow_step (r_assign rfl) rfl ?_
        refine ow_nil ?_
        refine ew_next ?_
        refine cw_block ?_
        refine cw_loop (α := Nat × Value) (fun u : Nat × Value => xs.length - u.1) (fun u : Nat × Value => [(0, .slice A xs.length c), (7, .int .i64 ((u.1 : Nat) : Int)), (6, u.2)]) (fun (u : Nat × Value) w' => u.1 ≤ xs.length ∧ (∀ j, j < u.1 → okS (fileAt xs j) = true) ∧ Grow W w' [] u.2 (recs (xs.take u.1)).length (u8s (recs (xs.take u.1))) 5 1) (0, .slice none 0 0) ⟨rfl, rfl, rfl, trivial⟩ ⟨Nat.zero_le _, fun j hj => absurd hj (Nat.not_lt_zero _), Grow.start hP⟩ ?_
        clear hP; rename World => w0; rintro ⟨i, v⟩ W ⟨hi, hok, hG⟩; dsimp only at hi hok hG ⊢; have hP := hG.hp
        · -- round 1
          refine cw_seq ?_
          refine cw_seq ?_
          -- region 10 tape.go:123
          refine cw_region ?_
          refine ow_step (r_move rfl) rfl ?_
          refine ow_step (r_move rfl) rfl ?_
          refine ow_step (r_len rfl (by rfl) rfl) rfl ?_
          refine ow_step (r_lt rfl rfl) rfl ?_
          refine ow_nil ?_
          refine ew_next ?_
          refine cw_cond rfl (fun hb2 => ?_) (fun hb2 => ?_)
          · -- cond 2 yes
            have hc2 := hb2; (try simp only [Bool.and_eq_true, Bool.or_eq_true, Bool.and_eq_false_iff, Bool.or_eq_false_iff, Bool.not_eq_true', Bool.not_eq_false', decide_eq_true_eq, decide_eq_false_iff_not, ne_eq, Decidable.not_not, not_true_eq_false, not_false_eq_true] at hc2)
            have hi' : i < xs.length := by omega
            obtain ⟨b, o, A9, c9, hA, hcells, hc9, hC9⟩ := files_at hC i hi'
            have hsx := hs.at_ _ (fileAt_mem hi')
            have hpd := pad_bd (fileAt xs i).f9.length
            have hbd := putN_bd xs hs i hi
            have hsu := putN_succ xs i hi'
            subst hA
            have hle := putN_le xs hs i hi
            have hrl := recs_length xs hs i hi hok
            have hcW : ∀ j u, (rowF (fileAt xs i) A9 c9)[j]? = some u → W.cell? ((⟨b, o + i * 10, none⟩ : Addr).add j) = some u := fun j u hj => by rw [Addr.add_mid]; exact pw_cell_below hG.hp.old (hcells j u hj)
            refine cw_skip ?_
            refine ew_next ?_
            refine cw_seq ?_
            refine cw_block ?_
            refine cw_seq ?_
            -- region 12 tape.go:124
            refine cw_region ?_
            refine ow_step (r_move rfl) rfl ?_
            refine ow_step (r_move rfl) rfl ?_
            refine ow_step (r_indexSl' (o' := o + i * 10) rfl rfl Tryd.underlying22 size26 ⟨by omega, by omega⟩ (by rw [Int.toNat_natCast])) rfl ?_
            refine ow_step (r_loads (c := rowF (fileAt xs i) A9 c9) rfl Tryd.underlying26 rfl size26 hcW) rfl ?_
            refine ow_var (ws := rowF (fileAt xs i) A9 c9) hP rfl (by kernel_rfl) (by simp [rowF, Value.oneCell']) rfl ?_
            intro b8 W' hz hg hP'; clear hP; replace hG := hG.var hz hg (hP'.blk (i := 0) rfl); clear hP' hz hg hcW; have hP := hG.hp
            refine ow_nil ?_
            refine ew_next ?_
            refine cw_seq ?_
            -- region 13 tape.go:125
            refine cw_region ?_
            refine ow_step (r_loads (c := rowF (fileAt xs i) A9 c9) rfl Tryd.underlying26 rfl size26 (hP.cells (i := 0) (o := 0) rfl (fun j u hj => by rw [Nat.zero_add]; exact hj))) rfl ?_
            refine ow_call en24 rfl (valiseref24_Sound.calls 1048580 (fileAt xs i).f0 (fileAt xs i).f1 (fileAt xs i).f2 (fileAt xs i).f3 (fileAt xs i).f4 (fileAt xs i).f5 (fileAt xs i).f6 (fileAt xs i).f7 (fileAt xs i).f8 A9 c9 (fileAt xs i).f9 (okS (fileAt xs i)) _ (Kd.C_below hC9 hP.old) hc9 (Sound_eq 1048580 (Nat.le_refl _) _ _ _ _ _ _ _ _ _ _ (by omega) (by omega) (by omega) (by omega))) rfl ?_
            rintro e W ⟨rfl, hb⟩; replace hG := hG.below hb; clear hb hP; have hP := hG.hp; refine ⟨_, rfl, ?_⟩
            refine ow_step (r_assign rfl) rfl ?_
            refine ow_nil ?_
            refine ew_next ?_
            refine cw_seq ?_
            refine cw_seq ?_
            -- region 14 tape.go:126
            refine cw_region ?_
            refine ow_step (r_move rfl) rfl ?_
            refine ow_step (r_not rfl) rfl ?_
            refine ow_nil ?_
            refine ew_next ?_
            refine cw_cond rfl (fun hb3 => ?_) (fun hb3 => ?_)
            · -- cond 3 yes
              have hc3 := hb3; (try simp only [Bool.and_eq_true, Bool.or_eq_true, Bool.and_eq_false_iff, Bool.or_eq_false_iff, Bool.not_eq_true', Bool.not_eq_false', decide_eq_true_eq, decide_eq_false_iff_not, ne_eq, Decidable.not_not, not_true_eq_false, not_false_eq_true] at hc3)
              refine cw_seq ?_
              -- region 15 tape.go:127
              refine cw_region ?_
              refine ow_step (r_assign rfl) rfl ?_
              refine ow_step (r_assign rfl) rfl ?_
              refine ow_nil ?_
              refine ew_next ?_
              refine cw_ret ?_
              refine ew_then_ret ?_
              refine ew_block_ret ?_
              refine ew_then_ret ?_
              refine ew_then_ret ?_
              refine ew_block_ret ?_
              refine ew_then_ret ?_
              obtain ⟨e1, e2⟩ := putE2 hno (not_all xs i hi' hc3)
              rw [e1, e2]
              refine ew_rets (rs := [(Go.ResultVar.tmp 2), (Go.ResultVar.tmp 3)]) rfl (by simp) (.tmp rfl (.tmp rfl (.nil))) ⟨_, rfl, ?_⟩
              exact Grow.start (hP.sub (List.nil_sublist _))
            · -- cond 3 no
              have hc3 := hb3; (try simp only [Bool.and_eq_true, Bool.or_eq_true, Bool.and_eq_false_iff, Bool.or_eq_false_iff, Bool.not_eq_true', Bool.not_eq_false', decide_eq_true_eq, decide_eq_false_iff_not, ne_eq, Decidable.not_not, not_true_eq_false, not_false_eq_true] at hc3)
              have hct := cuts (fileAt xs i).f0 (by omega)
              obtain ⟨k1, k2, k3, k4, k5, k6, k7, k8, k9, k10, k11⟩ := okS_facts (fileAt xs i) (by omega) hc3
              have hsp : valiseref24_split.f 1048580 (fileAt xs i).f0 = some ((cutP (fileAt xs i).f0).1, (cutP (fileAt xs i).f0).2.1, (cutP (fileAt xs i).f0).2.2) := by rw [split_up (fileAt xs i).f0 (by omega) _ (by omega), ← (hct.2.2.2 k1).1]
              have hsb := sum_blank (cutP (fileAt xs i).f0).1 (cutP (fileAt xs i).f0).2.1 (fileAt xs i).f1 (fileAt xs i).f2 (fileAt xs i).f3 (fileAt xs i).f4 (fileAt xs i).f5 (fileAt xs i).f6 (fileAt xs i).f7 (fileAt xs i).f9.length (fileAt xs i).f8 k7 k2 k3 k4 k5 k6
              have hsd := sumH_bd (cutP (fileAt xs i).f0).1 (cutP (fileAt xs i).f0).2.1 (fileAt xs i).f1 (fileAt xs i).f2 (fileAt xs i).f3 (fileAt xs i).f4 (fileAt xs i).f5 (fileAt xs i).f6 (fileAt xs i).f7 (fileAt xs i).f9.length (fileAt xs i).f8 k7 k2 k3 k4 k5 k6
              have hz1 := hdrS_size (cutP (fileAt xs i).f0).1 (cutP (fileAt xs i).f0).2.1 (fileAt xs i).f1 (fileAt xs i).f2 (fileAt xs i).f3 (fileAt xs i).f4 (fileAt xs i).f5 (fileAt xs i).f6 (fileAt xs i).f7 (fileAt xs i).f9.length (fileAt xs i).f8 blank8 k7 k2 k3 k4 k5 k6 rfl
              have hz2 := hdrS_size (cutP (fileAt xs i).f0).1 (cutP (fileAt xs i).f0).2.1 (fileAt xs i).f1 (fileAt xs i).f2 (fileAt xs i).f3 (fileAt xs i).f4 (fileAt xs i).f5 (fileAt xs i).f6 (fileAt xs i).f7 (fileAt xs i).f9.length (fileAt xs i).f8 (sum8 (sumH (cutP (fileAt xs i).f0).1 (cutP (fileAt xs i).f0).2.1 (fileAt xs i).f1 (fileAt xs i).f2 (fileAt xs i).f3 (fileAt xs i).f4 (fileAt xs i).f5 (fileAt xs i).f6 (fileAt xs i).f7 (fileAt xs i).f9.length (fileAt xs i).f8)) k7 k2 k3 k4 k5 k6 (sum8_size _)
              have hhd := hdr_hdL (cutP (fileAt xs i).f0).1 (cutP (fileAt xs i).f0).2.1 (fileAt xs i).f1 (fileAt xs i).f2 (fileAt xs i).f3 (fileAt xs i).f4 (fileAt xs i).f5 (fileAt xs i).f6 (fileAt xs i).f7 (fileAt xs i).f9.length (fileAt xs i).f8 k7 k2 k3 k4 k5 k6
              obtain ⟨SM, hSM⟩ : ∃ z, z = sumH (cutP (fileAt xs i).f0).1 (cutP (fileAt xs i).f0).2.1 (fileAt xs i).f1 (fileAt xs i).f2 (fileAt xs i).f3 (fileAt xs i).f4 (fileAt xs i).f5 (fileAt xs i).f6 (fileAt xs i).f7 (fileAt xs i).f9.length (fileAt xs i).f8 := ⟨_, rfl⟩
              rw [← hSM] at hsb hsd hz2 hhd
              have htot : ∀ w, Calls Tryd.prog 25 #[.string (hdrS (cutP (fileAt xs i).f0).1 (cutP (fileAt xs i).f0).2.1 (fileAt xs i).f1 (fileAt xs i).f2 (fileAt xs i).f3 (fileAt xs i).f4 (fileAt xs i).f5 (fileAt xs i).f6 (fileAt xs i).f7 (fileAt xs i).f9.length (fileAt xs i).f8 blank8)] w (fun e w' => e = .returned (.int .i64 SM) ∧ w' = w) := fun w => (total25_calls _ w (by omega)).mono (fun e w' ⟨he, hw⟩ => ⟨by rw [he, hsb], hw⟩)
              refine cw_skip ?_
              refine ew_next ?_
              refine cw_seq ?_
              -- region 16 tape.go:129
              refine cw_region ?_
              refine ow_step (r_loads (c := rowF (fileAt xs i) A9 c9) rfl Tryd.underlying26 rfl size26 (hP.cells (i := 0) (o := 0) rfl (fun j u hj => by rw [Nat.zero_add]; exact hj))) rfl ?_
              refine ow_call en26 rfl (header_calls 1048580 (fileAt xs i).f0 (fileAt xs i).f1 (fileAt xs i).f2 (fileAt xs i).f3 (fileAt xs i).f4 (fileAt xs i).f5 (fileAt xs i).f6 (fileAt xs i).f7 (fileAt xs i).f8 A9 (fileAt xs i).f9.length c9 blank8 _ _ _ _ hsp k2 k3 k4 k5 k6 k7 k8 k9 k10 k11 (by omega) rfl) rfl ?_
              rintro e W ⟨rfl, hb⟩; replace hG := hG.below hb; clear hb hP; have hP := hG.hp; refine ⟨_, rfl, ?_⟩
              refine ow_call en25 rfl (htot _) rfl ?_
              rintro e W'' ⟨rfl, rfl⟩; refine ⟨_, rfl, ?_⟩
              refine ow_step (r_assign rfl) rfl ?_
              refine ow_nil ?_
              refine ew_next ?_
              refine cw_seq ?_
              -- region 17 DRAWS tape.go:130
              refine cw_quiet (fun w' => Grow w0 w' [(b8, rowF (fileAt xs i) A9 c9, 26)] v (recs (xs.take i)).length (u8s (recs (xs.take i))) 5 1) (by kernel_rfl) (by kernel_rfl) hG.drew ?_
              refine qw_step (fun w hw => r_loads (c := rowF (fileAt xs i) A9 c9) rfl Tryd.underlying26 rfl size26 (hw.hp.cells (i := 0) (o := 0) rfl (fun j u hj => by rw [Nat.zero_add]; exact hj))) rfl ?_
              refine qw_step (fun w hw => r_move rfl) rfl ?_
              refine qw_call en27 rfl (fun w hw => (octal_calls SM 6 w hsd.1 hsd.2 (by decide)).mono (fun e w' ⟨he, hb⟩ => ⟨he, hw.below hb⟩)) rfl ?_
              refine qw_call en28 rfl (fun w hw => (filled_calls ⟨#[]⟩ 1 w (by decide) (by decide)).mono (fun e w' ⟨he, hb⟩ => ⟨he, hw.below hb⟩)) rfl ?_
              refine qw_step (fun w hw => r_sadd rfl rfl (by rw [octS_size, fill_size _ _ (by decide)]; decide)) rfl ?_
              refine qw_step (fun w hw => r_sadd rfl rfl (by rw [ByteArray.size_append, octS_size, fill_size _ _ (by decide)]; decide)) rfl ?_
              refine qw_call en26 rfl (fun w hw => (header_calls 1048580 (fileAt xs i).f0 (fileAt xs i).f1 (fileAt xs i).f2 (fileAt xs i).f3 (fileAt xs i).f4 (fileAt xs i).f5 (fileAt xs i).f6 (fileAt xs i).f7 (fileAt xs i).f8 A9 (fileAt xs i).f9.length c9 (sum8 SM) _ _ _ w hsp k2 k3 k4 k5 k6 k7 k8 k9 k10 k11 (by omega) (sum8_size _)).mono (fun e w' ⟨he, hb⟩ => ⟨he, hw.below hb⟩)) rfl ?_
              refine qw_step (fun w hw => r_assign rfl) rfl ?_
              clear hP hG; refine qw_nil (fun W hG => ?_)
              have hP := hG.hp
              refine ew_next ?_
              refine cw_seq ?_
              -- region 18 tape.go:131
              refine cw_region ?_
              refine ow_step (r_move rfl) rfl ?_
              refine ow_step (r_move rfl) rfl ?_
              refine ow_appS hG rfl rfl (by omega) rfl ?_
              clear hP hG; intro v' W'' hg hG; have hP := hG.hp; clear hg
              refine ow_step (r_assign rfl) rfl ?_
              refine ow_nil ?_
              refine ew_next ?_
              refine cw_seq ?_
              -- region 19 tape.go:132
              refine cw_region ?_
              refine ow_step (r_move rfl) rfl ?_
              refine ow_step (r_fieldAddr rfl fl26_9) rfl ?_
              refine ow_step (r_load rfl rfl (hP.cell (i := 0) rfl rfl)) rfl ?_
              refine ow_appB hG (Kd.C_below hC9 hP.old) rfl rfl (by rw [List.length_append, bn_length]; omega) rfl ?_
              clear hP hG; intro v' W'' hg hG; have hP := hG.hp; clear hg
              refine ow_step (r_assign rfl) rfl ?_
              refine ow_nil ?_
              refine ew_next ?_
              -- region 20 DRAWS tape.go:133
              refine cw_held (fun w' => HP w0 w' [(b8, rowF (fileAt xs i) A9 c9, 26)]) (by kernel_rfl) ?_
              replace hG := hG.drew
              replace hP := hG.hp
              refine hw_take 0 rfl rfl rfl (by kernel_rfl) (by kernel_rfl) (by kernel_rfl) (by repeat (first | with_reducible exact mild_body | with_reducible refine mild_then ?_ | with_reducible refine mild_block ?_)) hG.hp (fun w' hw => r_move rfl) rfl ?_
              refine hw_take 1 rfl rfl rfl (by kernel_rfl) (by kernel_rfl) (by kernel_rfl) (by repeat (first | with_reducible exact mild_body | with_reducible refine mild_then ?_ | with_reducible refine mild_block ?_)) hG.hp (fun w' hw => r_fieldAddr rfl fl26_9) rfl ?_
              refine hw_take 2 rfl rfl rfl (by kernel_rfl) (by kernel_rfl) (by kernel_rfl) (by repeat (first | with_reducible exact mild_body | with_reducible refine mild_then ?_ | with_reducible refine mild_block ?_)) hG.hp (fun w' hw => r_load rfl rfl (hw.cell (i := 0) rfl rfl)) rfl ?_
              refine hw_take 3 rfl rfl rfl (by kernel_rfl) (by kernel_rfl) (by kernel_rfl) (by repeat (first | with_reducible exact mild_body | with_reducible refine mild_then ?_ | with_reducible refine mild_block ?_)) hG.hp (fun w' hw => r_len rfl (by rfl) rfl) rfl ?_
              refine hw_take 5 rfl rfl rfl (by kernel_rfl) (by kernel_rfl) (by kernel_rfl) (by repeat (first | with_reducible exact mild_body | with_reducible refine mild_then ?_ | with_reducible refine mild_block ?_)) hG.hp (fun w' hw => r_fieldAddr rfl fl26_9) rfl ?_
              refine hw_take 6 rfl rfl rfl (by kernel_rfl) (by kernel_rfl) (by kernel_rfl) (by repeat (first | with_reducible exact mild_body | with_reducible refine mild_then ?_ | with_reducible refine mild_block ?_)) hG.hp (fun w' hw => r_load rfl rfl (hw.cell (i := 0) rfl rfl)) rfl ?_
              refine hw_take 7 rfl rfl rfl (by kernel_rfl) (by kernel_rfl) (by kernel_rfl) (by repeat (first | with_reducible exact mild_body | with_reducible refine mild_then ?_ | with_reducible refine mild_block ?_)) hG.hp (fun w' hw => r_len rfl (by rfl) rfl) rfl ?_
              refine hw_one 4 (by kernel_rfl) (nw_of rfl ?_ lets_then)
              refine ow_call en23 rfl (padded_calls _ _ (by omega)) rfl ?_
              rintro e W'' ⟨rfl, rfl⟩; refine ⟨_, rfl, ?_⟩
              refine ow_nil (ew_held hG.hp ?_)
              refine hw_take 8 rfl rfl rfl (by kernel_rfl) (by kernel_rfl) (by kernel_rfl) (by repeat (first | with_reducible exact mild_body | with_reducible refine mild_then ?_ | with_reducible refine mild_block ?_)) hG.hp (fun w' hw => i_sub rfl rfl (by omega)) rfl ?_
              refine hw_one 9 (by kernel_rfl) (nw_of rfl ?_ lets_then)
              refine ow_appZ (m := padT (fileAt xs i).f9.length - (fileAt xs i).f9.length) hG rfl (by omega) rfl (by rw [List.length_append, List.length_append, bn_length]; omega) rfl ?_
              clear hP hG; intro v' W'' hg hG; have hP := hG.hp; clear hg
              refine ow_nil (ew_held hG.hp ?_)
              refine hw_take 10 rfl rfl rfl (by kernel_rfl) (by kernel_rfl) (by kernel_rfl) (by repeat (first | with_reducible exact mild_body | with_reducible refine mild_then ?_ | with_reducible refine mild_block ?_)) hG.hp (fun w' hw => r_assign rfl) rfl ?_
              refine hw_done (by kernel_rfl) ?_
              refine ew_block ?_
              refine ew_next ?_
              -- region 11 tape.go:123
              refine cw_region ?_
              refine ow_step (r_move rfl) rfl ?_
              refine ow_step (i_add rfl rfl (by omega)) rfl ?_
              refine ow_step (r_assign rfl) rfl ?_
              refine ow_nil ?_
              rw [hhd, List.append_assoc, List.append_assoc, ← List.append_assoc (hdL _ _ _ _ _ _ _ _ _ _ _)] at hG
              refine ew_round (α := Nat × Value) (m := (fun u : Nat × Value => xs.length - u.1)) (S := (fun u : Nat × Value => [(0, .slice (some ⟨b, o, none⟩) xs.length c), (7, .int .i64 ((u.1 : Nat) : Int)), (6, u.2)])) (I := (fun (u : Nat × Value) w' => u.1 ≤ xs.length ∧ (∀ j, j < u.1 → okS (fileAt xs j) = true) ∧ Grow w0 w' [] u.2 (recs (xs.take u.1)).length (u8s (recs (xs.take u.1))) 5 1)) (u := (i, v)) (i + 1, v') ⟨rfl, rfl, rfl, trivial⟩ ⟨by dsimp only; omega, fun j hj => ?_, ?_⟩ (by dsimp only; omega)
              · rcases Nat.lt_or_ge j i with h | h
                · exact hok j h
                · obtain rfl : j = i := by omega
                  exact hc3
              · dsimp only
                rw [recs_succ xs i hi']
                exact hG.sub (List.nil_sublist _)
          · -- cond 2 no
            have hc2 := hb2; (try simp only [Bool.and_eq_true, Bool.or_eq_true, Bool.and_eq_false_iff, Bool.or_eq_false_iff, Bool.not_eq_true', Bool.not_eq_false', decide_eq_true_eq, decide_eq_false_iff_not, ne_eq, Decidable.not_not, not_true_eq_false, not_false_eq_true] at hc2)
            obtain rfl : i = xs.length := by omega
            have hrl := recs_length xs hs xs.length (Nat.le_refl _) hok
            rw [List.take_length] at hG hrl
            obtain ⟨e1, e2⟩ := putE0 hno (all_of xs hok)
            rw [e1, e2]
            refine cw_exit ?_
            refine ew_then_exit ?_
            refine ew_then_exit ?_
            refine ew_block_hit ?_
            refine ew_next ?_
            refine cw_seq ?_
            -- region 21 tape.go:135
            refine cw_region ?_
            refine ow_step (r_move rfl) rfl ?_
            refine ow_appZ (m := 1024) hG rfl rfl rfl (by omega) rfl ?_
            clear hP hG; intro v' W'' hg hG; have hP := hG.hp; clear hg
            refine ow_step (r_assign rfl) rfl ?_
            refine ow_nil ?_
            refine ew_next ?_
            refine cw_seq ?_
            -- region 22 tape.go:136
            refine cw_region ?_
            refine ow_step (r_move rfl) rfl ?_
            refine ow_step (r_assign rfl) rfl ?_
            refine ow_step (r_assign rfl) rfl ?_
            refine ow_nil ?_
            refine ew_next ?_
            refine cw_ret ?_
            refine ew_rets (rs := [(Go.ResultVar.tmp 2), (Go.ResultVar.tmp 3)]) rfl (by simp) (.tmp rfl (.tmp rfl (.nil))) ⟨_, rfl, hG⟩
end Go.Proofs.YtlhmbncalonomaaDoor.RfP
