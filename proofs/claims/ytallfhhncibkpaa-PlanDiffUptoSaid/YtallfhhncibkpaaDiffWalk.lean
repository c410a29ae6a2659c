/- PlanDiff, the walk: where the writes are what they should be, the law returns true. -/
import Derived.Test.YtallfhhncibkpaaDiffPure
import Derived.Outline
namespace Go.Proofs.Ytallfhhncibkpaa.DiffWalk
open Go.RowKit Go.Proofs.Ytallfhhncibkpaa.Q Go.Proofs.Ytallfhhncibkpaa.DiffsPure Go.Proofs.Ytallfhhncibkpaa.DiffPure Go.Proofs.Ytallfhhncibkpaa.Apl Go.Proofs.YtallfhhncibkpaaW.PrintWords Go.Proofs.YtallfhhncibkpaaW.PrintLast Go.Proofs.YtallfhhncibkpaaW.PrintMore
attribute [local go_sem] max2_int min2_int max_two min_two max_three min_three max_four min_four
set_option linter.unusedVariables false
set_option linter.unusedSimpArgs false

theorem differs_sm {old next : List Int} {p : Int} (h0 : 0 ≤ p) (h1 : p < next.length) (h : Sm old next p.toNat) : valiselaw15_differs.f old next p = some false := by
  obtain ⟨q, rfl⟩ := Int.eq_ofNat_of_zero_le h0
  unfold Sm was at h
  rw [Int.toNat_natCast] at h
  unfold valiselaw15_differs.f
  by_cases ho : q < old.length
  · rw [if_pos ho] at h
    rw [if_pos (by omega), if_pos h0, if_pos h1, h, bne_self_eq_false]
  · rw [if_neg ho] at h
    rw [if_neg (by omega), if_pos h0, if_pos h1, h, bne_self_eq_false]
theorem differs_ns {old next : List Int} {p : Int} (h0 : 0 ≤ p) (h1 : p < next.length) (h : ¬ Sm old next p.toNat) : valiselaw15_differs.f old next p = some true := by
  obtain ⟨q, rfl⟩ := Int.eq_ofNat_of_zero_le h0
  unfold Sm was at h
  rw [Int.toNat_natCast] at h
  unfold valiselaw15_differs.f
  by_cases ho : q < old.length
  · rw [if_pos ho] at h
    rw [if_pos (by omega), if_pos h0, if_pos h1]
    congr 1
    rw [bne_iff_ne]
    exact fun e => h e.symm
  · rw [if_neg ho] at h
    rw [if_neg (by omega), if_pos h0, if_pos h1]
    congr 1
    rw [bne_iff_ne]
    exact h

/-- How many unchanged places stand behind the last changed one, ahead of p. -/
def Cnt (old next : List Int) (a p s : Int) : Prop := (p = a ∧ s = 9) ∨ ∃ z : Nat, a ≤ z ∧ (z : Int) < p ∧ ¬ Sm old next z ∧ s = p - 1 - z ∧ ∀ y : Nat, z < y → (y : Int) < p → Sm old next y

theorem cnt_sm {old next : List Int} {a p s : Int} {x0 : S41} {i : Nat} {b : Int} (hW : W old next b i x0) (ha : x0.f0 = a) (h : Cnt old next a p s) (h0 : 0 ≤ a) (hp0 : a ≤ p) (hp1 : p < wend x0) (hs : Sm old next p.toNat) : s + 1 ≤ 8 ∧ 0 ≤ s ∧ Cnt old next a (p + 1) (s + 1) := by
  obtain ⟨q, rfl⟩ := Int.eq_ofNat_of_zero_le (show 0 ≤ p by omega)
  rw [Int.toNat_natCast] at hs
  obtain ⟨z, hz1, hz2, hz3, hz4⟩ := hW.near q (by omega) hp1
  have hzq : z ≠ q := fun e => hz4 (e ▸ hs)
  rcases h with ⟨h1, h2⟩ | ⟨y, hy1, hy2, hy3, hy4, hy5⟩
  · omega
  · have : z ≤ y := by
      refine Classical.byContradiction fun hc => hz4 (hy5 z (by omega) (by omega))
    refine ⟨by omega, by omega, .inr ⟨y, hy1, by omega, hy3, by omega, fun v hv1 hv2 => ?_⟩⟩
    by_cases hvq : v = q
    · exact hvq ▸ hs
    · exact hy5 v hv1 (by omega)
theorem cnt_ns {old next : List Int} {a p : Int} (h0 : 0 ≤ a) (hp0 : a ≤ p) (hs : ¬ Sm old next p.toNat) : Cnt old next a (p + 1) 0 := by
  obtain ⟨q, rfl⟩ := Int.eq_ofNat_of_zero_le (show 0 ≤ p by omega)
  exact .inr ⟨q, hp0, by omega, hs, by omega, fun v hv1 hv2 => by omega⟩
theorem cnt_end {old next : List Int} {a s : Int} {x0 : S41} {i : Nat} {b : Int} (hW : W old next b i x0) (ha : x0.f0 = a) (h0 : 0 ≤ a) (h : Cnt old next a (wend x0) s) : s = 0 := by
  have hp := hW.pos
  have hl := hW.last
  have he : wend x0 = x0.f0 + (x0.f1.length : Int) := rfl
  rcases h with ⟨h1, h2⟩ | ⟨y, hy1, hy2, hy3, hy4, hy5⟩
  · omega
  · by_cases hc : (y : Int) = wend x0 - 1
    · omega
    · exact absurd (hy5 (wend x0 - 1).toNat (by omega) (by omega)) hl
theorem g_bounds {old next : List Int} {n : Nat} {ds : List S41} {l : Int} (h : G old next n ds l) : 0 ≤ endAt ds ds.length ∧ endAt ds ds.length ≤ (next.length : Int) := by
  cases hl : ds.length with
  | zero => simp [endAt]
  | succ j =>
    have hW := h.all j (by omega)
    have a1 := hW.from0
    have a2 := hW.beg
    have a3 := hW.fits
    have a4 : wend (rd_T41 ds ((j : Nat) : Int)) = (rd_T41 ds ((j : Nat) : Int)).f0 + ((rd_T41 ds ((j : Nat) : Int)).f1.length : Int) := rfl
    simp only [endAt]
    omega
theorem cnt_le {old next : List Int} {a p s : Int} (h0 : 0 ≤ a) (h : Cnt old next a p s) : 0 ≤ s ∧ s ≤ p + 9 := by
  rcases h with ⟨h1, h2⟩ | ⟨y, hy1, hy2, hy3, hy4, hy5⟩ <;> omega

set_option maxHeartbeats 4000000 in
set_option maxRecDepth 100000 in
theorem walk (k : Nat) (A0 : Option Addr) (c0 : Nat) (l0 : List Int) (A1 : Option Addr) (c1 : Nat) (l1 : List Int) (w : World) (hr0 : Kd.C (Kd.int .u8) w A0 l0.length l0) (hc0 : l0.length ≤ c0) (hr1 : Kd.C (Kd.int .u8) w A1 l1.length l1) (hc1 : l1.length ≤ c1)
    (hn0 : l0.length ≤ 1048576) (hn1 : l1.length ≤ 1048576) (ds : List S41) (l : Int) (hG : G l0 l1 l1.length ds l) (hcop0 : valiselaw15_copied.f k l0 = some l0) (hcop1 : valiselaw15_copied.f k l1 = some l1) (hd : plan_Diff.f k l0 l1 = some ds) (hself : plan_Diff.f k l1 l1 = some [])
    (hright : journal_right.f k (l1.length : Int) ds = some true) (hlays : lays ds (splice (List.replicate l1.length 0) 0 (l0.take l1.length)) = some l1) (hsame : valiselaw15_same.f k l1 l1 = some true) (hagain : valiselaw15_again.f k l0 l1 = some true) :
    Calls Try.prog 6 #[.slice A0 l0.length c0, .slice A1 l1.length c1] w fun e w' => e = .returned (.bool true) ∧ Below w.heap.size w w' := by
  have HG := Aside0.mk hG
  have HCP0 := Aside0.mk hcop0
  have HCP1 := Aside0.mk hcop1
  have HD := Aside0.mk hd
  have HSF := Aside0.mk hself
  have HRT := Aside0.mk hright
  have HLY := Aside0.mk hlays
  have HSM := Aside0.mk hsame
  have HAG := Aside0.mk hagain
  have HR0 := Aside0.mk hr0
  have HR1 := Aside0.mk hr1
  clear hG hcop0 hcop1 hd hself hright hlays hsame hagain hr0 hr1
  have b0 : 0 ≤ (l1.length : Int) := by omega
  have b1 : (l1.length : Int) ≤ 1048576 := by omega
  have hu41 := Try.underlying41
  have HB := Aside0.mk (Below.refl w.heap.size w)
  go_enter Try.func6, Try.ntmps6
  go_wp2_with fail
  refine (valiselaw15_copied.calls k A0 c0 l0 l0 _ HR0.out hc0 HCP0.out).mono ?_
  rintro e w1 ⟨va, rfl, hRa, hb⟩
  have HRa := Aside0.mk hRa
  have HB1 := Aside0.mk hb
  clear hRa hb
  go_wp2_with fail
  refine (valiselaw15_copied.calls k A1 c1 l1 l1 _ (Kd.C_below HR1.out HB1.out) hc1 HCP1.out).mono ?_
  rintro e w2 ⟨vb, rfl, hRb, hb⟩
  obtain ⟨Aa, ca, rfl, hca, hCa⟩ := Kd.R_reads (Kd.R_below HRa.out hb)
  obtain ⟨Ab, cb, rfl, hcb, hCb⟩ := Kd.R_reads hRb
  have HCa := Aside0.mk hCa
  have HCb := Aside0.mk hCb
  have HB2 := Aside0.mk (below_step HB1.out hb)
  clear hCa hCb hRb hb HB1 HRa
  go_wp2_with fail
  refine (plan_Diff.calls k Aa ca l0 Ab cb l1 ds _ HCa.out hca HCb.out hcb HD.out).mono ?_
  rintro e w3 ⟨vd, rfl, hS, hb⟩
  have HB3 := Aside0.mk (below_step HB2.out hb)
  obtain ⟨Ad, cd, rfl, hcd, hCd⟩ := Kd.S_reads hS
  have HCd := Aside0.mk hCd
  have HR03 := Aside0.mk (Kd.C_below HR0.out HB3.out)
  have HR13 := Aside0.mk (Kd.C_below HR1.out HB3.out)
  clear hS hCd hb HB2 HCa HCb HR0 HR1
  go_wp2
  go_loopw [6, 7] (fun v6 v7 w' => ∃ x a : Int, 0 ≤ x ∧ x ≤ ds.length ∧ v7 = .int .i64 x ∧ v6 = .int .i64 a ∧ Aside0 (a = endAt ds x.toNat) ∧ Aside0 (Below w3.heap.size w3 w')) (fun _ v7 _ => ds.length - (intOf v7).toNat)
  case atStart => exact ⟨0, 0, by omega, by omega, rfl, rfl, ⟨rfl⟩, ⟨Below.refl _ _⟩⟩
  case round =>
    obtain ⟨x, a, h0, hle, rfl, rfl, HA, HB⟩ := hrel
    by_cases hlt : x < ds.length
    · have c1b : decide (x < (ds.length : Int)) = true := decide_eq_true hlt
      obtain ⟨ad, Aw, cw, e1, hx0, hx1, hl1, hi1⟩ := at_T41 HCd.out x h0 hlt
      cases e1
      have hW := HG.out.all x.toNat (by omega)
      rw [Int.toNat_of_nonneg h0] at hW
      obtain ⟨x0, hx0d⟩ : ∃ y, y = rd_T41 ds x := ⟨_, rfl⟩
      rw [← hx0d] at hx0 hx1 hl1 hi1 hW
      have hen : endAt ds (x + 1).toNat = x0.f0 + (x0.f1.length : Int) := by
        rw [show (x + 1).toNat = x.toNat + 1 by omega]
        simp only [endAt, wend]
        rw [Int.toNat_of_nonneg h0, ← hx0d]
      have HEN := Aside0.mk hen
      have HW := Aside0.mk hW
      rw [← HA.out] at HW hW
      have w1_ := hW.pos
      have w2_ := hW.from0
      have w3_ := hW.beg
      have w4_ := hW.fits
      unfold wend at w4_
      have w5_ : x0.f0 + (x0.f1.length : Int) ≤ 1048576 := by omega
      have d1 : ((x0.f1.length : Int) == 0) = false := by rw [beq_eq_false_iff_ne]; omega
      have d2 : decide (x0.f0 < a) = false := decide_eq_false (by omega)
      have d3 : 0 < x → decide (x0.f0 < a + 9) = false := fun h => by
        have := hW.far (by omega)
        exact decide_eq_false (by omega)
      have d4 : decide (l1.length < x0.f1.length) = false := decide_eq_false (by omega)
      have d4b : decide ((l1.length : Int) < (x0.f1.length : Int)) = false := decide_eq_false (by omega)
      have d5 : decide ((l1.length : Int) - (x0.f1.length : Int) < x0.f0) = false := decide_eq_false (by omega)
      have HI := Aside0.mk hi1
      have HLc := Aside0.mk hl1
      have HD3 := Aside0.mk d3
      clear hi1 hl1 hx0d hW hen d3
      replace hx0 := (HB.out.cell (World.block_lt_of_cell? w3 _ hx0)).trans hx0
      replace hx1 := (HB.out.cell (World.block_lt_of_cell? w3 _ hx1)).trans hx1
      go_upto_region 7 with (fail)
      obtain ⟨wb, hwb⟩ : ∃ wb, wb = wr.alloc (.cells #[.int .i64 x0.f0, .slice Aw x0.f1.length cw] 41) := ⟨_, rfl⟩
      rw [← hwb]
      have hk0 : wb.cell? ⟨wr.heap.size, 0, none⟩ = some (.int .i64 x0.f0) := by rw [hwb]; exact blk_cell (blk_new wr _) 0
      have hk1 : wb.cell? ⟨wr.heap.size, 1, none⟩ = some (.slice Aw x0.f1.length cw) := by rw [hwb]; exact blk_cell (blk_new wr _) 1
      have HBb := Aside0.mk (show Below w3.heap.size w3 wb by rw [hwb]; exact below_alloc HB.out _)
      clear hwb hx0 hx1
      generalize wr.heap.size = gb at hk0 hk1 ⊢
      clear HB
      have HIb := Aside0.mk (Kd.C_below HI.out HBb.out)
      have HR0b := Aside0.mk (Kd.C_below HR03.out HBb.out)
      have HR1b := Aside0.mk (Kd.C_below HR13.out HBb.out)
      have hmx : x + 1 ≤ 9223372036854775807 := by have := lmax HCd.out; omega
      by_cases hxp : 0 < x
      case' pos =>
        have d6 : decide (0 < x) = true := decide_eq_true hxp
        have d7 := HD3.out hxp
        go_wp2
      case' neg =>
        have d6 : decide (0 < x) = false := decide_eq_false hxp
        go_wp2
      all_goals
        go_loopw [9] (fun v9 w' => ∃ p : Int, a ≤ p ∧ p ≤ x0.f0 ∧ v9 = .int .i64 p ∧ Drawn0 wb w') (fun v9 _ => (x0.f0 - intOf v9).toNat)
        case atStart => exact ⟨a, by omega, by omega, rfl, Drawn0.refl _⟩
        case round =>
          obtain ⟨p, hp0, hp1, rfl, ⟨m, rfl⟩⟩ := hrel
          by_cases hpl : p < x0.f0
          · have c2b : decide (p < x0.f0) = true := decide_eq_true hpl
            have hdf : valiselaw15_differs.f l0 l1 p = some false := differs_sm (by omega) (by omega) (HW.out.gap p.toNat (by omega) (by omega))
            have HDF := Aside0.mk hdf
            clear hdf
            go_wp2_with (go_at_call 18; refine (valiselaw15_differs.calls _ _ _ _ _ _ _ false _ (Kd.C_drewN HR0b.out _) hc0 (Kd.C_drewN HR1b.out _) hc1 HDF.out).mono ?_; rintro e w7 ⟨rfl, ⟨m7, rfl⟩⟩)
            go_roundw
            case rel => exact ⟨p + 1, by omega, by omega, by first | rfl | go_num, by repeat (first | exact Drawn0.refl _ | apply Drawn0.step)⟩
            case measure => simp only [intOf]; omega
          · obtain rfl : p = x0.f0 := by omega
            have c2b : decide (x0.f0 < x0.f0) = false := decide_eq_false hpl
            go_wp2
            go_loopw [10, 11] (fun v10 v11 w' => ∃ q s : Int, x0.f0 ≤ q ∧ q ≤ x0.f0 + (x0.f1.length : Int) ∧ v10 = .int .i64 s ∧ v11 = .int .i64 q ∧ Aside0 (Cnt l0 l1 x0.f0 q s) ∧ Drawn0 wb w') (fun _ v11 _ => (x0.f0 + (x0.f1.length : Int) - intOf v11).toNat)
            case atStart => exact ⟨x0.f0, 9, by omega, by omega, rfl, rfl, ⟨.inl ⟨rfl, rfl⟩⟩, Drawn0.step (Drawn0.refl _) _⟩
            case round =>
              obtain ⟨q, s, hq0, hq1, rfl, rfl, HC, ⟨m2, rfl⟩⟩ := hrel
              have hsl := cnt_le (by omega) HC.out
              have hs0 : 0 ≤ s := hsl.1
              have hs1 : s ≤ q + 9 := hsl.2
              clear hsl
              by_cases hql : q < x0.f0 + (x0.f1.length : Int)
              · have c3b : decide (q < x0.f0 + (x0.f1.length : Int)) = true := decide_eq_true hql
                have g0 : 0 ≤ q - x0.f0 := by omega
                have g1 : q - x0.f0 < (x0.f1.length : Int) := by omega
                have g2 : 0 ≤ q := by omega
                have g3 : q < (l1.length : Int) := by omega
                obtain ⟨ae, e2, he⟩ := Kd.at_int HIb.out (q - x0.f0) g0 g1
                cases e2
                obtain ⟨an, e3, hn⟩ := Kd.at_int HR1b.out q g2 g3
                cases e3
                have hdat := HW.out.data q.toNat (by omega) (by unfold wend; omega)
                rw [Int.toNat_of_nonneg g2] at hdat
                rw [hdat] at he
                clear hdat
                have d8 : (rd l1 q != rd l1 q) = false := bne_self_eq_false _
                by_cases hsm : Sm l0 l1 q.toNat
                · have HDF := Aside0.mk (differs_sm g2 g3 hsm)
                  have hcs := cnt_sm HW.out rfl HC.out (by omega) hq0 (by unfold wend; omega) hsm
                  have HC2 := Aside0.mk hcs.2.2
                  have d9 : decide (8 < s + 1) = false := decide_eq_false (by have := hcs.1; omega)
                  clear hcs hsm HC
                  go_wp2
                  go_quiet (fail)
                  go_wp2_with (go_at_call 18; refine (valiselaw15_differs.calls _ _ _ _ _ _ _ false _ (Kd.C_drewN HR0b.out _) hc0 (Kd.C_drewN HR1b.out _) hc1 HDF.out).mono ?_; rintro e w7 ⟨rfl, ⟨m7, rfl⟩⟩)
                  go_roundw
                  case rel => exact ⟨q + 1, s + 1, by omega, by omega, rfl, rfl, HC2, by repeat (first | exact Drawn0.refl _ | apply Drawn0.step)⟩
                  case measure => simp only [intOf]; omega
                · have HDF := Aside0.mk (differs_ns g2 g3 hsm)
                  have HC2 := Aside0.mk (cnt_ns (by omega) hq0 hsm)
                  clear hsm HC
                  go_wp2
                  go_quiet (fail)
                  go_wp2_with (go_at_call 18; refine (valiselaw15_differs.calls _ _ _ _ _ _ _ true _ (Kd.C_drewN HR0b.out _) hc0 (Kd.C_drewN HR1b.out _) hc1 HDF.out).mono ?_; rintro e w7 ⟨rfl, ⟨m7, rfl⟩⟩)
                  go_roundw
                  case rel => exact ⟨q + 1, 0, by omega, by omega, rfl, rfl, HC2, by repeat (first | exact Drawn0.refl _ | apply Drawn0.step)⟩
                  case measure => simp only [intOf]; omega
              · obtain rfl : q = x0.f0 + (x0.f1.length : Int) := by omega
                obtain rfl : s = 0 := cnt_end HW.out rfl (by omega) HC.out
                have c3b : decide (x0.f0 + (x0.f1.length : Int) < x0.f0 + (x0.f1.length : Int)) = false := decide_eq_false hql
                go_wp2
                go_roundw
                case rel => exact ⟨x + 1, x0.f0 + (x0.f1.length : Int), by omega, by omega, rfl, rfl, ⟨HEN.out.symm⟩, ⟨by repeat (first | exact HBb.out | apply pw_below_drewN | apply below_drew)⟩⟩
                case measure => simp only [intOf]; omega
    · obtain rfl : x = ds.length := by omega
      have c1b : decide ((ds.length : Int) < (ds.length : Int)) = false := decide_eq_false hlt
      have hrest : ∀ q : Int, a ≤ q → 0 ≤ q → q < l1.length → Sm l0 l1 q.toNat := fun q h1 h2 h3 => HG.out.rest q.toNat (by have := HG.out.fin; have := HA.out; rw [Int.toNat_natCast] at this; omega) (by omega)
      have hbd := g_bounds HG.out
      have ha := HA.out
      rw [Int.toNat_natCast] at ha
      rw [← ha] at hbd
      have ha0 : 0 ≤ a := hbd.1
      have ha1 : a ≤ (l1.length : Int) := hbd.2
      have HRS := Aside0.mk hrest
      have HR0r := Aside0.mk (Kd.C_below HR03.out HB.out)
      have HR1r := Aside0.mk (Kd.C_below HR13.out HB.out)
      have HCr := Aside0.mk (Kd.C_below HCd.out HB.out)
      have HBw := Aside0.mk (below_step HB3.out HB.out)
      clear hrest ha hbd
      go_wp2
      go_loopw [12] (fun v12 w' => ∃ p : Int, a ≤ p ∧ p ≤ l1.length ∧ v12 = .int .i64 p ∧ Drawn0 wr w') (fun v12 _ => (l1.length - intOf v12).toNat)
      case atStart => exact ⟨a, by omega, by omega, rfl, Drawn0.refl _⟩
      case round =>
        obtain ⟨p, hp0, hp1, rfl, ⟨m, rfl⟩⟩ := hrel
        by_cases hpl : p < l1.length
        · have c2b : decide (p < (l1.length : Int)) = true := decide_eq_true hpl
          have HDF := Aside0.mk (differs_sm (by omega) hpl (HRS.out p hp0 (by omega) hpl))
          go_wp2_with (go_at_call 18; refine (valiselaw15_differs.calls _ _ _ _ _ _ _ false _ (Kd.C_drewN HR0r.out _) hc0 (Kd.C_drewN HR1r.out _) hc1 HDF.out).mono ?_; rintro e w7 ⟨rfl, ⟨m7, rfl⟩⟩)
          go_roundw
          case rel => exact ⟨p + 1, by omega, by omega, rfl, by repeat (first | exact Drawn0.refl _ | apply Drawn0.step)⟩
          case measure => simp only [intOf]; omega
        · have c2b : decide (p < (l1.length : Int)) = false := decide_eq_false hpl
          have t1 : decide ((16777216 : Int) < (l0.length : Int)) = false := decide_eq_false (by omega)
          have t2 : decide ((16777216 : Int) < (l1.length : Int)) = false := decide_eq_false (by omega)
          go_wp2_with fail
          refine (Apl.calls k A0 c0 l0 l1.length Ad cd ds l1 _ (Kd.C_drewN HR0r.out _) hc0 (Kd.C_drewN HCr.out _) hcd (by omega) (by omega) HRT.out HLY.out).mono ?_
          rintro e w7 ⟨vm, rfl, hR, hb⟩
          obtain ⟨Am, cm, rfl, hcm, hCm⟩ := Kd.R_reads hR
          have HB7 := Aside0.mk (below_step (by repeat (first | exact HBw.out | apply pw_below_drewN | apply below_drew)) hb)
          have HM := Aside0.mk hCm
          have HR17 := Aside0.mk (Kd.C_below (Kd.C_drewN HR1r.out m) hb)
          have HR07 := Aside0.mk (Kd.C_below (Kd.C_drewN HR0r.out m) hb)
          clear hR hb hCm
          go_wp2_with fail
          refine (valiselaw15_same.calls k Am cm l1 A1 c1 l1 true _ HM.out hcm HR17.out hc1 HSM.out).mono ?_
          rintro e w8 ⟨rfl, ⟨m8, rfl⟩⟩
          go_wp2_with fail
          refine (plan_Diff.calls k A1 c1 l1 A1 c1 l1 [] _ (Kd.C_drewN HR17.out _) hc1 (Kd.C_drewN HR17.out _) hc1 HSF.out).mono ?_
          rintro e w9 ⟨ve, rfl, hS, hb⟩
          obtain ⟨Ae, ce, rfl, _, _⟩ := Kd.S_reads hS
          have HB9 := Aside0.mk (below_step (pw_below_drewN HB7.out m8) hb)
          have HR19 := Aside0.mk (Kd.C_below (Kd.C_drewN HR17.out m8) hb)
          have HR09 := Aside0.mk (Kd.C_below (Kd.C_drewN HR07.out m8) hb)
          clear hS hb
          go_wp2_with fail
          refine (valiselaw15_again.calls k A0 c0 l0 A1 c1 l1 true _ HR09.out hc0 HR19.out hc1 HAG.out).mono ?_
          rintro e w10 ⟨rfl, hb⟩
          have HB10 := Aside0.mk (below_step HB9.out hb)
          clear hb
          go_wp2
          go_ret
          exact ⟨rfl, HB10.out⟩
end Go.Proofs.Ytallfhhncibkpaa.DiffWalk
