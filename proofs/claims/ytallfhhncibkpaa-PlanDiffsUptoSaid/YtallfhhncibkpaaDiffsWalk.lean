/- PlanDiffs, the walk: where both Diffs and sameWrites tell what is given, the law returns true. -/
import Derived.Test.YtallfhhncibkpaaHand
import Derived.Test.YtallfhhncibkpaaQ3
namespace Go.Proofs.Ytallfhhncibkpaa.DiffsWalk
open Go.RowKit Go.Proofs.Ytallfhhncibkpaa.Q Go.Proofs.Ytallfhhncibkpaa.Hand Go.Proofs.YtallfhhncibkpaaW.PrintWords Go.Proofs.YtallfhhncibkpaaW.PrintLast Go.Proofs.YtallfhhncibkpaaW.PrintMore
set_option linter.unusedVariables false
set_option linter.unusedSimpArgs false

theorem take_marks (l : List Int) : (l ++ marks 8).take l.length = l := by simp

theorem room_reads {w : World} {base : Nat} {ok : Nat → Prop} {A : Option Addr} {c : Nat} {l : List Int} (h : Kd.R (Kd.int .u8) 5 w base ok (.slice A (l.length + 8) c) (l ++ marks 8)) :
    Kd.C (Kd.int .u8) w A (l.length + 8) (l ++ marks 8) ∧ l.length + 8 ≤ c ∧ Kd.C (Kd.int .u8) w A l.length l := by
  have h1 := Kd.R_reads' h
  have h2 := Kd.R_reads' (Kd.R_take (m := l.length) h (by simp))
  rw [take_marks] at h2
  have e : (l ++ marks 8).length = l.length + 8 := by simp [marks]
  rw [e] at h1
  exact ⟨h1.2.2, h1.2.1, h2.2.2⟩

set_option maxHeartbeats 1000000 in
set_option maxRecDepth 100000 in
theorem walk (k : Nat) (A0 : Option Addr) (c0 : Nat) (l0 : List Int) (A1 : Option Addr) (c1 : Nat) (l1 : List Int) (w : World) (hr0 : Kd.C (Kd.int .u8) w A0 l0.length l0) (hc0 : l0.length ≤ c0) (hr1 : Kd.C (Kd.int .u8) w A1 l1.length l1) (hc1 : l1.length ≤ c1)
    (hn0 : l0.length ≤ 140737488355000) (hn1 : l1.length ≤ 140737488355000) (r r' : List S41) (hd : plan_Diff.f k l0 l1 = some r) (hd' : valiseref15_Diff.f k l0 l1 = some r') (hs : valiselaw15_sameWrites.f k r r' = some true) :
    Calls Try.prog 5 #[.slice A0 l0.length c0, .slice A1 l1.length c1] w fun e w' => e = .returned (.bool true) ∧ Below w.heap.size w w' := by
  have Hd := Aside0.mk hd
  have Hd' := Aside0.mk hd'
  have Hs := Aside0.mk hs
  clear hd hd' hs
  have HB := Aside0.mk (Below.refl w.heap.size w)
  go_enter Try.func5, Try.ntmps5
  go_wp2_with fail
  refine (lent_calls A0 c0 l0 _ hr0 hc0 hn0).mono ?_
  rintro e w1 ⟨Aa, ca, rfl, hRa, hb⟩
  have HRa := Aside0.mk hRa
  have HB1 := Aside0.mk hb
  have HR1 := Aside0.mk (Kd.C_below hr1 hb)
  clear hRa hb
  go_wp2_with fail
  refine (lent_calls A1 c1 l1 _ HR1.out hc1 hn1).mono ?_
  rintro e w2 ⟨Ab, cb, rfl, hRb, hb⟩
  have HRa2 := Aside0.mk (Kd.R_below HRa.out hb)
  have HB2 := Aside0.mk (below_step HB1.out hb)
  have HRb := Aside0.mk hRb
  clear hRb hb HRa HB1 HR1
  go_wp2_with fail
  refine (plan_Diff.calls k Aa ca l0 Ab cb l1 r _ (room_reads HRa2.out).2.2 (by have := (room_reads HRa2.out).2.1; omega) (room_reads HRb.out).2.2 (by have := (room_reads HRb.out).2.1; omega) Hd.out).mono ?_
  rintro e w3 ⟨vd, rfl, hS, hb⟩
  have HRa3 := Aside0.mk (Kd.R_below HRa2.out hb)
  have HRb3 := Aside0.mk (Kd.R_below HRb.out hb)
  have HB3 := Aside0.mk (below_step HB2.out hb)
  have HS := Aside0.mk hS
  clear hS hb HRa2 HRb HB2
  go_wp2_with fail
  refine (valiseref15_Diff.calls k A0 c0 l0 A1 c1 l1 r' _ (Kd.C_below hr0 HB3.out) hc0 (Kd.C_below hr1 HB3.out) hc1 Hd'.out).mono ?_
  rintro e w4 ⟨ve, rfl, hS, hb⟩
  have HRa4 := Aside0.mk (Kd.R_below HRa3.out hb)
  have HRb4 := Aside0.mk (Kd.R_below HRb3.out hb)
  have HB4 := Aside0.mk (below_step HB3.out hb)
  have HS4 := Aside0.mk (Kd.S_below HS.out hb)
  have HSe := Aside0.mk hS
  clear hS hb HRa3 HRb3 HB3 HS
  obtain ⟨Ad, cd, ed, hcd, hCd⟩ := Kd.S_reads HS4.out
  obtain ⟨Ae, ce, ee, hce, hCe⟩ := Kd.S_reads HSe.out
  subst ed ee
  have HCd := Aside0.mk hCd
  have HCe := Aside0.mk hCe
  clear hCd hCe
  go_wp2_with fail
  refine (valiselaw15_sameWrites.calls k Ad cd r Ae ce r' true _ HCd.out hcd HCe.out hce Hs.out).mono ?_
  rintro e w5 ⟨rfl, ⟨m5, rfl⟩⟩
  go_wp2_with fail
  refine (still_calls Aa ca A0 c0 l0 _ (Kd.C_drewN (room_reads HRa4.out).1 m5) (room_reads HRa4.out).2.1 (Kd.C_drewN (Kd.C_below hr0 HB4.out) m5) hc0 hn0).mono ?_
  rintro e w6 ⟨rfl, ⟨m6, rfl⟩⟩
  go_wp2_with fail
  refine (still_calls Ab cb A1 c1 l1 _ (Kd.C_drewN (room_reads HRb4.out).1 (m5 + m6)) (room_reads HRb4.out).2.1 (Kd.C_drewN (Kd.C_below hr1 HB4.out) (m5 + m6)) hc1 hn1).mono ?_
  rintro e w7 ⟨rfl, ⟨m7, rfl⟩⟩
  go_wp2
  go_ret
  exact ⟨rfl, by repeat (first | exact HB4.out | apply pw_below_drewN | apply below_drew)⟩
end Go.Proofs.Ytallfhhncibkpaa.DiffsWalk
