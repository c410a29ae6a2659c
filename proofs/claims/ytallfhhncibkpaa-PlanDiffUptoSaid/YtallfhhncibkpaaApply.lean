/- Own walk: journal.Apply: the content, with each write laid over it. -/
import Derived.Test.YtallfhhncibkpaaCpy
import Derived.Test.YtallfhhncibkpaaQ1
import Derived.Test.YtallfhhncibkpaaQ2
import Derived.Test.YtallfhhncibkpaaQ3
import Derived.Test.YtallfhhncibkpaaQ4
import Derived.Test.YtallfhhncibkpaaQ5
import Derived.Outline
import Derived.Deep.DeepMust
namespace Go.Proofs.Ytallfhhncibkpaa.Apl
open Go.RowKit Go.Proofs.Ytallfhhncibkpaa.Q Go.Proofs.Ytallfhhncibkpaa.Cpy Go.Proofs.YtallfhhncibkpaaW.PrintWords Go.Proofs.YtallfhhncibkpaaW.PrintLast Go.Proofs.YtallfhhncibkpaaW.PrintMore
attribute [local go_sem] max2_int min2_int max_two min_two max_three min_three max_four min_four
set_option linter.unusedVariables false
set_option linter.unusedSimpArgs false

/-- One write laid over a text. -/
def lay (nx : List Int) (x : S41) : List Int := splice nx x.f0.toNat (x.f1.take (nx.length - x.f0.toNat))
/-- All, in their order; none: one begins outside. -/
def lays : List S41 → List Int → Option (List Int)
  | [], nx => some nx
  | x :: l, nx => if 0 ≤ x.f0 ∧ x.f0 < (nx.length : Int) then lays l (lay nx x) else none

theorem size5 : (Try.prog.info? 5).map (·.size) = some 1 := by kernel_rfl
theorem lay_length (nx : List Int) (x : S41) (h0 : 0 ≤ x.f0) (h1 : x.f0 < (nx.length : Int)) : (lay nx x).length = nx.length := by
  unfold lay
  rw [length_splice _ _ _ (by rw [List.length_take]; omega)]

theorem lmax {α : Type} {d : Kd α} {w : World} {A : Option Addr} {n : Nat} {xs : List α} (h : Kd.C d w A n xs) : n ≤ 9223372036854775807 := h.2.1
theorem drop_cons (l : List S41) (x : Int) (h0 : 0 ≤ x) (h1 : x < l.length) : l.drop x.toNat = rd_T41 l x :: l.drop (x + 1).toNat := by
  have h : x.toNat < l.length := by omega
  rw [List.drop_eq_getElem_cons h, show (x + 1).toNat = x.toNat + 1 from by omega]
  congr 1
  simp [rd_T41, List.getD_eq_getElem?_getD, List.getElem?_eq_getElem h]

set_option maxHeartbeats 2000000 in
set_option maxRecDepth 100000 in
theorem calls (k : Nat) (A0 : Option Addr) (c0 : Nat) (l0 : List Int) (n : Nat) (A2 : Option Addr) (c2 : Nat) (l2 : List S41) (r : List Int) (w : World) (hr0 : Kd.C (Kd.int .u8) w A0 l0.length l0) (hc0 : l0.length ≤ c0) (hr2 : Kd.C k41 w A2 l2.length l2) (hc2 : l2.length ≤ c2)
    (hn0 : l0.length ≤ 16777216) (hn : n ≤ 16777216) (hright : journal_right.f k (n : Int) l2 = some true) (hl : lays l2 (splice (List.replicate n 0) 0 (l0.take n)) = some r) :
    Calls Try.prog 19 #[.slice A0 l0.length c0, .int .i64 (n : Int), .slice A2 l2.length c2] w fun e w' => ∃ v, e = .returned (.tuple #[v, .int .i64 0]) ∧ Kd.R (Kd.int .u8) 5 w' w.heap.size (fun _ => True) v r ∧ Below w.heap.size w w' := by
  have HR0 := Aside0.mk hr0
  have HR2 := Aside0.mk hr2
  have Hl := Aside0.mk hl
  have Hright := Aside0.mk hright
  have HB := Aside0.mk (Below.refl w.heap.size w)
  have Hn := Aside0.mk hn
  clear hr0 hr2 hl hright
  have hu41 := Try.underlying41
  have b0 : 0 ≤ (l0.length : Int) := by omega
  have b1 : (l0.length : Int) ≤ 16777216 := by omega
  have b2 : 0 ≤ (n : Int) := by omega
  have b3 : (n : Int) ≤ 16777216 := by omega
  have hs0 : journal_sized.f (l0.length : Int) = some true := by unfold journal_sized.f; rw [if_pos (by omega), decide_eq_true b1]
  have hs1 : journal_sized.f (n : Int) = some true := by unfold journal_sized.f; rw [if_pos (by omega), decide_eq_true b3]
  go_enter Try.func19, Try.ntmps19
  go_wp2_with fail
  refine (journal_sized.calls _ true _ hs0).mono ?_
  rintro e w1 ⟨rfl, ⟨m1, rfl⟩⟩
  go_wp2_with fail
  refine (journal_sized.calls _ true _ hs1).mono ?_
  rintro e w1 ⟨rfl, ⟨m2, rfl⟩⟩
  go_wp2_with fail
  refine (journal_right.calls k (n : Int) A2 c2 l2 true _ (Kd.C_drewN HR2.out _) hc2 Hright.out).mono ?_
  rintro e w1 ⟨rfl, hb⟩
  have HB1 := Aside0.mk (below_step (by repeat (first | exact HB.out | apply pw_below_drewN | apply below_drew)) hb)
  clear hb
  go_wp2_with (first | ((with_reducible refine gate_dst (N := 25) rfl ?_); refine Kd.R_make (Kd.int .u8) (w0 := w) w.heap.size 5 rfl (N := 25) rfl 34 _ _ rfl (n : Int) rfl rfl Try.underlying34 (.int .u8 0) 1 info5 rfl (by decide) (by omega) 0 (ok := fun _ => True) (okp := fun _ => True) rfl (fun _ h => h) trivial b2 ?hl ?hB ?hs ?_; (case hl => (have := Hn.out; omega)); (case hB => exact HB1.out); (case hs => exact below_size HB1.out); intro v w2 hR hb hg hat; obtain ⟨g, c, rfl, _⟩ := made_form hR hat; rw [Int.toNat_natCast, List.length_replicate] at hR; have n0_ := Aside0.mk hR; have n1_ := Aside0.mk hb; clear hR hb hg hat) | ((with_reducible refine gate_dst (N := 28) rfl ?_); refine R_copy (w0 := w) rfl (.tmp 26) (.tmp 27) 34 34 rfl Try.underlying34 size5 n0_.out 0 n c l0.length c0 A0 l0 rfl rfl ?kf ?kC n1_.out ?_; (case kf => simp; done); (case kC => exact Kd.C_below HR0.out n1_.out); intro w3 hR hg hb; have n2_ := Aside0.mk hR; have n3_ := Aside0.mk hb; clear hR hb hg))
  have e0 : splice (List.replicate n 0) 0 (l0.take n) = splice (List.replicate n 0) 0 (l0.take n) := rfl
  have hlen0 : (splice (List.replicate n (0 : Int)) 0 (l0.take n)).length = n := by rw [length_splice _ _ _ (by rw [List.length_take, List.length_replicate]; omega), List.length_replicate]
  have HL0 := Aside0.mk hlen0
  clear e0 hlen0 n0_ n1_ HB1 Hright b0 b1 b3
  go_loopw [31] (fun v31 w' => ∃ (x : Int) (cur : List Int), 0 ≤ x ∧ x ≤ l2.length ∧ v31 = .int .i64 x ∧ Aside0 (cur.length = n) ∧ Aside0 (lays (l2.drop x.toNat) cur = some r) ∧ Aside0 (Kd.R (Kd.int .u8) 5 w' w.heap.size (fun _ => True) (.slice (some ⟨g, 0, none⟩) n c) cur) ∧ Aside0 (Below w.heap.size w w')) (fun v31 _ => l2.length - (intOf v31).toNat)
  case atStart => exact ⟨0, _, by omega, by omega, rfl, HL0, Hl, n2_, n3_⟩
  case round =>
    clear n2_ n3_ Hl HL0
    obtain ⟨x, cur, h0, hle, rfl, HN, HL, HR, HB⟩ := hrel
    by_cases hlt : x < l2.length
    · have c1b : decide (x < (l2.length : Int)) = true := decide_eq_true hlt
      obtain ⟨ad, A1, c1, e1, hx0, hx1, hl1, hi1⟩ := at_T41 HR2.out x h0 hlt
      cases e1
      have hL := HL.out
      rw [drop_cons l2 x h0 hlt] at hL
      simp only [lays] at hL
      obtain ⟨x0, hx0d⟩ : ∃ y, y = rd_T41 l2 x := ⟨_, rfl⟩
      rw [← hx0d] at hx0 hx1 hl1 hi1 hL
      have HX := Aside0.mk hx0d
      clear hx0d HL
      by_cases hg0 : 0 ≤ x0.f0 ∧ x0.f0 < (cur.length : Int)
      · rw [if_pos hg0] at hL
        have HL2 := Aside0.mk hL
        have hg1 : 0 ≤ x0.f0 := hg0.1
        have hg2 : x0.f0 < (n : Int) := by have := HN.out; omega
        have HI := Aside0.mk hi1
        have HLc := Aside0.mk hl1
        clear hL hi1 hl1 hg0
        replace hx0 := (HB.out.cell (World.block_lt_of_cell? w _ hx0)).trans hx0
        replace hx1 := (HB.out.cell (World.block_lt_of_cell? w _ hx1)).trans hx1
        obtain ⟨i0, hi0, _, hsz, _⟩ := info_parts info5
        have hcut := cut_from (P := Try.prog) 34 5 .i64 Try.underlying34 hi0 1 hsz (some ⟨g, 0, none⟩) n c x0.f0 hg1 (by omega)
        have hnc : n ≤ c := (Kd.R_reads' HR.out).2.1
        rw [if_neg (by omega), Option.map_some, Nat.mul_one, add_plain] at hcut
        clear hi0 hsz hnc
        have HI2 := Aside0.mk (Kd.C_below HI.out HB.out)
        go_upto_region 10 with (fail)
        go_region_law (first | (refine R_copy_step (w0 := w) rfl (.tmp 38) (.tmp 40) 34 34 rfl Try.underlying34 size5 (Kd.R_drew (Kd.R_alloc HR.out _)) x0.f0.toNat (n - x0.f0.toNat) (c - x0.f0.toNat) x0.f1.length c1 A1 x0.f1 rfl rfl ?k1 (Kd.C_drew (Kd.C_alloc HI2.out _)) (below_drew (below_alloc HB.out _)) ?_; (case k1 => (have := HN.out; omega)); intro w4 hR4 hg4 hb4; have n4_ := Aside0.mk hR4; have n5_ := Aside0.mk hb4; clear hR4 hg4 hb4))
        all_goals
          go_wp2
          have hx9 : wrap64 (x + 1) = x + 1 := by have := lmax HR2.out; unfold wrap64; omega
          go_roundw
          case rel =>
            have e2 : splice cur x0.f0.toNat (List.take (n - x0.f0.toNat) x0.f1) = lay cur x0 := by unfold lay; rw [HN.out]
            refine ⟨x + 1, lay cur x0, by omega, by omega, by rw [hx9], ⟨?_⟩, HL2, ⟨by rw [← e2]; exact n4_.out⟩, n5_⟩
            rw [lay_length _ _ hg1 (by have := HN.out; omega)]
            exact HN.out
          case measure => simp only [hx9, intOf]; omega
      · rw [if_neg hg0] at hL
        cases hL
    · obtain rfl : x = l2.length := by omega
      have c1b : decide ((l2.length : Int) < (l2.length : Int)) = false := decide_eq_false hlt
      have hL := HL.out
      rw [Int.toNat_natCast, List.drop_length] at hL
      simp only [lays] at hL
      obtain rfl := Option.some.inj hL
      clear hL
      go_wp2
      go_ret2
      exact ⟨_, rfl, HR.out, HB.out⟩
end Go.Proofs.Ytallfhhncibkpaa.Apl
