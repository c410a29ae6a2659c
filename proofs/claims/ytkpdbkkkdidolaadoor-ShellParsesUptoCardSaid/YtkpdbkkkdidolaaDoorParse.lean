/- Own walk: shell.Parse tells what the plain function Pr tells. -/
import Derived.Test.YtkpdbkkkdidolaaDoorQ4
import Derived.Test.YtkpdbkkkdidolaaDoorTrim
import Derived.Outline
import Derived.Deep.RegionLaw
namespace Go.Proofs.YtkpdbkkkdidolaaDoor.Prs
open Go.RowKit Go.Proofs.YtkpdbkkkdidolaaDoor.Q Go.Proofs.YtkpdbkkkdidolaaDoor.Trim Go.Proofs.YtkpdbkkkdidolaaDoorW.PrintWords Go.Proofs.YtkpdbkkkdidolaaDoorW.PrintLast Go.Proofs.YtkpdbkkkdidolaaDoorW.PrintMore
attribute [local go_sem] max2_int min2_int max_two min_two max_three min_three max_four min_four
set_option linter.unusedVariables false
set_option linter.unusedSimpArgs false

mutual
def Pr.l0 : Nat → ByteArray → List ByteArray → Option (List ByteArray × Bool)
  | 0, _, _ => none
  | k + 1, x0, x4 => (strings_trimLeftByte.f k x0 32).bind fun t =>
      if t.size = 0 then some (x4, true)
      else if bt t 0 = 34 then (shell_quoted.f k t).bind fun q =>
        if q.2 = 0 then some ([], false)
        else if 0 ≤ q.2 ∧ q.2 ≤ (t.size : Int) then
          if q.2 < (t.size : Int) ∧ bt t q.2 ≠ 32 then some ([], false)
          else if x4.length < 1048577 then Pr.l0 k (t.extract q.2.toNat t.size) (x4 ++ [q.1]) else none
        else none
      else Pr.l1 k t x4 0
def Pr.l1 : Nat → ByteArray → List ByteArray → Int → Option (List ByteArray × Bool)
  | 0, _, _, _ => none
  | k + 1, t, x4, n => if n < (t.size : Int) ∧ bt t n ≠ 32 then (shell_bare.f (bt t n)).bind fun b => if b = true then Pr.l1 k t x4 (n + 1) else some ([], false)
      else if x4.length < 1048577 then Pr.l0 k (t.extract n.toNat t.size) (x4 ++ [t.extract 0 n.toNat]) else none
end

theorem nonempty_of {s : ByteArray} (h : s.size ≠ 0) : (s.toList == ([] : List UInt8)) = false := by
  rw [beq_eq_false_iff_ne]
  exact fun e => h (empty_of e)
theorem isempty_of {s : ByteArray} (h : s.size = 0) : (s.toList == ([] : List UInt8)) = true := by
  rw [beq_iff_eq]
  have : s.toList = s.data.toList := by obtain ⟨⟨l⟩⟩ := s; simp
  rw [this]
  apply List.eq_nil_of_length_eq_zero
  rw [Array.length_toList, ByteArray.size_data]
  exact h

theorem one_read {w : World} {ad : Addr} {x : ByteArray} (h : w.cell? ad = some (.string x)) : ReadsRow (fun (p : ByteArray) c => c = [Value.string p]) Kd.string.sz w (some ad) 1 [x] := by
  refine ⟨rfl, by omega, fun _ => ⟨ad, rfl, fun j p hj => ?_⟩⟩
  cases j with
  | zero =>
    obtain rfl : x = p := by simpa using hj
    refine ⟨[.string x], rfl, rfl, fun i u hu => ?_⟩
    cases i with
    | zero =>
      obtain rfl : Value.string x = u := by simpa using hu
      have e : ad.add (0 * Kd.string.sz + 0) = ad := by simp [Addr.add]
      rw [e]
      exact h
    | succ i => simp at hu
  | succ j => simp at hj
theorem lim_of {α : Type} {x : List α} (h : x.length < 1048577) : (x.length + 1) * 16 ≤ 140737488355328 := by omega
theorem str_from (t : ByteArray) (n : Int) (h0 : 0 ≤ n) (h1 : n ≤ (t.size : Int)) (W : World) : (Instr.slice 9 (.string t) (some (.int .i64 n)) none none).run Tryd.prog W = .ok (.string (t.extract n.toNat t.size)) W := by
  go_simp
theorem str_to (t : ByteArray) (n : Int) (h0 : 0 ≤ n) (h1 : n ≤ (t.size : Int)) (W : World) : (Instr.slice 9 (.string t) none (some (.int .i64 n)) none).run Tryd.prog W = .ok (.string (t.extract 0 n.toNat)) W := by
  go_simp
theorem trim_le : ∀ {k : Nat} {s t : ByteArray} {c : Int} {n : Nat}, strings_trimLeftByte.f k s c = some t → s.size ≤ n → t.size ≤ n
  | 0, s, t, c, n, h, hs => by simp [strings_trimLeftByte.f, strings_trimLeftByte.l0] at h
  | k + 1, s, t, c, n, h, hs => by
    simp only [strings_trimLeftByte.f, strings_trimLeftByte.l0] at h
    by_cases h1 : (s.size : Int) > 0
    · rw [if_pos h1, if_pos (by omega)] at h
      by_cases h2 : bt s 0 = c
      · rw [if_pos h2, if_pos (by omega)] at h
        exact trim_le (k := k) h (by rw [ByteArray.size_extract]; omega)
      · rw [if_neg h2] at h
        obtain rfl := Option.some.inj h
        exact hs
    · rw [if_neg h1] at h
      obtain rfl := Option.some.inj h
      exact hs

set_option maxHeartbeats 2000000 in
set_option maxRecDepth 100000 in
theorem parse_calls (k : Nat) (s : ByteArray) (r1 : List ByteArray) (r2 : Bool) (w : World) (hs : s.size ≤ 1048576) (h : Pr.l0 k s [] = some (r1, r2)) :
    Calls Tryd.prog 4 #[.string s] w fun e w' => ∃ v : Value, e = .returned (.tuple #[v, .bool r2]) ∧ Kd.R Kd.string 9 w' w.heap.size (fun _ => True) v r1 ∧ Below w.heap.size w w' := by
  have HB0 := Aside0.mk (Below.refl w.heap.size w)
  have HA0 := Aside0.mk h
  have HS0 := Aside0.mk hs
  clear h hs
  go_enter Tryd.func4, Tryd.ntmps4
  go_wp2
  go_step3
  go_wp2
  go_step3
  go_wp2
  go_loopg [0, 4] k (fun kq v0 v4 w' => ∃ (x0 : ByteArray) (x4 : List ByteArray) (y4 : Value), v0 = .string x0 ∧ y4 = v4 ∧ Aside0 (Pr.l0 kq x0 x4 = some (r1, r2)) ∧ Aside0 (kq ≤ k) ∧ Aside0 (x0.size ≤ 1048576) ∧ Aside0 (Kd.R Kd.string 9 w' w.heap.size (fun _ => True) y4 x4) ∧ Aside0 (Below w.heap.size w w'))
  case atStart => exact ⟨s, [], _, rfl, rfl, HA0, ⟨Nat.le_refl _⟩, HS0, ⟨Kd.R_nil _ _ _ _ _⟩, HB0⟩
  case round =>
    clear HA0 HS0 HB0
    obtain ⟨x0, x4, y4, rfl, rfl, HA, HK, HSZ, HO, HB⟩ := hrel
    cases gk with
    | zero => exact absurd HA.out (by simp [Pr.l0])
    | succ k1 =>
      have H := HA.out
      clear HA
      simp only [Pr.l0] at H
      obtain ⟨t, A1, H⟩ := Option.bind_eq_some_iff.mp H
      have HT := Aside0.mk A1
      clear A1
      by_cases ht : t.size = 0
      · rw [if_pos ht] at H
        have c1 := isempty_of ht
        simp only [Option.some.injEq, Prod.mk.injEq] at H
        obtain ⟨rfl, rfl⟩ := H
        clear ht
        go_wp2_with (go_at_call 7; refine (trim_calls k1 x0 t _ HT.out).mono ?_; rintro e w1 ⟨rfl, ⟨m1, rfl⟩⟩)
        rw [Exit.noGoto_ret]
        go_ret2
        exact ⟨_, rfl, by (with_reducible repeat (first | apply Kd.R_alloc | apply Kd.R_drewN | apply Kd.R_drew)); exact HO.out, by repeat (first | exact HB.out | apply pw_below_drewN | apply below_drew)⟩
      · rw [if_neg ht] at H
        have c1 := nonempty_of ht
        have hsz : t.size ≤ 1048576 := trim_le HT.out HSZ.out
        have s0 : 0 < t.size := by omega
        have s1 : (0 : Int) < (t.size : Int) := by omega
        have s2 : (t.size : Int) ≤ 1048576 := by omega
        have hx0 : ∀ h : 0 < t.size, ((t[0]'h).toNat : Int) = bt t 0 := bt_at t 0
        have HTS := Aside0.mk hsz
        clear ht hsz
        by_cases hq : bt t 0 = 34
        · rw [if_pos hq] at H
          have c2 : (bt t 0 == 34) = true := beq_iff_eq.mpr hq
          obtain ⟨q, A2, H⟩ := Option.bind_eq_some_iff.mp H
          obtain ⟨wd, n⟩ := q
          simp only at H
          have HQ := Aside0.mk A2
          clear A2 hq
          by_cases hn : n = 0
          · rw [if_pos hn] at H
            have c3 : (n == 0) = true := beq_iff_eq.mpr hn
            simp only [Option.some.injEq, Prod.mk.injEq] at H
            obtain ⟨rfl, rfl⟩ := H
            clear hn
            go_wp2_with (first | (go_at_call 7; refine (trim_calls k1 x0 t _ HT.out).mono ?_; rintro e w1 ⟨rfl, ⟨m1, rfl⟩⟩) | (go_at_call 8; refine (shell_quoted.calls k1 t wd n _ HQ.out).mono ?_; rintro e w1 ⟨rfl, hb⟩; have n0_ := Aside0.mk (below_step (by repeat (first | exact HB.out | apply pw_below_drewN | apply below_drew)) hb); have n1_ := Aside0.mk (Kd.R_below (by (with_reducible repeat (first | apply Kd.R_alloc | apply Kd.R_drewN | apply Kd.R_drew)); exact HO.out) hb); clear hb))
            rw [Exit.noGoto_ret]
            go_ret2
            exact ⟨_, rfl, Kd.R_nil _ _ _ _ _, n0_.out⟩
          · rw [if_neg hn] at H
            have c3 : (n == 0) = false := beq_eq_false_iff_ne.mpr hn
            by_cases hr : 0 ≤ n ∧ n ≤ (t.size : Int)
            · rw [if_pos hr] at H
              obtain ⟨hr0, hr1⟩ := hr
              have hxn : ∀ h : n.toNat < t.size, ((t[n.toNat]'h).toNat : Int) = bt t n := bt_at t n
              clear hn
              by_cases hb : n < (t.size : Int) ∧ bt t n ≠ 32
              · rw [if_pos hb] at H
                obtain ⟨hb0, hb1⟩ := hb
                have c4 : decide (n < (t.size : Int)) = true := decide_eq_true hb0
                have c5 : (bt t n != 32) = true := bne_iff_ne.mpr hb1
                simp only [Option.some.injEq, Prod.mk.injEq] at H
                obtain ⟨rfl, rfl⟩ := H
                clear hb1
                go_wp2_with (first | (go_at_call 7; refine (trim_calls k1 x0 t _ HT.out).mono ?_; rintro e w1 ⟨rfl, ⟨m1, rfl⟩⟩) | (go_at_call 8; refine (shell_quoted.calls k1 t wd n _ HQ.out).mono ?_; rintro e w1 ⟨rfl, hb⟩; have n0_ := Aside0.mk (below_step (by repeat (first | exact HB.out | apply pw_below_drewN | apply below_drew)) hb); have n1_ := Aside0.mk (Kd.R_below (by (with_reducible repeat (first | apply Kd.R_alloc | apply Kd.R_drewN | apply Kd.R_drew)); exact HO.out) hb); clear hb))
                rw [Exit.noGoto_ret]
                go_ret2
                exact ⟨_, rfl, Kd.R_nil _ _ _ _ _, n0_.out⟩
              · rw [if_neg hb] at H
                have hsl : ∀ W : World, (Instr.slice 9 (.string t) (some (.int .i64 n)) none none).run Tryd.prog W = .ok (.string (t.extract n.toNat t.size)) W := fun W => str_from t n hr0 hr1 W
                by_cases hl : x4.length < 1048577
                · rw [if_pos hl] at H
                  have HL := Aside0.mk hl
                  have HH := Aside0.mk H
                  clear H hl
                  by_cases hb0 : n < (t.size : Int)
                  case' pos =>
                    have c4 : decide (n < (t.size : Int)) = true := decide_eq_true hb0
                    have c5 : (bt t n != 32) = false := by
                      rw [bne_eq_false_iff_eq]
                      exact Classical.byContradiction fun hc => hb ⟨hb0, hc⟩
                    clear hb
                  case' neg =>
                    have c4 : decide (n < (t.size : Int)) = false := decide_eq_false hb0
                    clear hb
                  all_goals
                    go_wp2_with (first | (go_at_call 7; refine (trim_calls k1 x0 t _ HT.out).mono ?_; rintro e w1 ⟨rfl, ⟨m1, rfl⟩⟩) | (go_at_call 8; refine (shell_quoted.calls k1 t wd n _ HQ.out).mono ?_; rintro e w1 ⟨rfl, hb⟩; have n0_ := Aside0.mk (below_step (by repeat (first | exact HB.out | apply pw_below_drewN | apply below_drew)) hb); have n1_ := Aside0.mk (Kd.R_below (by (with_reducible repeat (first | apply Kd.R_alloc | apply Kd.R_drewN | apply Kd.R_drew)); exact HO.out) hb); clear hb))
                    go_region_law (first | (refine Kd.R_append_rows_step Kd.string (w0 := w) w.heap.size (by rfl) (.tmp 35) (.tmp 37) 22 9 (.string ⟨#[]⟩) 16 rfl Tryd.underlying22 info9 rfl (by decide) (by omega) y4 x4 [wd] _ 1 1 (fun _ => True) (fun _ => False) rfl rfl (Kd.R_drew (Kd.R_alloc n1_.out _)) (one_read (blk_cell (blk_new w1 _) 0)) (fun _ _ h => h) (fun _ h => h.elim) (fun _ _ => trivial) (below_drew (below_alloc n0_.out _)) (below_size (below_drew (below_alloc n0_.out _))) (lim_of HL.out) ?_; intro v9 w9 ho hb9 hg9 hat9; have m0_ := Aside0.mk ho; have m1_ := Aside0.mk hb9; clear ho hb9 hg9 hat9))
                    go_wp2
                    go_roundg k1
                    case measure => have := HK.out; omega
                    case rel => exact ⟨t.extract n.toNat t.size, x4 ++ [wd], _, rfl, rfl, HH, ⟨by have := HK.out; omega⟩, ⟨by have := HTS.out; rw [ByteArray.size_extract]; omega⟩, m0_, m1_⟩
                · rw [if_neg hl] at H
                  cases H
            · rw [if_neg hr] at H
              cases H
        · rw [if_neg hq] at H
          have c2 : (bt t 0 == 34) = false := beq_eq_false_iff_ne.mpr hq
          have HH := Aside0.mk H
          clear H hq
          go_wp2_with (go_at_call 7; refine (trim_calls k1 x0 t _ HT.out).mono ?_; rintro e w1 ⟨rfl, ⟨m1, rfl⟩⟩)
          go_loopg [7] k1 (fun kq v7 w2 => ∃ n : Int, v7 = .int .i64 n ∧ Aside0 (Pr.l1 kq t x4 n = some (r1, r2)) ∧ Aside0 (kq ≤ k1) ∧ 0 ≤ n ∧ n ≤ (t.size : Int) ∧ Aside0 (Kd.R Kd.string 9 w2 w.heap.size (fun _ => True) y4 x4) ∧ Aside0 (Below w.heap.size w w2))
          case atStart => exact ⟨0, rfl, HH, ⟨Nat.le_refl _⟩, by omega, by omega, ⟨(by (with_reducible repeat (first | apply Kd.R_alloc | apply Kd.R_drewN | apply Kd.R_drew)); exact HO.out)⟩, ⟨(by repeat (first | exact HB.out | apply pw_below_drewN | apply below_drew))⟩⟩
          case round =>
            clear HH HO HB
            obtain ⟨n, rfl, HA, HKi, hr0, hr1, HOi, HBi⟩ := hrel
            cases gk with
            | zero => exact absurd HA.out (by simp [Pr.l1])
            | succ k2 =>
              have H := HA.out
              clear HA
              simp only [Pr.l1] at H
              have hxn : ∀ h : n.toNat < t.size, ((t[n.toNat]'h).toNat : Int) = bt t n := bt_at t n
              by_cases hb : n < (t.size : Int) ∧ bt t n ≠ 32
              · rw [if_pos hb] at H
                obtain ⟨hb0, hb1⟩ := hb
                have c4 : decide (n < (t.size : Int)) = true := decide_eq_true hb0
                have c5 : (bt t n != 32) = true := bne_iff_ne.mpr hb1
                clear hb1
                obtain ⟨b, A3, H⟩ := Option.bind_eq_some_iff.mp H
                have HBA := Aside0.mk A3
                clear A3
                cases b with
                | true =>
                  rw [if_pos rfl] at H
                  have HH := Aside0.mk H
                  clear H
                  go_wp2_with (go_at_call 9; refine (shell_bare.calls (bt t n) true _ HBA.out).mono ?_; rintro e w3 ⟨rfl, ⟨m3, rfl⟩⟩)
                  go_roundg k2
                  case measure => have := HKi.out; omega
                  case rel => exact ⟨n + 1, rfl, HH, ⟨by have := HKi.out; omega⟩, by omega, by omega, ⟨(by (with_reducible repeat (first | apply Kd.R_alloc | apply Kd.R_drewN | apply Kd.R_drew)); exact HOi.out)⟩, ⟨(by repeat (first | exact HBi.out | apply pw_below_drewN | apply below_drew))⟩⟩
                | false =>
                  rw [if_neg (by simp)] at H
                  simp only [Option.some.injEq, Prod.mk.injEq] at H
                  obtain ⟨rfl, rfl⟩ := H
                  go_wp2_with (go_at_call 9; refine (shell_bare.calls (bt t n) false _ HBA.out).mono ?_; rintro e w3 ⟨rfl, ⟨m3, rfl⟩⟩)
                  rw [Exit.noGoto_ret]
                  go_ret2
                  exact ⟨_, rfl, Kd.R_nil _ _ _ _ _, (by repeat (first | exact HBi.out | apply pw_below_drewN | apply below_drew))⟩
              · rw [if_neg hb] at H
                have hsl : ∀ W : World, (Instr.slice 9 (.string t) (some (.int .i64 n)) none none).run Tryd.prog W = .ok (.string (t.extract n.toNat t.size)) W := fun W => str_from t n hr0 hr1 W
                have hsm : ∀ W : World, (Instr.slice 9 (.string t) none (some (.int .i64 n)) none).run Tryd.prog W = .ok (.string (t.extract 0 n.toNat)) W := fun W => str_to t n hr0 hr1 W
                by_cases hl : x4.length < 1048577
                · rw [if_pos hl] at H
                  have HL := Aside0.mk hl
                  have HH := Aside0.mk H
                  clear H hl
                  by_cases hb0 : n < (t.size : Int)
                  case' pos =>
                    have c4 : decide (n < (t.size : Int)) = true := decide_eq_true hb0
                    have c5 : (bt t n != 32) = false := by
                      rw [bne_eq_false_iff_eq]
                      exact Classical.byContradiction fun hc => hb ⟨hb0, hc⟩
                    clear hb
                  case' neg =>
                    have c4 : decide (n < (t.size : Int)) = false := decide_eq_false hb0
                    clear hb
                  all_goals
                    go_wp2_with fail
                    go_region_law (first | (refine Kd.R_append_rows_step Kd.string (w0 := w) w.heap.size (by rfl) (.tmp 59) (.tmp 63) 22 9 (.string ⟨#[]⟩) 16 rfl Tryd.underlying22 info9 rfl (by decide) (by omega) y4 x4 [t.extract 0 n.toNat] _ 1 1 (fun _ => True) (fun _ => False) rfl rfl (Kd.R_drew (Kd.R_alloc HOi.out _)) (one_read (blk_cell (blk_new wr _) 0)) (fun _ _ h => h) (fun _ h => h.elim) (fun _ _ => trivial) (below_drew (below_alloc HBi.out _)) (below_size (below_drew (below_alloc HBi.out _))) (lim_of HL.out) ?_; intro v9 w9 ho hb9 hg9 hat9; have m0_ := Aside0.mk ho; have m1_ := Aside0.mk hb9; clear ho hb9 hg9 hat9))
                    go_wp2
                    go_roundg k2
                    case measure => have := HKi.out; omega
                    case rel => exact ⟨t.extract n.toNat t.size, x4 ++ [t.extract 0 n.toNat], _, rfl, rfl, HH, ⟨by have := HK.out; have := HKi.out; omega⟩, ⟨by have := HTS.out; rw [ByteArray.size_extract]; omega⟩, m0_, m1_⟩
                · rw [if_neg hl] at H
                  cases H
end Go.Proofs.YtkpdbkkkdidolaaDoor.Prs
