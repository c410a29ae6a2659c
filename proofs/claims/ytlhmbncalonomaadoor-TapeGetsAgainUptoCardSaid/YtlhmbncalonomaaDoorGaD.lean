/- Own walks and lemmas, those that this claim leans on: Nm, Txt, Tld, RfF, GtP, GtA. -/
import Derived.Test.YtlhmbncalonomaaDoorGaC
import Derived.Test.YtlhmbncalonomaaDoorGaA
import Derived.Test.YtlhmbncalonomaaDoorGaF
import Derived.Test.YtlhmbncalonomaaDoorGaE
namespace Go.Proofs.YtlhmbncalonomaaDoor.Nm
open Go.RowKit Go.Proofs.YtlhmbncalonomaaDoor.Q Go.Proofs.YtlhmbncalonomaaDoor.Cpy Go.Proofs.YtlhmbncalonomaaDoor.Hand Go.Proofs.YtlhmbncalonomaaDoor.Arr Go.Proofs.YtlhmbncalonomaaDoor.Sx Go.Proofs.YtlhmbncalonomaaDoor.Head Go.Proofs.YtlhmbncalonomaaDoor.Snd Go.Proofs.YtlhmbncalonomaaDoor.TpB Go.Proofs.YtlhmbncalonomaaDoor.TpH Go.Proofs.YtlhmbncalonomaaDoor.RfH Go.Proofs.YtlhmbncalonomaaDoor.Spc Go.Proofs.YtlhmbncalonomaaDoor.Spd Go.Proofs.YtlhmbncalonomaaDoor.Fil Go.Proofs.YtlhmbncalonomaaDoor.Fil2 Go.Proofs.YtlhmbncalonomaaDoorW.PrintWords Go.Proofs.YtlhmbncalonomaaDoorW.PrintLast Go.Proofs.YtlhmbncalonomaaDoorW.PrintMore
set_option linter.unusedVariables false
set_option linter.unusedSimpArgs false
def blk (x : Int) : Bool := x == 0 || x == 32
def stp (a d : Int) : Int := wrap64 (wrap64 (8 * a) + (d - 48) % 256)
def fin (b : Bool) : List Int → Int → Int × Bool
  | [], a => if b = true then (0, false) else (a, true)
  | d :: R, a => if 48 ≤ d ∧ d ≤ 55 then fin b R (stp a d) else if (d :: R).all blk = true then (a, true) else (0, false)
def num : List Int → Int × Bool
  | [] => (0, true)
  | d :: R => if d = 32 then num R else fin true (d :: R) 0
theorem rd_at (L : List Int) (i : Nat) (h : i < L.length) : rd L (i : Int) = L[i] := by simp [rd, List.getD_eq_getElem?_getD, h]
theorem wi {i n : Nat} (h : i < n) (hn : n ≤ 1099511627776) : wrap64 ((i : Int) + 1) = ((i + 1 : Nat) : Int) := by rw [w64 (by omega)]; omega
theorem num_l2 (L : List Int) (v : Int) (hn : L.length ≤ 1099511627776) : ∀ (d i : Nat), i + d = L.length → Ev (fun k => tape_number.l2 k L (i : Int) v) (if (L.drop i).all blk = true then (v, true) else (0, false)) := by
  intro d
  induction d with
  | zero =>
    intro i hi
    refine Ev.step (f := fun _ => some (v, true)) (fun k => ?_) ?_
    · simp only [tape_number.l2]
      rw [if_neg (by omega)]
    · rw [List.drop_eq_nil_of_le (by omega)]
      exact Ev.now _
  | succ d ih =>
    intro i hi
    have hlt : i < L.length := by omega
    rw [List.drop_eq_getElem_cons hlt, List.all_cons]
    by_cases h0 : L[i] = 0
    · refine Ev.step (fun k => ?_) (?_ : Ev (fun k => tape_number.l2 k L ((i + 1 : Nat) : Int) v) _)
      · simp only [tape_number.l2]
        rw [if_pos (by omega), if_pos (by omega), rd_at _ _ hlt, if_pos h0, wi hlt hn]
      · have := ih (i + 1) (by omega)
        simpa [blk, h0] using this
    · by_cases h1 : L[i] = 32
      · refine Ev.step (fun k => ?_) (?_ : Ev (fun k => tape_number.l2 k L ((i + 1 : Nat) : Int) v) _)
        · simp only [tape_number.l2]
          rw [if_pos (by omega), if_pos (by omega), rd_at _ _ hlt, if_neg h0, if_pos h1, wi hlt hn]
        · have := ih (i + 1) (by omega)
          simpa [blk, h0, h1] using this
      · refine Ev.step (f := fun _ => some (0, false)) (fun k => ?_) ?_
        · simp only [tape_number.l2]
          rw [if_pos (by omega), if_pos (by omega), rd_at _ _ hlt, if_neg h0, if_neg h1]
        · have hb : blk L[i] = false := by simp [blk, h0, h1]
          rw [hb]
          exact Ev.now _
theorem num_l1 (L : List Int) (f : Nat) (hn : L.length ≤ 1099511627776) : ∀ (d i : Nat) (a : Int), i + d = L.length → Ev (fun k => tape_number.l1 k L (i : Int) a (f : Int)) (fin (decide (f < L.length)) (L.drop i) a) := by
  intro d
  induction d with
  | zero =>
    intro i a hi
    refine Ev.step (f := fun k => tape_number.j3 k L (i : Int) a (f : Int)) (fun k => ?_) ?_
    · simp only [tape_number.l1]
      rw [if_neg (by omega)]
    · refine Ev.step (f := fun k => tape_number.j4 k L (i : Int) a (decide ((i : Int) > (f : Int)))) (fun k => ?_) ?_
      · simp only [tape_number.j3]
        rw [if_pos (by omega)]
      · rw [List.drop_eq_nil_of_le (by omega)]
        by_cases hf : f < L.length
        · refine Ev.step (f := fun _ => some (0, false)) (fun k => ?_) ?_
          · simp only [tape_number.j4]
            rw [if_pos (by simp; omega)]
          · simp only [fin, hf, decide_true, if_true]
            exact Ev.now _
        · refine Ev.step (f := fun k => tape_number.l2 k L (i : Int) a) (fun k => ?_) ?_
          · simp only [tape_number.j4]
            rw [if_neg (by simp; omega)]
          · have := num_l2 L a hn 0 i hi
            rw [List.drop_eq_nil_of_le (by omega)] at this
            simpa [fin, hf] using this
  | succ d ih =>
    intro i a hi
    have hlt : i < L.length := by omega
    have rest : ¬ (48 ≤ L[i] ∧ L[i] ≤ 55) → Ev (fun k => tape_number.j3 k L (i : Int) a (f : Int)) (fin (decide (f < L.length)) (L.drop i) a) := fun hno => by
      refine Ev.step (f := fun k => tape_number.j4 k L (i : Int) a false) (fun k => ?_) ?_
      · simp only [tape_number.j3]
        rw [if_neg (by omega)]
      · refine Ev.step (f := fun k => tape_number.l2 k L (i : Int) a) (fun k => ?_) ?_
        · simp only [tape_number.j4]
          rw [if_neg (by simp)]
        · have := num_l2 L a hn (d + 1) i hi
          rw [List.drop_eq_getElem_cons hlt] at this ⊢
          simp only [fin]
          rw [if_neg hno]
          exact this
    by_cases h0 : 48 ≤ L[i]
    · by_cases h1 : L[i] ≤ 55
      · refine Ev.step (f := fun k => tape_number.l1 k L ((i + 1 : Nat) : Int) (stp a L[i]) (f : Int)) (fun k => ?_) ?_
        · simp only [tape_number.l1]
          rw [if_pos (by omega), if_pos (by omega), rd_at _ _ hlt, if_pos h0, if_pos h1, wi hlt hn]
          rfl
        · have := ih (i + 1) (stp a L[i]) (by omega)
          rw [List.drop_eq_getElem_cons hlt]
          simp only [fin]
          rw [if_pos ⟨h0, h1⟩]
          exact this
      · refine Ev.step (fun k => ?_) (rest (fun h => h1 h.2))
        simp only [tape_number.l1]
        rw [if_pos (by omega), if_pos (by omega), rd_at _ _ hlt, if_pos h0, if_neg h1]
    · refine Ev.step (fun k => ?_) (rest (fun h => h0 h.1))
      simp only [tape_number.l1]
      rw [if_pos (by omega), if_pos (by omega), rd_at _ _ hlt, if_neg h0]
theorem num_l0 (L : List Int) (hn : L.length ≤ 1099511627776) : ∀ (d i : Nat), i + d = L.length → Ev (fun k => tape_number.l0 k L (i : Int)) (num (L.drop i)) := by
  intro d
  induction d with
  | zero =>
    intro i hi
    refine Ev.step (f := fun k => tape_number.j1 k L (i : Int)) (fun k => ?_) ?_
    · simp only [tape_number.l0]
      rw [if_neg (by omega)]
    · refine Ev.step (f := fun k => tape_number.l1 k L (i : Int) 0 (i : Int)) (fun k => by simp only [tape_number.j1]) ?_
      have := num_l1 L i hn 0 i 0 hi
      rw [List.drop_eq_nil_of_le (by omega)] at this ⊢
      simpa [fin, num, show ¬ i < L.length by omega] using this
  | succ d ih =>
    intro i hi
    have hlt : i < L.length := by omega
    by_cases h0 : L[i] = 32
    · refine Ev.step (f := fun k => tape_number.l0 k L ((i + 1 : Nat) : Int)) (fun k => ?_) ?_
      · simp only [tape_number.l0]
        rw [if_pos (by omega), if_pos (by omega), rd_at _ _ hlt, if_pos h0, wi hlt hn]
      · have := ih (i + 1) (by omega)
        rw [List.drop_eq_getElem_cons hlt]
        simp only [num]
        rw [if_pos h0]
        exact this
    · refine Ev.step (f := fun k => tape_number.j1 k L (i : Int)) (fun k => ?_) ?_
      · simp only [tape_number.l0]
        rw [if_pos (by omega), if_pos (by omega), rd_at _ _ hlt, if_neg h0]
      · refine Ev.step (f := fun k => tape_number.l1 k L (i : Int) 0 (i : Int)) (fun k => by simp only [tape_number.j1]) ?_
        have := num_l1 L i hn (d + 1) i 0 hi
        rw [List.drop_eq_getElem_cons hlt] at this ⊢
        simp only [num]
        rw [if_neg h0]
        simpa [hlt] using this
theorem number30 (A : Option Addr) (c : Nat) (L : List Int) (w : World) (hC : Kd.C (Kd.int .u8) w A L.length L) (hc : L.length ≤ c) (hn : L.length ≤ 1099511627776) :
    Calls Tryd.prog 30 #[.slice A L.length c] w fun e w' => e = .returned (.tuple #[.int .i64 (num L).1, .bool (num L).2]) ∧ Drawn0 w w' := by
  obtain ⟨k, hk⟩ := (num_l0 L hn L.length 0 (by omega)).rounds
  exact tape_number.calls k A c L _ _ w hC hc (by unfold tape_number.f; exact hk)
def dg : List Int → Int → Int × Bool
  | [], a => (a, true)
  | d :: R, a => if d < 48 then (0, false) else if d > 55 then (0, false) else dg R (stp a d)
def sp : List Int → Int × Bool
  | [] => dg [] 0
  | d :: R => if d = 32 then sp R else dg (d :: R) 0
theorem bt_at {s : ByteArray} {L : List Int} (hs : bn s = L) (i : Nat) (h : i < L.length) : bt s (i : Int) = L[i] := by
  have : i < s.size := by rw [← bn_length, hs]; exact h
  rw [bt_bn s i this, hs, List.getD_eq_getElem?_getD, List.getElem?_eq_getElem h]
  rfl
section
variable {s : ByteArray} {L : List Int} (hs : bn s = L) (hn : L.length ≤ 1099511627776)
include hs hn
end
def Lst : List Int → Prop
  | [] => False
  | x :: R => if R = [] then blk x = false else Lst R
theorem lst_some : ∀ {M : List Int}, Lst M → M.all blk = false
  | [], h => h.elim
  | x :: R, h => by
    unfold Lst at h
    by_cases hR : R = []
    · rw [if_pos hR] at h
      simp [h]
    · rw [if_neg hR] at h
      simp [lst_some h]
theorem lst_tail {x : Int} {R : List Int} (h : Lst (x :: R)) : (R = [] ∧ blk x = false) ∨ Lst R := by
  unfold Lst at h
  by_cases hR : R = []
  · rw [if_pos hR] at h; exact .inl ⟨hR, h⟩
  · rw [if_neg hR] at h; exact .inr h
theorem parts (L : List Int) : ∃ M B, L = M ++ B ∧ B.all blk = true ∧ (M = [] ∨ Lst M) := by
  induction L with
  | nil => exact ⟨[], [], rfl, rfl, .inl rfl⟩
  | cons d R ih =>
    obtain ⟨M, B, e, hB, hM⟩ := ih
    by_cases h : M = []
    · subst h
      cases hd : blk d with
      | true => exact ⟨[], d :: B, by rw [e]; rfl, by simp [hd]; simpa using hB, .inl rfl⟩
      | false => exact ⟨[d], B, by rw [e]; rfl, hB, .inr (by unfold Lst; rw [if_pos rfl]; exact hd)⟩
    · have hM := hM.resolve_left h
      exact ⟨d :: M, B, by rw [e]; rfl, hB, .inr (by unfold Lst; rw [if_neg h]; exact hM)⟩
theorem fin_dg {B : List Int} (hB : B.all blk = true) (hne : B ≠ []) (b : Bool) : ∀ (R : List Int) (a : Int), (R = [] ∨ Lst R) → fin b (R ++ B) a = dg R a
  | [], a, _ => by
    obtain ⟨d, B', rfl⟩ := List.exists_cons_of_ne_nil hne
    show fin b (d :: B') a = (a, true)
    simp only [fin]
    have hd : blk d = true := by simp at hB; exact hB.1
    rw [if_neg (by simp [blk] at hd; omega), if_pos hB]
  | d :: R, a, h => by
    have h := h.resolve_left (by simp)
    show fin b (d :: (R ++ B)) a = _
    simp only [fin, dg]
    by_cases h1 : 48 ≤ d ∧ d ≤ 55
    · rw [if_pos h1, if_neg (by omega), if_neg (by omega)]
      exact fin_dg hB hne b R _ ((lst_tail h).imp (fun h => h.1) id)
    · rw [if_neg h1]
      have hno : (d :: (R ++ B)).all blk = false := by
        have := lst_some h
        rw [List.all_cons] at this ⊢
        rw [List.all_append]
        cases hd : blk d with
        | false => rfl
        | true => rw [hd, Bool.true_and] at this; rw [this]; rfl
      rw [hno, if_neg (by simp)]
      by_cases h2 : d < 48
      · rw [if_pos h2]
      · rw [if_neg h2, if_pos (by omega)]
theorem num_sp {B : List Int} (hB : B.all blk = true) (hne : B ≠ []) : ∀ (M : List Int), (M = [] ∨ Lst M) → num (M ++ B) = sp M
  | d :: R, h => by
    have h' := h.resolve_left (by simp)
    show num (d :: (R ++ B)) = _
    simp only [num, sp]
    by_cases h1 : d = 32
    · rw [if_pos h1, if_pos h1]
      refine num_sp hB hne R (.inr ?_)
      rcases lst_tail h' with ⟨_, h2⟩ | h2
      · rw [h1] at h2; cases h2
      · exact h2
    · rw [if_neg h1, if_neg h1]
      exact fin_dg hB hne true (d :: R) 0 h
  | [], _ => by
    clear hne
    show num B = (0, true)
    induction B with
    | nil => rfl
    | cons d B ih =>
      simp only [num]
      by_cases h1 : d = 32
      · rw [if_pos h1]
        exact ih (by simp at hB; simpa using hB.2)
      · rw [if_neg h1]
        exact fin_dg (R := []) hB (by simp) true 0 (.inl rfl)
theorem fin_bd (b : Bool) : ∀ (R : List Int) (a : Int) (m : Nat), 0 ≤ a → a < 8 ^ m → R.length + m ≤ 12 → 0 ≤ (fin b R a).1 ∧ (fin b R a).1 < 68719476736
  | [], a, m, h0, h1, hm => by
    have : (8 : Int) ^ m ≤ 8 ^ 12 := by
      have := Nat.pow_le_pow_right (n := 8) (by decide) (show m ≤ 12 by simpa using hm)
      exact_mod_cast this
    simp only [fin]
    split <;> dsimp only <;> omega
  | d :: R, a, m, h0, h1, hm => by
    have hlen : R.length + 1 + m ≤ 12 := by simpa using hm
    have h2 : (8 : Int) ^ m ≤ 8 ^ 12 := by
      have := Nat.pow_le_pow_right (n := 8) (by decide) (show m ≤ 12 by omega)
      exact_mod_cast this
    simp only [fin]
    split
    · rename_i hd
      have e : stp a d = 8 * a + (d - 48) := by
        unfold stp
        rw [w64 (n := 8 * a) (by omega), Int.emod_eq_of_lt (by omega) (by omega), w64 (by omega)]
      refine fin_bd b R _ (m + 1) (by rw [e]; omega) ?_ (by omega)
      rw [e, Int.pow_succ]
      omega
    · split <;> dsimp only <;> omega
theorem num_bd (L : List Int) (h : L.length ≤ 12) : 0 ≤ (num L).1 ∧ (num L).1 < 68719476736 := by
  induction L with
  | nil => exact ⟨by decide, by decide⟩
  | cons d R ih =>
    simp only [num]
    split
    · exact ih (by simp at h; omega)
    · exact fin_bd true _ 0 0 (by decide) (by decide) (by omega)
def wd (L : List Int) : List Int := L.takeWhile (· != 0)
def wz (L : List Int) : Bool := (L.dropWhile (· != 0)).all (· == 0)
theorem wd_cons (d : Int) (R : List Int) : wd (d :: R) = if d = 0 then [] else d :: wd R := by
  unfold wd
  rw [List.takeWhile_cons]
  by_cases h : d = 0
  · rw [if_neg (by simp [h]), if_pos h]
  · rw [if_pos (by simp [h]), if_neg h]
def dz (L : List Int) : List Int := L.dropWhile (· != 0)
theorem dz_cons (d : Int) (R : List Int) : dz (d :: R) = if d = 0 then d :: R else dz R := by
  unfold dz
  rw [List.dropWhile_cons]
  by_cases h : d = 0
  · rw [if_neg (by simp [h]), if_pos h]
  · rw [if_pos (by simp [h]), if_neg h]
theorem wz_dz (L : List Int) : wz L = (dz L).all (· == 0) := rfl
theorem drop_wd (L : List Int) : L.drop (wd L).length = dz L := by
  induction L with
  | nil => rfl
  | cons d R ih =>
    rw [wd_cons, dz_cons]
    by_cases h : d = 0
    · rw [if_pos h, if_pos h]; rfl
    · rw [if_neg h, if_neg h]; exact ih
theorem take_wd (L : List Int) : L.take (wd L).length = wd L := by
  induction L with
  | nil => rfl
  | cons d R ih =>
    rw [wd_cons]
    by_cases h : d = 0
    · rw [if_pos h]; rfl
    · rw [if_neg h, List.length_cons, List.take_succ_cons, ih]
theorem wd_le (L : List Int) : (wd L).length ≤ L.length := by
  have := congrArg List.length (take_wd L)
  rw [List.length_take] at this
  omega
section
variable {s : ByteArray} {L : List Int} (hs : bn s = L) (hn : L.length ≤ 1099511627776) (m : Int)
include hs hn
end
theorem empty_l0 (L : List Int) (hn : L.length ≤ 1099511627776) : ∀ (d i : Nat), i + d = L.length → Ev (fun k => tape_empty.l0 k L (L.length : Int) (i : Int)) ((L.drop i).all (· == 0)) := by
  intro d
  induction d with
  | zero =>
    intro i hi
    refine Ev.step (f := fun _ => some true) (fun k => ?_) ?_
    · simp only [tape_empty.l0]
      rw [if_neg (by omega)]
    · rw [List.drop_eq_nil_of_le (by omega)]
      exact Ev.now _
  | succ d ih =>
    intro i hi
    have hlt : i < L.length := by omega
    rw [List.drop_eq_getElem_cons hlt, List.all_cons]
    by_cases h0 : L[i] = 0
    · refine Ev.step (f := fun k => tape_empty.l0 k L (L.length : Int) ((i + 1 : Nat) : Int)) (fun k => ?_) ?_
      · simp only [tape_empty.l0]
        rw [if_pos (by omega), if_pos (by omega), if_pos (by omega), rd_at _ _ hlt, if_pos h0, wi hlt hn]
      · have := ih (i + 1) (by omega)
        simpa [h0] using this
    · refine Ev.step (f := fun _ => some false) (fun k => ?_) ?_
      · simp only [tape_empty.l0]
        rw [if_pos (by omega), if_pos (by omega), if_pos (by omega), rd_at _ _ hlt, if_neg h0]
      · have : (L[i] == 0) = false := by simp [h0]
        rw [this]
        exact Ev.now _
theorem empty29 (A : Option Addr) (c : Nat) (L : List Int) (w : World) (hC : Kd.C (Kd.int .u8) w A L.length L) (hc : L.length ≤ c) (hn : L.length ≤ 1099511627776) :
    Calls Tryd.prog 29 #[.slice A L.length c] w fun e w' => e = .returned (.bool (L.all (· == 0))) ∧ Drawn0 w w' := by
  obtain ⟨k, hk⟩ := (empty_l0 L hn L.length 0 (by omega)).rounds
  rw [List.drop_zero] at hk
  exact tape_empty.calls k A c L _ w hC hc (by unfold tape_empty.f; exact hk)
end Go.Proofs.YtlhmbncalonomaaDoor.Nm
namespace Go.Proofs.YtlhmbncalonomaaDoor.Txt
open Go.RowKit Go.Proofs.YtlhmbncalonomaaDoor.Q Go.Proofs.YtlhmbncalonomaaDoor.Cpy Go.Proofs.YtlhmbncalonomaaDoor.Hand Go.Proofs.YtlhmbncalonomaaDoor.Arr Go.Proofs.YtlhmbncalonomaaDoor.Sx Go.Proofs.YtlhmbncalonomaaDoor.Head Go.Proofs.YtlhmbncalonomaaDoor.Snd Go.Proofs.YtlhmbncalonomaaDoor.TpB Go.Proofs.YtlhmbncalonomaaDoor.TpH Go.Proofs.YtlhmbncalonomaaDoor.RfH Go.Proofs.YtlhmbncalonomaaDoor.Spc Go.Proofs.YtlhmbncalonomaaDoor.Spd Go.Proofs.YtlhmbncalonomaaDoor.Fil Go.Proofs.YtlhmbncalonomaaDoor.Fil2 Go.Proofs.YtlhmbncalonomaaDoor.Twn Go.Proofs.YtlhmbncalonomaaDoor.Nm Go.Proofs.YtlhmbncalonomaaDoorW.PrintWords Go.Proofs.YtlhmbncalonomaaDoorW.PrintLast Go.Proofs.YtlhmbncalonomaaDoorW.PrintMore
set_option linter.unusedVariables false
set_option linter.unusedSimpArgs false
abbrev U8 (W : World) (A : Option Addr) (L : List Int) : Prop := (Kd.int .u8).C W A L.length L
theorem u8_at {W : World} {g o : Nat} {L : List Int} (h : U8 W (some ⟨g, o, none⟩) L) (i : Nat) (hi : i < L.length) : W.cell? ⟨g, o + i, none⟩ = some (.int .u8 L[i]) := by
  obtain ⟨_, _, h2⟩ := h
  obtain ⟨ad, e, hc⟩ := h2 (by omega)
  cases e
  obtain ⟨c, _, rfl, hcell⟩ := hc i L[i] (List.getElem?_eq_getElem hi)
  have := hcell 0 _ rfl
  rwa [Addr.add_mid, show i * (Kd.int .u8).sz + 0 = i from Nat.mul_one i] at this
section
variable {n : Nat} {sl : List (Nat × Value)} {W : World} {dst : Option Tmp} {ty : TypeId} {pos : String} {aft : Array Edge} {g : Option (Nat × Bool)} {x y y2 : Operand} {A : Option Addr} {L : List Int} {c : Nat} {k k2 : IntKind}
theorem r_to {i : Nat} (hx : sv sl x = some (.slice A L.length c)) (hy : sv sl y = some (.int k ((i : Nat) : Int))) (hi : i ≤ L.length) (hc : L.length ≤ c) : Runs Tryd.prog ⟨dst, .slice 24 x none (some y) none, ty, pos, aft, g⟩ n sl W (.slice A (L.take i).length c) W := by
  have := r_sliceTo (P := Tryd.prog) (n := n) (W := W) (dst := dst) (ty := ty) (pos := pos) (aft := aft) (gd := g) (i := ((i : Nat) : Int)) hx hy Tryd.underlying24 size5 ⟨by omega, by omega⟩
  rw [Int.toNat_natCast] at this
  rwa [List.length_take, Nat.min_eq_left hi]
theorem r_from {i : Nat} (hx : sv sl x = some (.slice A L.length c)) (hy : sv sl y = some (.int k ((i : Nat) : Int))) (hi : i ≤ L.length) : Runs Tryd.prog ⟨dst, .slice 24 x (some y) none none, ty, pos, aft, g⟩ n sl W (.slice (if c = i then A else A.map (·.add (i * (Kd.int .u8).sz))) (L.drop i).length (c - i)) W := by
  have := r_sliceFrom (P := Tryd.prog) (n := n) (W := W) (dst := dst) (ty := ty) (pos := pos) (aft := aft) (gd := g) (i := ((i : Nat) : Int)) hx hy Tryd.underlying24 size5 ⟨by omega, by omega⟩
  rw [Int.toNat_natCast] at this
  rw [List.length_drop]
  exact this
theorem r_conv24 (hx : sv sl x = some (.slice A L.length c)) (hC : U8 W A L) : Runs Tryd.prog ⟨dst, .convert 24 9 x, ty, pos, aft, g⟩ n sl W (.string (strOfNums L)) W := fun f hf => by
  have hr := Kd.C_string (P := Tryd.prog) (c := c) Tryd.underlying24 Tryd.underlying5 Tryd.underlying9 hC
  simp [execOp, hf.ev hx, hr]
end
theorem wd_ne {L : List Int} {i : Nat} (h : i < (wd L).length) (hi : i < L.length) : L[i] ≠ 0 := by
  induction L generalizing i with
  | nil => simp at hi
  | cons d R ih =>
    rw [wd_cons] at h
    by_cases h0 : d = 0
    · rw [if_pos h0] at h; simp at h
    · rw [if_neg h0] at h
      cases i with
      | zero => exact h0
      | succ i => exact ih (by simpa using h) (by simpa using hi)
theorem wd_end {L : List Int} {i : Nat} (h : i = (wd L).length) (hi : i < L.length) : L[i] = 0 := by
  induction L generalizing i with
  | nil => simp at hi
  | cons d R ih =>
    rw [wd_cons] at h
    by_cases h0 : d = 0
    · rw [if_pos h0] at h; subst h; exact h0
    · rw [if_neg h0] at h
      subst h
      exact ih (i := (wd R).length) rfl (by simpa using hi)
theorem en29 : Enters Tryd.prog 29 := fun args w => by kernel_rfl
theorem at_or {W : World} {g o : Nat} {L : List Int} (h : U8 W (some ⟨g, o, none⟩) L) (i : Nat) (hi : i < L.length) : W.cell? ⟨g, o + i, none⟩ = some (.int .u8 (L.getD i 0)) := by
  rw [u8_at h i hi, List.getD_eq_getElem?_getD, List.getElem?_eq_getElem hi]; rfl
set_option maxRecDepth 100000 in
theorem text_calls (g o c : Nat) (L : List Int) (b : Bool) (w : World) (hC : U8 w (some ⟨g, o, none⟩) L) (hc : L.length ≤ c) (hn : L.length ≤ 1099511627776) :
    Calls Tryd.prog 44 #[.slice (some ⟨g, o, none⟩) L.length c, .bool b] w fun e w' => e = .returned (.tuple #[.string (strOfNums (wd L)), .bool (wz L && (b || decide ((wd L).length < L.length)))]) ∧ Below w.heap.size w w' := by
  have hle := wd_le L
  have hP := HP.start w
  refine calls_cw Tryd.func44 rfl rfl (by simp) ?_
  refine cw_seq ?_
  -- region 0 tape.go:193
  refine cw_region ?_
  refine ow_step (r_assign rfl) rfl ?_
  refine ow_step (r_assign rfl) rfl ?_
  refine ow_nil ?_
  refine ew_next ?_
  refine cw_seq ?_
  -- region 1 tape.go:194
  refine cw_region ?_
  refine ow_step (r_assign rfl) rfl ?_
  refine ow_nil ?_
  refine ew_next ?_
  refine cw_seq ?_
  refine cw_block ?_
  refine cw_loop (fun i => (wd L).length - i) (fun i => [(0, .slice (some ⟨g, o, none⟩) L.length c), (1, .bool b), (6, .int .i64 ((i : Nat) : Int))]) (fun i w' => i ≤ (wd L).length ∧ HP w w' []) 0 ⟨rfl, rfl, rfl, trivial⟩ ⟨by omega, hP⟩ ?_
  clear hP; rintro i W ⟨hi, hP⟩
  · -- round 0
    refine cw_seq ?_
    refine cw_seq ?_
    -- region 2 tape.go:195
    refine cw_region ?_
    refine ow_step (r_move rfl) rfl ?_
    refine ow_step (r_move rfl) rfl ?_
    refine ow_step (r_len rfl (by rfl) rfl) rfl ?_
    refine ow_step (r_lt rfl rfl) rfl ?_
    refine ow_step (r_move rfl) rfl ?_
    apply ow_andP (p := 17) (m := 11) 6 hP rfl
    · intro hg2_4; have hg2_4p := hg2_4; (try simp only [Bool.and_eq_true, Bool.or_eq_true, Bool.and_eq_false_iff, Bool.or_eq_false_iff, Bool.not_eq_true', Bool.not_eq_false', decide_eq_true_eq, decide_eq_false_iff_not, ne_eq, Decidable.not_not, not_true_eq_false, not_false_eq_true] at hg2_4p)
      refine ow_guard rfl rfl rfl (by rw [hg2_4]; rfl) ?_
      refine ow_step (r_move rfl) rfl ?_
      refine ow_guard rfl rfl rfl (by rw [hg2_4]; rfl) ?_
      refine ow_step (r_move rfl) rfl ?_
      refine ow_guard rfl rfl rfl (by rw [hg2_4]; rfl) ?_
      refine ow_step (r_indexSl' (o' := o + i) rfl rfl Tryd.underlying24 size5 ⟨by omega, by omega⟩ (by rw [Int.toNat_natCast, Nat.mul_one])) rfl ?_
      refine ow_guard rfl rfl rfl (by rw [hg2_4]; rfl) ?_
      have hlt : i < L.length := by omega
      refine ow_step (r_load rfl rfl (at_or (Kd.C_below hC hP.old) i hlt)) rfl ?_
      refine ow_guard rfl rfl rfl (by rw [hg2_4]; rfl) ?_
      refine ow_step (r_ne rfl rfl) rfl ?_
      refine ow_step (r_pickT rfl hg2_4 rfl) rfl ?_
      refine ow_nil (ew_logic rfl (by repeat (first | exact trivial | refine ⟨rfl, ?_⟩)) hP)
    · intro hg2_4
      refine ow_pass rfl rfl rfl (by rw [hg2_4]; rfl) rfl ?_
      refine ow_pass rfl rfl rfl (by rw [hg2_4]; rfl) rfl ?_
      refine ow_pass rfl rfl rfl (by rw [hg2_4]; rfl) rfl ?_
      refine ow_pass rfl rfl rfl (by rw [hg2_4]; rfl) rfl ?_
      refine ow_pass rfl rfl rfl (by rw [hg2_4]; rfl) rfl ?_
      refine ow_step (r_pickF rfl hg2_4 rfl) rfl ?_
      refine ow_nil (ew_logic rfl (by repeat (first | exact trivial | refine ⟨rfl, ?_⟩)) hP)
    intro W hP
    refine ow_nil ?_
    refine ew_next ?_
    refine cw_cond rfl (fun hb0 => ?_) (fun hb0 => ?_)
    · -- cond 0 yes
      have hc0 := hb0; (try simp only [Bool.and_eq_true, Bool.or_eq_true, Bool.and_eq_false_iff, Bool.or_eq_false_iff, Bool.not_eq_true', Bool.not_eq_false', decide_eq_true_eq, decide_eq_false_iff_not, ne_eq, Decidable.not_not, not_true_eq_false, not_false_eq_true] at hc0)
      have hlt : i < L.length := by omega
      have hne : L[i] ≠ 0 := by rw [List.getD_eq_getElem?_getD, List.getElem?_eq_getElem hlt] at hc0; simpa using hc0.2
      have hi2 : i < (wd L).length := Nat.lt_of_le_of_ne hi (fun e => hne (wd_end e hlt))
      refine cw_skip ?_
      refine ew_next ?_
      refine cw_block ?_
      -- region 3 tape.go:196
      refine cw_region ?_
      refine ow_step (r_move rfl) rfl ?_
      refine ow_step (i_add rfl rfl (by omega)) rfl ?_
      refine ow_step (r_assign rfl) rfl ?_
      refine ow_nil ?_
      refine ew_block ?_
      refine ew_round (i + 1) ⟨rfl, rfl, rfl, trivial⟩ ⟨by omega, hP⟩ (by omega)
    · -- cond 0 no
      have hc0 := hb0; (try simp only [Bool.and_eq_true, Bool.or_eq_true, Bool.and_eq_false_iff, Bool.or_eq_false_iff, Bool.not_eq_true', Bool.not_eq_false', decide_eq_true_eq, decide_eq_false_iff_not, ne_eq, Decidable.not_not, not_true_eq_false, not_false_eq_true] at hc0)
      have he : i = (wd L).length := by
        rcases Nat.lt_or_ge i (wd L).length with h | h
        · exfalso
          have hlt : i < L.length := by omega
          have := wd_ne h hlt
          rw [List.getD_eq_getElem?_getD, List.getElem?_eq_getElem hlt] at hc0
          rcases hc0 with h1 | h1
          · omega
          · exact this (by simpa using h1)
        · omega
      subst he
      refine cw_exit ?_
      refine ew_then_exit ?_
      refine ew_then_exit ?_
      refine ew_block_hit ?_
      refine ew_next ?_
      refine cw_seq ?_
      -- region 4 DRAWS tape.go:198
      refine cw_quietP hP (by kernel_rfl) (by kernel_rfl) ?_
      refine qw_step (fun w hw => r_move rfl) rfl ?_
      refine qw_step (fun w hw => r_move rfl) rfl ?_
      refine qw_step (fun w hw => r_to (i := (wd L).length) (L := L) rfl rfl hle hc) rfl ?_
      refine qw_step (fun w hw => r_conv24 (L := L.take (wd L).length) rfl (Kd.C_below (Kd.C_take hC hle) hw.old)) rfl ?_
      refine qw_step (fun w hw => r_move rfl) rfl ?_
      refine qw_step (fun w hw => r_move rfl) rfl ?_
      refine qw_step (fun w hw => r_from (i := (wd L).length) (L := L) rfl rfl hle) rfl ?_
      refine qw_call en29 rfl (fun w hw => (empty29 _ _ (L.drop (wd L).length) w (Kd.C_below (Kd.C_drop hC hle hc) hw.old) (by rw [List.length_drop]; omega) (by rw [List.length_drop]; omega)).mono (fun e w' ⟨he, m_, hm_⟩ => ⟨he, hm_ ▸ hw.drewN m_⟩)) rfl ?_
      refine qw_step (fun w hw => r_move rfl) rfl ?_
      apply qw_and (p := 36) (m := 28) 8 rfl
      · intro hg4_8; have hg4_8p := hg4_8; (try simp only [Bool.and_eq_true, Bool.or_eq_true, Bool.and_eq_false_iff, Bool.or_eq_false_iff, Bool.not_eq_true', Bool.not_eq_false', decide_eq_true_eq, decide_eq_false_iff_not, ne_eq, Decidable.not_not, not_true_eq_false, not_false_eq_true] at hg4_8p)
        refine qw_guard rfl rfl rfl (by rw [hg4_8]; rfl) ?_
        refine qw_step (fun w hw => r_move rfl) rfl ?_
        refine qw_guard rfl rfl rfl (by rw [hg4_8]; rfl) ?_
        refine qw_step (fun w hw => r_move rfl) rfl ?_
        apply qw_or (p := 35) (m := 30) 5 rfl
        · intro hg4_10; have hg4_10p := hg4_10; (try simp only [Bool.and_eq_true, Bool.or_eq_true, Bool.and_eq_false_iff, Bool.or_eq_false_iff, Bool.not_eq_true', Bool.not_eq_false', decide_eq_true_eq, decide_eq_false_iff_not, ne_eq, Decidable.not_not, not_true_eq_false, not_false_eq_true] at hg4_10p)
          refine qw_guard rfl rfl rfl (by rw [hg4_10]; rfl) ?_
          refine qw_step (fun w hw => r_move rfl) rfl ?_
          refine qw_guard rfl rfl rfl (by rw [hg4_10]; rfl) ?_
          refine qw_step (fun w hw => r_move rfl) rfl ?_
          refine qw_guard rfl rfl rfl (by rw [hg4_10]; rfl) ?_
          refine qw_step (fun w hw => r_len rfl (by rfl) rfl) rfl ?_
          refine qw_guard rfl rfl rfl (by rw [hg4_10]; rfl) ?_
          refine qw_step (fun w hw => r_lt rfl rfl) rfl ?_
          refine qw_guard rfl rfl rfl (by rw [hg4_8]; rfl) ?_
          refine qw_step (fun w hw => r_pickF rfl hg4_10 rfl) rfl ?_
          exact qw_end rfl (by repeat (first | exact trivial | refine ⟨rfl, ?_⟩))
        · intro hg4_10
          refine qw_pass rfl rfl rfl (by rw [hg4_10]; rfl) rfl ?_
          refine qw_pass rfl rfl rfl (by rw [hg4_10]; rfl) rfl ?_
          refine qw_pass rfl rfl rfl (by rw [hg4_10]; rfl) rfl ?_
          refine qw_pass rfl rfl rfl (by rw [hg4_10]; rfl) rfl ?_
          refine qw_guard rfl rfl rfl (by rw [hg4_8]; rfl) ?_
          refine qw_step (fun w hw => r_pickT rfl hg4_10 rfl) rfl ?_
          exact qw_end rfl (by repeat (first | exact trivial | refine ⟨rfl, ?_⟩))
        refine qw_step (fun w hw => r_pickT rfl hg4_8 rfl) rfl ?_
        exact qw_end rfl (by repeat (first | exact trivial | refine ⟨rfl, ?_⟩))
      · intro hg4_8
        refine qw_pass rfl rfl rfl (by rw [hg4_8]; rfl) rfl ?_
        refine qw_pass rfl rfl rfl (by rw [hg4_8]; rfl) rfl ?_
        refine qw_passU rfl rfl rfl rfl ?_
        refine qw_passU rfl rfl rfl rfl ?_
        refine qw_passU rfl rfl rfl rfl ?_
        refine qw_passU rfl rfl rfl rfl ?_
        refine qw_pass rfl rfl rfl (by rw [hg4_8]; rfl) rfl ?_
        refine qw_step (fun w hw => r_pickF rfl hg4_8 rfl) rfl ?_
        exact qw_end rfl (by repeat (first | exact trivial | refine ⟨rfl, ?_⟩))
      refine qw_step (fun w hw => r_assign rfl) rfl ?_
      refine qw_step (fun w hw => r_assign rfl) rfl ?_
      clear hP; refine qw_nil (fun W hP => ?_)
      refine ew_next ?_
      refine cw_ret ?_
      refine ew_rets (rs := [(Go.ResultVar.tmp 4), (Go.ResultVar.tmp 5)]) rfl (by simp) (.tmp rfl (.tmp rfl .nil)) ⟨?_, hP.old⟩
      rw [take_wd, drop_wd, ← wz_dz]
      have e1 : (decide (((wd L).length : Int) < (L.length : Int))) = decide ((wd L).length < L.length) := by simp
      rw [e1]
end Go.Proofs.YtlhmbncalonomaaDoor.Txt
namespace Go.Proofs.YtlhmbncalonomaaDoor.Tld
open Go.RowKit Go.Proofs.YtlhmbncalonomaaDoor.Q Go.Proofs.YtlhmbncalonomaaDoor.Cpy Go.Proofs.YtlhmbncalonomaaDoor.Hand Go.Proofs.YtlhmbncalonomaaDoor.Arr Go.Proofs.YtlhmbncalonomaaDoor.Sx Go.Proofs.YtlhmbncalonomaaDoor.Head Go.Proofs.YtlhmbncalonomaaDoor.Snd Go.Proofs.YtlhmbncalonomaaDoor.TpB Go.Proofs.YtlhmbncalonomaaDoor.TpH Go.Proofs.YtlhmbncalonomaaDoor.RfH Go.Proofs.YtlhmbncalonomaaDoor.Spc Go.Proofs.YtlhmbncalonomaaDoor.Spd Go.Proofs.YtlhmbncalonomaaDoor.Fil Go.Proofs.YtlhmbncalonomaaDoor.Fil2 Go.Proofs.YtlhmbncalonomaaDoor.Twn Go.Proofs.YtlhmbncalonomaaDoor.Nm Go.Proofs.YtlhmbncalonomaaDoor.Txt Go.Proofs.YtlhmbncalonomaaDoorW.PrintWords Go.Proofs.YtlhmbncalonomaaDoorW.PrintLast Go.Proofs.YtlhmbncalonomaaDoorW.PrintMore
set_option linter.unusedVariables false
set_option linter.unusedSimpArgs false
def sub (L : List Int) (at_ n : Nat) : List Int := (L.drop at_).take n
theorem sub_len {L : List Int} (hL : L.length = 512) (at_ n : Nat) (h : at_ + n ≤ 512) : (sub L at_ n).length = n := by
  unfold sub; rw [List.length_take, List.length_drop]; omega
def nf (L : List Int) (i : Nat) : Int × Bool := num (sub L (numA i).toNat (numB i).toNat)
def numsOk (L : List Int) : Bool := (nf L 0).2 && (nf L 1).2 && (nf L 2).2 && (nf L 3).2 && (nf L 4).2
def txS (L : List Int) (at_ n : Nat) : ByteArray := strOfNums (wd (sub L at_ n))
def txO (L : List Int) (at_ n : Nat) (b : Bool) : Bool := wz (sub L at_ n) && (b || decide ((wd (sub L at_ n)).length < (sub L at_ n).length))
def kindP (v : Int) : Option Int := if v = 48 then some 0 else if v = 0 then some 0 else if v = 50 then some 2 else if v = 53 then some 5 else none
def mag (L : List Int) : Bool := (strOfNums (sub L 257 8)).toList == ByteArray.toList ⟨#[117, 115, 116, 97, 114, 0, 48, 48]⟩
def isE (s : ByteArray) : Bool := s.toList == ByteArray.toList ⟨#[]⟩
def bigB (L : List Int) (k : Int) : Bool := (((((!txO L 0 100 true) || (!txO L 345 155 true)) || (!txO L 265 32 false)) || (!txO L 297 32 false)) || isE (txS L 0 100)) || (decide (k ≠ 0) && decide (0 < (nf L 3).1))
def nameF (L : List Int) : ByteArray := if isE (txS L 345 155) = true then txS L 0 100 else (txS L 345 155 ++ ⟨#[47]⟩) ++ txS L 0 100
def kd (L : List Int) : Int := (kindP (L.getD 156 0)).getD 0
def hdrF (L : List Int) : S26 := ⟨nameF L, if kd L = 2 then txS L 157 100 else ⟨#[]⟩, txS L 265 32, txS L 297 32, kd L, (nf L 0).1, (nf L 1).1, (nf L 2).1, (nf L 4).1, []⟩
def hdrOk (L : List Int) : Bool := mag L && ((kindP (L.getD 156 0)).isSome && (numsOk L && (!bigB L (kd L) && ((!decide (kd L = 2) || txO L 157 100 true) && okS (hdrF L)))))
theorem txS_size {L : List Int} (hL : L.length = 512) (at_ n : Nat) (h : at_ + n ≤ 512) : (txS L at_ n).size ≤ n := by
  unfold txS; rw [strOfNums_size]; have := wd_le (sub L at_ n); rw [sub_len hL at_ n h] at this; exact this
abbrev nilS : Value := .slice none 0 0
def z10 : List Value := rowV z26 nilS
def c5 (k : Int) (v : Nat → Int) (i : Nat) : List Value := [.string ⟨#[]⟩, .string ⟨#[]⟩, .string ⟨#[]⟩, .string ⟨#[]⟩, .int .i64 k, .int .i64 (if 0 < i then v 0 else 0), .int .i64 (if 1 < i then v 1 else 0), .int .i64 (if 2 < i then v 2 else 0), .int .i64 (if 4 < i then v 4 else 0), nilS]
def c6 (v : Nat → Int) (i : Nat) : List Value := [.int .i64 (if 3 < i then v 3 else 0)]
def at5 (b5 b6 i : Nat) : Addr := match i with
  | 0 => ⟨b5, 5, none⟩
  | 1 => ⟨b5, 6, none⟩
  | 2 => ⟨b5, 7, none⟩
  | 3 => ⟨b6, 0, none⟩
  | _ => ⟨b5, 8, none⟩
def ptrs (b5 b6 : Nat) : List Value := [.pointer (some ⟨b5, 5, none⟩), .pointer (some ⟨b5, 6, none⟩), .pointer (some ⟨b5, 7, none⟩), .pointer (some ⟨b6, 0, none⟩), .pointer (some ⟨b5, 8, none⟩)]
theorem ptrs_at (b5 b6 i : Nat) (h : i < 5) : (ptrs b5 b6)[((i : Nat) : Int).toNat]? = some (.pointer (some (at5 b5 b6 i))) := by
  rw [Int.toNat_natCast]
  match i, h with
  | 0, _ | 1, _ | 2, _ | 3, _ | 4, _ => rfl
theorem ow_store5 {Q : Exit → Act → World → Prop} {N : Nat} {sl : List (Nat × Value)} {w W : World} {ops : Array Oper} {rest : List Oper} {b5 b6 b2 : Nat} {ty : TypeId} {pos : String} {aft : Array Edge} {x y : Operand} {k : Int} {v : Nat → Int} {i : Nat}
    (hP : HP w W [(b6, c6 v i, 3), (b5, c5 k v i, 26), (b2, z10, 26)]) (hi : i < 5) (hx : sv sl x = some (.pointer (some (at5 b5 b6 i)))) (hy : sv sl y = some (.int .i64 (v i)))
    (h : ∀ W', HP w W' [(b6, c6 v (i + 1), 3), (b5, c5 k v (i + 1), 26), (b2, z10, 26)] → OW Tryd.prog ops Q rest N sl W') : OW Tryd.prog ops Q (⟨none, .store 3 x y, ty, pos, aft, none⟩ :: rest) N sl W := by
  match i, hi with
  | 0, _ => exact ow_store hP 1 rfl (by simp [c5]) hx hy rfl rfl size3 (fun W' _ hP => h W' hP)
  | 1, _ => exact ow_store hP 1 rfl (by simp [c5]) hx hy rfl rfl size3 (fun W' _ hP => h W' hP)
  | 2, _ => exact ow_store hP 1 rfl (by simp [c5]) hx hy rfl rfl size3 (fun W' _ hP => h W' hP)
  | 3, _ => exact ow_store hP 0 rfl (by simp [c6]) hx hy rfl rfl size3 (fun W' _ hP => h W' hP)
  | 4, _ => exact ow_store hP 1 rfl (by simp [c5]) hx hy rfl rfl size3 (fun W' _ hP => h W' hP)
theorem Bytes.below' {w W : World} {g : Nat} {L : List Int} (h : Bytes w g L) (hb : Below w.heap.size w W) : Bytes W g L := by
  unfold Bytes at *
  have hlt : g < w.heap.size := by
    rcases Nat.lt_or_ge g w.heap.size with h2 | h2
    · exact h2
    · rw [Array.getElem?_eq_none h2] at h; cases h
  rw [hb.block g hlt]
  exact h
theorem part_U8 {w : World} {g : Nat} {L : List Int} (h : Bytes w g L) (hL : L.length = 512) (at_ n : Nat) (hn : at_ + n ≤ 512) : U8 w (some ⟨g, at_, none⟩) (sub L at_ n) :=
  ⟨rfl, by rw [sub_len hL at_ n hn]; omega, fun _ => ⟨_, rfl, fun j p hj => ⟨[.int .u8 p], rfl, rfl, fun i u hu => by
    match i, hu with
    | 0, hu =>
      cases hu
      rw [Addr.add_mid, show at_ + (j * (Kd.int .u8).sz + 0) = at_ + j by show at_ + (j * 1 + 0) = _; omega]
      have hj' := hj
      unfold sub at hj'
      rw [List.getElem?_take] at hj'
      split at hj'
      · rw [List.getElem?_drop] at hj'
        obtain ⟨hlt, e⟩ := List.getElem?_eq_some_iff.1 hj'
        rw [cell_of h _ hlt, e]
      · cases hj'⟩⟩⟩
theorem part_of (g : Nat) (L : List Int) (hL : L.length = 512) (at_ n : Nat) (x y : Int) (hx : x = (at_ : Int)) (hy : y = (n : Int)) (w : World) (h5 : at_ < 512) (hn : at_ + n ≤ 512) :
    Calls Tryd.prog 31 #[.pointer (some ⟨g, 0, none⟩), .agg #[.int .i64 x, .int .i64 y]] w fun e w' => e = .returned (.slice (some ⟨g, at_, none⟩) (sub L at_ n).length (512 - at_)) ∧ w.grownBy w' none := by
  subst hx; subst hy
  rw [sub_len hL at_ n hn]
  exact part_calls g at_ n w h5 hn
theorem word_of (g : Nat) (L : List Int) (hL : L.length = 512) (w : World) (hB : Bytes w g L) (at_ n : Nat) (b : Bool) (hn : at_ + n ≤ 512) :
    Calls Tryd.prog 44 #[.slice (some ⟨g, at_, none⟩) (sub L at_ n).length (512 - at_), .bool b] w fun e w' => e = .returned (.tuple #[.string (txS L at_ n), .bool (txO L at_ n b)]) ∧ Below w.heap.size w w' :=
  text_calls g at_ (512 - at_) (sub L at_ n) b w (part_U8 hB hL at_ n hn) (by rw [sub_len hL at_ n hn]; omega) (by rw [sub_len hL at_ n hn]; omega)
theorem numAB (i : Nat) (h : i < 5) : (numA i).toNat + (numB i).toNat ≤ 512 ∧ numA i = ((numA i).toNat : Int) ∧ numB i = ((numB i).toNat : Int) ∧ (numA i).toNat < 512 ∧ (numB i).toNat ≤ 12 := by
  match i, h with
  | 0, _ | 1, _ | 2, _ | 3, _ | 4, _ => decide
theorem num_of (g : Nat) (L : List Int) (hL : L.length = 512) (w : World) (hB : Bytes w g L) (i : Nat) (hi : i < 5) :
    Calls Tryd.prog 30 #[.slice (some ⟨g, (numA i).toNat, none⟩) (sub L (numA i).toNat (numB i).toNat).length (512 - (numA i).toNat)] w fun e w' => e = .returned (.tuple #[.int .i64 (nf L i).1, .bool (nf L i).2]) ∧ Drawn0 w w' := by
  obtain ⟨h1, h2, h3, h4, h5⟩ := numAB i hi
  exact number30 _ _ _ w (part_U8 hB hL _ _ h1) (by rw [sub_len hL _ _ h1]; omega) (by rw [sub_len hL _ _ h1]; omega)
theorem nf_bd (L : List Int) (hL : L.length = 512) (i : Nat) (hi : i < 5) : 0 ≤ (nf L i).1 ∧ (nf L i).1 < 68719476736 := by
  obtain ⟨h1, h2, h3, h4, h5⟩ := numAB i hi
  exact num_bd _ (by rw [sub_len hL _ _ h1]; exact h5)
theorem numsOk_no {L : List Int} {i : Nat} (hi : i < 5) (h : (nf L i).2 = false) : numsOk L = false := by
  unfold numsOk
  match i, hi with
  | 0, _ | 1, _ | 2, _ | 3, _ | 4, _ => rw [h]; simp
theorem numsOk_yes {L : List Int} (h : ∀ j, j < 5 → (nf L j).2 = true) : numsOk L = true := by
  unfold numsOk
  rw [h 0 (by omega), h 1 (by omega), h 2 (by omega), h 3 (by omega), h 4 (by omega)]
  rfl
theorem kd_of {L : List Int} {k : Int} (h : kindP (L.getD 156 0) = some k) : kd L = k := by unfold kd; rw [h]; rfl
theorem hdr_of {L : List Int} {k : Int} (hm : mag L = true) (hk : kindP (L.getD 156 0) = some k) (hv : numsOk L = true) (hb : bigB L k = false) (hl : (!decide (k = 2) || txO L 157 100 true) = true) : hdrOk L = okS (hdrF L) := by
  unfold hdrOk; rw [hm, hk, hv, kd_of hk, hb, hl]; simp
theorem en21 : Enters Tryd.prog 21 := fun args w => by kernel_rfl
theorem en30 : Enters Tryd.prog 30 := fun args w => by kernel_rfl
theorem en44 : Enters Tryd.prog 44 := fun args w => by kernel_rfl
theorem zero26i : (Tryd.prog.info? 26).map (fun j => j.zero.map Value.cells) = some (some z10.toArray) := by kernel_rfl
theorem zero3i : (Tryd.prog.info? 3).map (fun j => j.zero.map Value.cells) = some (some [Value.int .i64 0].toArray) := by kernel_rfl
theorem size9 : (Tryd.prog.info? 9).map (·.size) = some 1 := by kernel_rfl
theorem z10_one : ∀ v ∈ z10, v.oneCell' = true := by simp [z10, rowV, Value.oneCell']
theorem byte_at {W : World} {g : Nat} {L : List Int} (h : Bytes W g L) (i : Nat) (hi : i < L.length) : W.cell? ⟨g, i, none⟩ = some (.int .u8 (L.getD i 0)) := by
  rw [cell_of h i hi, List.getD_eq_getElem?_getD, List.getElem?_eq_getElem hi]; rfl
section
variable {P : Program} {n : Nat} {sl : List (Nat × Value)} {w : World} {dst : Option Tmp} {ty : TypeId} {pos : String} {aft : Array Edge} {g : Option (Nat × Bool)} {x : Operand}
theorem r_nilCheck {a : Addr} (hx : sv sl x = some (.pointer (some a))) : Runs P ⟨dst, .nilCheck x, ty, pos, aft, g⟩ n sl w (.pointer (some a)) w := fun f hf => by
  simp only [execOp, hf.ev hx]
  rfl
theorem not_t {b : Bool} (h : (!b) = true) : b = false := by cases b <;> simp_all
theorem not_f {b : Bool} (h : (!b) = false) : b = true := by cases b <;> simp_all
end
theorem size78 : (Tryd.prog.info? 76).map (·.size) = some 1 := by kernel_rfl
set_option maxRecDepth 100000 in
set_option maxHeartbeats 1000000 in
theorem told_calls (g : Nat) (L : List Int) (hL : L.length = 512) (w : World) (hl : Laid w) (hB : Bytes w g L) :
    Calls Tryd.prog 33 #[.pointer (some ⟨g, 0, none⟩)] w fun e w' => ∃ X n, e = .returned (.tuple #[.agg (rowV X nilS).toArray, .int .i64 n, .bool (hdrOk L)]) ∧ (hdrOk L = true → X = hdrF L ∧ n = (nf L 3).1) ∧ Below w.heap.size w w' := by
  have hP := HP.start w
  refine calls_cw Tryd.func33 rfl rfl (by simp) ?_
  refine cw_seq ?_
  -- region 0 tape.go:202
  refine cw_region ?_
  refine ow_alloc hP (ws := z10) zero26i rfl ?_
  clear hP; intro b2 W hz hg hP; clear hz hg
  refine ow_step (r_assign rfl) rfl ?_
  refine ow_step (r_assign rfl) rfl ?_
  refine ow_nil ?_
  refine ew_next ?_
  refine cw_seq ?_
  refine cw_seq ?_
  -- region 1 tape.go:203
  refine cw_region ?_
  refine ow_step (r_move rfl) rfl ?_
  refine ow_step (r_loads rfl (c := [.int .i64 257, .int .i64 8]) Tryd.underlying60 rfl size60 (gl2 (hl.below hP.old).f0 (hl.below hP.old).f1)) rfl ?_
  refine ow_call en31 rfl (part_of g L hL 257 8 _ _ (by decide) (by decide) _ (by decide) (by decide)) rfl ?_
  rintro e W ⟨rfl, hg⟩; replace hP := hP.grown hg; clear hg; refine ⟨_, rfl, ?_⟩
  refine ow_step (r_conv24 (L := sub L 257 8) rfl (part_U8 (Bytes.below' hB hP.old) hL 257 8 (by decide))) rfl ?_
  refine ow_step (r_sne rfl rfl) rfl ?_
  refine ow_nil ?_
  refine ew_next ?_
  refine cw_cond rfl (fun hb0 => ?_) (fun hb0 => ?_)
  · -- cond 0 yes
    have hc0 := hb0; (try simp only [Bool.and_eq_true, Bool.or_eq_true, Bool.and_eq_false_iff, Bool.or_eq_false_iff, Bool.not_eq_true', Bool.not_eq_false', decide_eq_true_eq, decide_eq_false_iff_not, ne_eq, Decidable.not_not, not_true_eq_false, not_false_eq_true] at hc0)
    refine cw_seq ?_
    -- region 2 tape.go:204
    refine cw_region ?_
    refine ow_step (r_build (v := .agg z10.toArray) rfl (fun w => by kernel_rfl)) rfl ?_
    refine ow_stores hP 0 rfl (ws := z10) rfl rfl z10_one rfl size26 ?_
    clear hP; intro W hg hP; clear hg; dsimp only [List.set] at hP
    refine ow_step (r_assign rfl) rfl ?_
    refine ow_step (r_assign rfl) rfl ?_
    refine ow_nil ?_
    refine ew_next ?_
    refine cw_ret ?_
    refine ew_then_ret ?_
    have hk0 : hdrOk L = false := by
      (have : mag L = false := by simpa [mag] using hc0); unfold hdrOk; rw [this]; rfl
    refine ew_rets (rs := [(Go.ResultVar.cell 2 26), (Go.ResultVar.tmp 3), (Go.ResultVar.tmp 4)]) rfl (by simp) (.cell b2 26 _ (0, 0) _ rfl (hP.blk (i := 0) rfl) Tryd.underlying26 rfl size26 (.tmp rfl (.tmp rfl .nil))) ?_
    exact ⟨z26, 0, by rw [hk0]; rfl, fun h => absurd (hk0.symm.trans h) (by decide), hP.old⟩
  · -- cond 0 no
    have hc0 := hb0; (try simp only [Bool.and_eq_true, Bool.or_eq_true, Bool.and_eq_false_iff, Bool.or_eq_false_iff, Bool.not_eq_true', Bool.not_eq_false', decide_eq_true_eq, decide_eq_false_iff_not, ne_eq, Decidable.not_not, not_true_eq_false, not_false_eq_true] at hc0)
    have hm : mag L = true := by simpa [mag] using hc0
    refine cw_skip ?_
    refine ew_next ?_
    refine cw_seq ?_
    -- region 3 tape.go:206
    refine cw_region ?_
    refine ow_alloc hP (ws := z10) zero26i rfl ?_
    clear hP; intro b5 W hz hg hP; clear hz hg
    refine ow_nil ?_
    refine ew_next ?_
    refine cw_cut (α := Int) (fun k => [(0, .pointer (some ⟨g, 0, none⟩)), (2, .pointer (some ⟨b2, 0, none⟩)), (5, .pointer (some ⟨b5, 0, none⟩))]) (fun k w' => kindP (L.getD 156 0) = some k ∧ HP w w' [(b5, c5 k (fun j => (nf L j).1) 0, 26), (b2, z10, 26)]) ?_ (fun k W ⟨hk, hQ⟩ => ?_)
    · -- ahead of the cut
      refine cw_seq ?_
      -- region 4 tape.go:207
      refine cw_region ?_
      refine ow_step (r_move rfl) rfl ?_
      refine ow_step (r_nilCheck rfl) rfl ?_
      refine ow_step (r_indexArr (o' := 156) rfl rfl Tryd.underlying50 size5 ⟨by decide, by decide⟩ rfl) rfl ?_
      refine ow_step (v := .int .u8 (L.getD 156 0)) (r_load rfl rfl (byte_at (Bytes.below' hB hP.old) 156 (by omega))) rfl ?_
      refine ow_nil ?_
      refine ew_next ?_
      refine cw_block ?_
      refine cw_seq ?_
      refine cw_seq ?_
      -- region 6 tape.go:208
      refine cw_region ?_
      refine ow_step (r_eq rfl rfl) rfl ?_
      refine ow_step (r_assign rfl) rfl ?_
      refine ow_nil ?_
      refine ew_next ?_
      refine cw_cond rfl (fun hb1 => ?_) (fun hb1 => ?_)
      · -- cond 1 yes
        have hc1 := hb1; (try simp only [Bool.and_eq_true, Bool.or_eq_true, Bool.and_eq_false_iff, Bool.or_eq_false_iff, Bool.not_eq_true', Bool.not_eq_false', decide_eq_true_eq, decide_eq_false_iff_not, ne_eq, Decidable.not_not, not_true_eq_false, not_false_eq_true] at hc1)
        refine cw_skip ?_
        refine ew_next ?_
        refine cw_true (by rw [← hb1]; rfl) ?_
        refine cw_skip ?_
        refine ew_block ?_
        refine ew_cut (0 : Int) ⟨rfl, rfl, rfl, trivial⟩ ⟨by unfold kindP; rw [if_pos hc1], ?_⟩
        exact hP
      · -- cond 1 no
        have hc1 := hb1; (try simp only [Bool.and_eq_true, Bool.or_eq_true, Bool.and_eq_false_iff, Bool.or_eq_false_iff, Bool.not_eq_true', Bool.not_eq_false', decide_eq_true_eq, decide_eq_false_iff_not, ne_eq, Decidable.not_not, not_true_eq_false, not_false_eq_true] at hc1)
        -- region 7 tape.go:208
        refine cw_region ?_
        refine ow_step (r_eq rfl rfl) rfl ?_
        refine ow_step (r_assign rfl) rfl ?_
        refine ow_nil ?_
        refine ew_next ?_
        refine cw_cond rfl (fun hb3 => ?_) (fun hb3 => ?_)
        · -- cond 3 yes
          have hc3 := hb3; (try simp only [Bool.and_eq_true, Bool.or_eq_true, Bool.and_eq_false_iff, Bool.or_eq_false_iff, Bool.not_eq_true', Bool.not_eq_false', decide_eq_true_eq, decide_eq_false_iff_not, ne_eq, Decidable.not_not, not_true_eq_false, not_false_eq_true] at hc3)
          refine cw_skip ?_
          refine ew_block ?_
          refine ew_cut (0 : Int) ⟨rfl, rfl, rfl, trivial⟩ ⟨by unfold kindP; rw [if_neg hc1, if_pos hc3], ?_⟩
          exact hP
        · -- cond 3 no
          have hc3 := hb3; (try simp only [Bool.and_eq_true, Bool.or_eq_true, Bool.and_eq_false_iff, Bool.or_eq_false_iff, Bool.not_eq_true', Bool.not_eq_false', decide_eq_true_eq, decide_eq_false_iff_not, ne_eq, Decidable.not_not, not_true_eq_false, not_false_eq_true] at hc3)
          refine cw_seq ?_
          -- region 8 tape.go:209
          refine cw_region ?_
          refine ow_step (r_eq rfl rfl) rfl ?_
          refine ow_step (r_assign rfl) rfl ?_
          refine ow_nil ?_
          refine ew_next ?_
          refine cw_cond rfl (fun hb4 => ?_) (fun hb4 => ?_)
          · -- cond 4 yes
            have hc4 := hb4; (try simp only [Bool.and_eq_true, Bool.or_eq_true, Bool.and_eq_false_iff, Bool.or_eq_false_iff, Bool.not_eq_true', Bool.not_eq_false', decide_eq_true_eq, decide_eq_false_iff_not, ne_eq, Decidable.not_not, not_true_eq_false, not_false_eq_true] at hc4)
            -- region 9 tape.go:210
            refine cw_region ?_
            refine ow_step (r_fieldAddr rfl fl26_4) rfl ?_
            refine ow_store hP 0 rfl (by simp [z10, rowV]) rfl rfl rfl rfl size3 ?_
            clear hP; intro W hg hP; clear hg; dsimp only [List.set, z10, rowV] at hP
            refine ow_nil ?_
            refine ew_block ?_
            refine ew_cut (2 : Int) ⟨rfl, rfl, rfl, trivial⟩ ⟨by unfold kindP; rw [if_neg hc1, if_neg hc3, if_pos hc4], ?_⟩
            exact hP
          · -- cond 4 no
            have hc4 := hb4; (try simp only [Bool.and_eq_true, Bool.or_eq_true, Bool.and_eq_false_iff, Bool.or_eq_false_iff, Bool.not_eq_true', Bool.not_eq_false', decide_eq_true_eq, decide_eq_false_iff_not, ne_eq, Decidable.not_not, not_true_eq_false, not_false_eq_true] at hc4)
            refine cw_seq ?_
            -- region 10 tape.go:211
            refine cw_region ?_
            refine ow_step (r_eq rfl rfl) rfl ?_
            refine ow_step (r_assign rfl) rfl ?_
            refine ow_nil ?_
            refine ew_next ?_
            refine cw_cond rfl (fun hb5 => ?_) (fun hb5 => ?_)
            · -- cond 5 yes
              have hc5 := hb5; (try simp only [Bool.and_eq_true, Bool.or_eq_true, Bool.and_eq_false_iff, Bool.or_eq_false_iff, Bool.not_eq_true', Bool.not_eq_false', decide_eq_true_eq, decide_eq_false_iff_not, ne_eq, Decidable.not_not, not_true_eq_false, not_false_eq_true] at hc5)
              -- region 11 tape.go:212
              refine cw_region ?_
              refine ow_step (r_fieldAddr rfl fl26_4) rfl ?_
              refine ow_store hP 0 rfl (by simp [z10, rowV]) rfl rfl rfl rfl size3 ?_
              clear hP; intro W hg hP; clear hg; dsimp only [List.set, z10, rowV] at hP
              refine ow_nil ?_
              refine ew_block ?_
              refine ew_cut (5 : Int) ⟨rfl, rfl, rfl, trivial⟩ ⟨by unfold kindP; rw [if_neg hc1, if_neg hc3, if_neg hc4, if_pos hc5], ?_⟩
              exact hP
            · -- cond 5 no
              have hc5 := hb5; (try simp only [Bool.and_eq_true, Bool.or_eq_true, Bool.and_eq_false_iff, Bool.or_eq_false_iff, Bool.not_eq_true', Bool.not_eq_false', decide_eq_true_eq, decide_eq_false_iff_not, ne_eq, Decidable.not_not, not_true_eq_false, not_false_eq_true] at hc5)
              refine cw_seq ?_
              -- region 5 tape.go:214
              refine cw_region ?_
              refine ow_step (r_build (v := .agg z10.toArray) rfl (fun w => by kernel_rfl)) rfl ?_
              refine ow_stores hP 1 rfl (ws := z10) rfl rfl z10_one rfl size26 ?_
              clear hP; intro W hg hP; clear hg; dsimp only [List.set] at hP
              refine ow_step (r_assign rfl) rfl ?_
              refine ow_step (r_assign rfl) rfl ?_
              refine ow_nil ?_
              refine ew_next ?_
              refine cw_ret ?_
              refine ew_block_ret ?_
              refine ew_then_ret ?_
              have hk0 : hdrOk L = false := by
                unfold hdrOk; rw [show kindP (L.getD 156 0) = none from by unfold kindP; rw [if_neg hc1, if_neg hc3, if_neg hc4, if_neg hc5]]; simp
              refine ew_rets (rs := [(Go.ResultVar.cell 2 26), (Go.ResultVar.tmp 3), (Go.ResultVar.tmp 4)]) rfl (by simp) (.cell b2 26 _ (0, 0) _ rfl (hP.blk (i := 1) rfl) Tryd.underlying26 rfl size26 (.tmp rfl (.tmp rfl .nil))) ?_
              exact ⟨z26, 0, by rw [hk0]; rfl, fun h => absurd (hk0.symm.trans h) (by decide), hP.old⟩
    · -- behind the cut
      clear hP; have hP := hQ; clear hQ
      have hkd := kd_of hk
      refine cw_seq ?_
      -- region 12 tape.go:216
      refine cw_region ?_
      refine ow_alloc hP (ws := [.int .i64 0]) zero3i rfl ?_
      clear hP; intro b6 W hz hg hP; clear hz hg
      refine ow_nil ?_
      refine ew_next ?_
      refine cw_seq ?_
      refine cw_seq ?_
      -- region 13 tape.go:217
      refine cw_region ?_
      refine ow_step (r_fieldAddr rfl fl26_5) rfl ?_
      refine ow_step (r_fieldAddr rfl fl26_6) rfl ?_
      refine ow_step (r_fieldAddr rfl fl26_7) rfl ?_
      refine ow_step (r_fieldAddr rfl fl26_8) rfl ?_
      refine ow_step (r_build (v := .agg (ptrs b5 b6).toArray) rfl (fun w => by kernel_rfl)) rfl ?_
      refine ow_step (r_move rfl) rfl ?_
      refine ow_nil ?_
      refine ew_next ?_
      refine cw_block ?_
      refine cw_loop (fun i => 5 - i) (fun i => [(0, .pointer (some ⟨g, 0, none⟩)), (2, .pointer (some ⟨b2, 0, none⟩)), (5, .pointer (some ⟨b5, 0, none⟩)), (6, .pointer (some ⟨b6, 0, none⟩)), (45, .agg (ptrs b5 b6).toArray), (46, .int .i64 ((i : Nat) : Int))]) (fun i w' => i ≤ 5 ∧ (∀ j, j < i → (nf L j).2 = true) ∧ HP w w' [(b6, c6 (fun j => (nf L j).1) i, 3), (b5, c5 k (fun j => (nf L j).1) i, 26), (b2, z10, 26)]) 0 ⟨rfl, rfl, rfl, rfl, rfl, rfl, trivial⟩ ⟨by omega, fun j hj => absurd hj (by omega), hP⟩ ?_
      clear hP; rintro i W ⟨hi, hall, hP⟩
      · -- round 0
        refine cw_seq ?_
        -- region 14 tape.go:217
        refine cw_region ?_
        refine ow_step (r_lt rfl rfl) rfl ?_
        refine ow_nil ?_
        refine ew_next ?_
        refine cw_seq ?_
        refine cw_cond rfl (fun hb6 => ?_) (fun hb6 => ?_)
        · -- cond 6 yes
          have hc6 := hb6; (try simp only [Bool.and_eq_true, Bool.or_eq_true, Bool.and_eq_false_iff, Bool.or_eq_false_iff, Bool.not_eq_true', Bool.not_eq_false', decide_eq_true_eq, decide_eq_false_iff_not, ne_eq, Decidable.not_not, not_true_eq_false, not_false_eq_true] at hc6)
          have hi5 : i < 5 := by omega
          obtain ⟨n1, n2, n3, n4, n5⟩ := numAB i hi5
          refine cw_skip ?_
          refine ew_next ?_
          refine cw_seq ?_
          refine cw_block ?_
          refine cw_seq ?_
          -- region 15 tape.go:217
          refine cw_region ?_
          refine ow_step (r_move rfl) rfl ?_
          refine ow_step (r_indexVal rfl rfl Tryd.underlying77 rfl size78 ⟨by omega, by omega⟩ (ptrs_at b5 b6 i hi5)) rfl ?_
          refine ow_step (r_assign rfl) rfl ?_
          refine ow_step (r_assign rfl) rfl ?_
          refine ow_nil ?_
          refine ew_next ?_
          refine cw_seq ?_
          -- region 16 tape.go:218
          refine cw_region ?_
          refine ow_step (r_move rfl) rfl ?_
          refine ow_step (r_move rfl) rfl ?_
          refine ow_step (r_indexArr rfl rfl Tryd.underlying61 size60 ⟨by omega, by omega⟩ rfl) rfl ?_
          refine ow_step (r_loads rfl (c := [.int .i64 (numA i), .int .i64 (numB i)]) Tryd.underlying60 rfl size60 ((hl.below hP.old).num i (by omega))) rfl ?_
          refine ow_call en31 rfl (part_of g L hL _ _ _ _ n2 n3 _ n4 n1) rfl ?_
          rintro e W ⟨rfl, hg⟩; replace hP := hP.grown hg; clear hg; refine ⟨_, rfl, ?_⟩
          refine ow_call en30 rfl (num_of g L hL _ (Bytes.below' hB hP.old) i hi5) rfl ?_
          rintro e W ⟨rfl, ⟨m_, rfl⟩⟩; replace hP := hP.drewN m_; refine ⟨_, rfl, ?_⟩
          refine ow_step (r_move rfl) rfl ?_
          refine ow_step (r_extract rfl rfl) rfl ?_
          refine ow_step (r_extract rfl rfl) rfl ?_
          refine ow_step (r_assign rfl) rfl ?_
          refine ow_step (r_assign rfl) rfl ?_
          refine ow_nil ?_
          refine ew_next ?_
          refine cw_seq ?_
          refine cw_seq ?_
          -- region 17 tape.go:219
          refine cw_region ?_
          refine ow_step (r_move rfl) rfl ?_
          refine ow_step (r_not rfl) rfl ?_
          refine ow_nil ?_
          refine ew_next ?_
          refine cw_cond rfl (fun hb7 => ?_) (fun hb7 => ?_)
          · -- cond 7 yes
            have hc7 := hb7; (try simp only [Bool.and_eq_true, Bool.or_eq_true, Bool.and_eq_false_iff, Bool.or_eq_false_iff, Bool.not_eq_true', Bool.not_eq_false', decide_eq_true_eq, decide_eq_false_iff_not, ne_eq, Decidable.not_not, not_true_eq_false, not_false_eq_true] at hc7)
            refine cw_seq ?_
            -- region 18 tape.go:220
            refine cw_region ?_
            refine ow_step (r_build (v := .agg z10.toArray) rfl (fun w => by kernel_rfl)) rfl ?_
            refine ow_stores hP 2 rfl (ws := z10) rfl rfl z10_one rfl size26 ?_
            clear hP; intro W hg hP; clear hg; dsimp only [List.set] at hP
            refine ow_step (r_assign rfl) rfl ?_
            refine ow_step (r_assign rfl) rfl ?_
            refine ow_nil ?_
            refine ew_next ?_
            refine cw_ret ?_
            refine ew_then_ret ?_
            refine ew_block_ret ?_
            refine ew_then_ret ?_
            refine ew_then_ret ?_
            refine ew_block_ret ?_
            refine ew_then_ret ?_
            have hk0 : hdrOk L = false := by
              (have h0 := numsOk_no hi5 hc7); unfold hdrOk; rw [h0]; simp
            refine ew_rets (rs := [(Go.ResultVar.cell 2 26), (Go.ResultVar.tmp 3), (Go.ResultVar.tmp 4)]) rfl (by simp) (.cell b2 26 _ (0, 0) _ rfl (hP.blk (i := 2) rfl) Tryd.underlying26 rfl size26 (.tmp rfl (.tmp rfl .nil))) ?_
            exact ⟨z26, 0, by rw [hk0]; rfl, fun h => absurd (hk0.symm.trans h) (by decide), hP.old⟩
          · -- cond 7 no
            have hc7 := hb7; (try simp only [Bool.and_eq_true, Bool.or_eq_true, Bool.and_eq_false_iff, Bool.or_eq_false_iff, Bool.not_eq_true', Bool.not_eq_false', decide_eq_true_eq, decide_eq_false_iff_not, ne_eq, Decidable.not_not, not_true_eq_false, not_false_eq_true] at hc7)
            refine cw_skip ?_
            refine ew_next ?_
            -- region 19 tape.go:222
            refine cw_region ?_
            refine ow_step (r_move rfl) rfl ?_
            refine ow_step (r_move rfl) rfl ?_
            refine ow_step (r_nilCheck rfl) rfl ?_
            refine ow_store5 hP hi5 rfl rfl ?_
            clear hP; intro W hP
            refine ow_nil ?_
            refine ew_block ?_
            refine ew_next ?_
            -- region 20 tape.go:217
            refine cw_region ?_
            refine ow_step (i_add rfl rfl (by omega)) rfl ?_
            refine ow_step (r_move rfl) rfl ?_
            refine ow_nil ?_
            refine ew_round (i + 1) ⟨rfl, rfl, rfl, rfl, rfl, rfl, trivial⟩ ⟨by omega, fun j hj => ?_, hP⟩ (by omega)
            rcases Nat.lt_or_ge j i with h | h
            · exact hall j h
            · obtain rfl : j = i := by omega
              exact hc7
        · -- cond 6 no
          have hc6 := hb6; (try simp only [Bool.and_eq_true, Bool.or_eq_true, Bool.and_eq_false_iff, Bool.or_eq_false_iff, Bool.not_eq_true', Bool.not_eq_false', decide_eq_true_eq, decide_eq_false_iff_not, ne_eq, Decidable.not_not, not_true_eq_false, not_false_eq_true] at hc6)
          obtain rfl : i = 5 := by omega
          have hv := numsOk_yes hall; clear hall
          replace hP : HP w W [(b6, [.int .i64 (nf L 3).1], 3), (b5, [.string ⟨#[]⟩, .string ⟨#[]⟩, .string ⟨#[]⟩, .string ⟨#[]⟩, .int .i64 k, .int .i64 (nf L 0).1, .int .i64 (nf L 1).1, .int .i64 (nf L 2).1, .int .i64 (nf L 4).1, nilS], 26), (b2, z10, 26)] := hP
          refine cw_exit ?_
          refine ew_then_exit ?_
          refine ew_then_exit ?_
          refine ew_block_hit ?_
          refine ew_next ?_
          refine cw_seq ?_
          -- region 21 tape.go:224
          refine cw_region ?_
          refine ow_step (r_move rfl) rfl ?_
          refine ow_step (r_loads rfl (c := [.int .i64 0, .int .i64 100]) Tryd.underlying60 rfl size60 (gl2 (hl.below hP.old).a0 (hl.below hP.old).a1)) rfl ?_
          refine ow_call en31 rfl (part_of g L hL 0 100 _ _ (by decide) (by decide) _ (by decide) (by decide)) rfl ?_
          rintro e W ⟨rfl, hg⟩; replace hP := hP.grown hg; clear hg; refine ⟨_, rfl, ?_⟩
          refine ow_call en44 rfl (word_of g L hL _ (Bytes.below' hB hP.old) 0 100 true (by decide)) rfl ?_
          rintro e W ⟨rfl, hb⟩; replace hP := hP.below hb; clear hb; refine ⟨_, rfl, ?_⟩
          refine ow_step (r_move rfl) rfl ?_
          refine ow_step (r_extract rfl rfl) rfl ?_
          refine ow_step (r_extract rfl rfl) rfl ?_
          refine ow_step (r_assign rfl) rfl ?_
          refine ow_step (r_assign rfl) rfl ?_
          refine ow_nil ?_
          refine ew_next ?_
          refine cw_seq ?_
          -- region 22 tape.go:225
          refine cw_region ?_
          refine ow_step (r_move rfl) rfl ?_
          refine ow_step (r_loads rfl (c := [.int .i64 345, .int .i64 155]) Tryd.underlying60 rfl size60 (gl2 (hl.below hP.old).b0 (hl.below hP.old).b1)) rfl ?_
          refine ow_call en31 rfl (part_of g L hL 345 155 _ _ (by decide) (by decide) _ (by decide) (by decide)) rfl ?_
          rintro e W ⟨rfl, hg⟩; replace hP := hP.grown hg; clear hg; refine ⟨_, rfl, ?_⟩
          refine ow_call en44 rfl (word_of g L hL _ (Bytes.below' hB hP.old) 345 155 true (by decide)) rfl ?_
          rintro e W ⟨rfl, hb⟩; replace hP := hP.below hb; clear hb; refine ⟨_, rfl, ?_⟩
          refine ow_step (r_move rfl) rfl ?_
          refine ow_step (r_extract rfl rfl) rfl ?_
          refine ow_step (r_extract rfl rfl) rfl ?_
          refine ow_step (r_assign rfl) rfl ?_
          refine ow_step (r_assign rfl) rfl ?_
          refine ow_nil ?_
          refine ew_next ?_
          refine cw_seq ?_
          -- region 23 tape.go:226
          refine cw_region ?_
          refine ow_step (r_move rfl) rfl ?_
          refine ow_step (r_loads rfl (c := [.int .i64 265, .int .i64 32]) Tryd.underlying60 rfl size60 (gl2 (hl.below hP.old).d0 (hl.below hP.old).d1)) rfl ?_
          refine ow_call en31 rfl (part_of g L hL 265 32 _ _ (by decide) (by decide) _ (by decide) (by decide)) rfl ?_
          rintro e W ⟨rfl, hg⟩; replace hP := hP.grown hg; clear hg; refine ⟨_, rfl, ?_⟩
          refine ow_call en44 rfl (word_of g L hL _ (Bytes.below' hB hP.old) 265 32 false (by decide)) rfl ?_
          rintro e W ⟨rfl, hb⟩; replace hP := hP.below hb; clear hb; refine ⟨_, rfl, ?_⟩
          refine ow_step (r_move rfl) rfl ?_
          refine ow_step (r_extract rfl rfl) rfl ?_
          refine ow_step (r_extract rfl rfl) rfl ?_
          refine ow_step (r_assign rfl) rfl ?_
          refine ow_step (r_assign rfl) rfl ?_
          refine ow_nil ?_
          refine ew_next ?_
          refine cw_seq ?_
          -- region 24 tape.go:227
          refine cw_region ?_
          refine ow_step (r_move rfl) rfl ?_
          refine ow_step (r_loads rfl (c := [.int .i64 297, .int .i64 32]) Tryd.underlying60 rfl size60 (gl2 (hl.below hP.old).e0 (hl.below hP.old).e1)) rfl ?_
          refine ow_call en31 rfl (part_of g L hL 297 32 _ _ (by decide) (by decide) _ (by decide) (by decide)) rfl ?_
          rintro e W ⟨rfl, hg⟩; replace hP := hP.grown hg; clear hg; refine ⟨_, rfl, ?_⟩
          refine ow_call en44 rfl (word_of g L hL _ (Bytes.below' hB hP.old) 297 32 false (by decide)) rfl ?_
          rintro e W ⟨rfl, hb⟩; replace hP := hP.below hb; clear hb; refine ⟨_, rfl, ?_⟩
          refine ow_step (r_move rfl) rfl ?_
          refine ow_step (r_extract rfl rfl) rfl ?_
          refine ow_step (r_extract rfl rfl) rfl ?_
          refine ow_step (r_assign rfl) rfl ?_
          refine ow_step (r_assign rfl) rfl ?_
          refine ow_nil ?_
          refine ew_next ?_
          refine cw_seq ?_
          refine cw_seq ?_
          -- region 25 tape.go:228
          refine cw_region ?_
          refine ow_step (r_move rfl) rfl ?_
          refine ow_step (r_not rfl) rfl ?_
          refine ow_step (r_move rfl) rfl ?_
          apply ow_orP (p := 99) (m := 96) 3 hP rfl
          · intro hg25_2; have hg25_2p := hg25_2; (try simp only [Bool.and_eq_true, Bool.or_eq_true, Bool.and_eq_false_iff, Bool.or_eq_false_iff, Bool.not_eq_true', Bool.not_eq_false', decide_eq_true_eq, decide_eq_false_iff_not, ne_eq, Decidable.not_not, not_true_eq_false, not_false_eq_true] at hg25_2p)
            refine ow_guard rfl rfl rfl (by rw [hg25_2]; rfl) ?_
            refine ow_step (r_move rfl) rfl ?_
            refine ow_guard rfl rfl rfl (by rw [hg25_2]; rfl) ?_
            refine ow_step (r_not rfl) rfl ?_
            refine ow_step (r_pickF rfl hg25_2 rfl) rfl ?_
            refine ow_nil (ew_logic rfl (by repeat (first | exact trivial | refine ⟨rfl, ?_⟩)) hP)
          · intro hg25_2
            refine ow_pass rfl rfl rfl (by rw [hg25_2]; rfl) rfl ?_
            refine ow_pass rfl rfl rfl (by rw [hg25_2]; rfl) rfl ?_
            refine ow_step (r_pickT rfl hg25_2 rfl) rfl ?_
            refine ow_nil (ew_logic rfl (by repeat (first | exact trivial | refine ⟨rfl, ?_⟩)) hP)
          intro W hP
          refine ow_step (r_move rfl) rfl ?_
          apply ow_orP (p := 103) (m := 100) 3 hP rfl
          · intro hg25_6; have hg25_6p := hg25_6; (try simp only [Bool.and_eq_true, Bool.or_eq_true, Bool.and_eq_false_iff, Bool.or_eq_false_iff, Bool.not_eq_true', Bool.not_eq_false', decide_eq_true_eq, decide_eq_false_iff_not, ne_eq, Decidable.not_not, not_true_eq_false, not_false_eq_true] at hg25_6p)
            refine ow_guard rfl rfl rfl (by rw [hg25_6]; rfl) ?_
            refine ow_step (r_move rfl) rfl ?_
            refine ow_guard rfl rfl rfl (by rw [hg25_6]; rfl) ?_
            refine ow_step (r_not rfl) rfl ?_
            refine ow_step (r_pickF rfl hg25_6 rfl) rfl ?_
            refine ow_nil (ew_logic rfl (by repeat (first | exact trivial | refine ⟨rfl, ?_⟩)) hP)
          · intro hg25_6
            refine ow_pass rfl rfl rfl (by rw [hg25_6]; rfl) rfl ?_
            refine ow_pass rfl rfl rfl (by rw [hg25_6]; rfl) rfl ?_
            refine ow_step (r_pickT rfl hg25_6 rfl) rfl ?_
            refine ow_nil (ew_logic rfl (by repeat (first | exact trivial | refine ⟨rfl, ?_⟩)) hP)
          intro W hP
          refine ow_step (r_move rfl) rfl ?_
          apply ow_orP (p := 107) (m := 104) 3 hP rfl
          · intro hg25_10; have hg25_10p := hg25_10; (try simp only [Bool.and_eq_true, Bool.or_eq_true, Bool.and_eq_false_iff, Bool.or_eq_false_iff, Bool.not_eq_true', Bool.not_eq_false', decide_eq_true_eq, decide_eq_false_iff_not, ne_eq, Decidable.not_not, not_true_eq_false, not_false_eq_true] at hg25_10p)
            refine ow_guard rfl rfl rfl (by rw [hg25_10]; rfl) ?_
            refine ow_step (r_move rfl) rfl ?_
            refine ow_guard rfl rfl rfl (by rw [hg25_10]; rfl) ?_
            refine ow_step (r_not rfl) rfl ?_
            refine ow_step (r_pickF rfl hg25_10 rfl) rfl ?_
            refine ow_nil (ew_logic rfl (by repeat (first | exact trivial | refine ⟨rfl, ?_⟩)) hP)
          · intro hg25_10
            refine ow_pass rfl rfl rfl (by rw [hg25_10]; rfl) rfl ?_
            refine ow_pass rfl rfl rfl (by rw [hg25_10]; rfl) rfl ?_
            refine ow_step (r_pickT rfl hg25_10 rfl) rfl ?_
            refine ow_nil (ew_logic rfl (by repeat (first | exact trivial | refine ⟨rfl, ?_⟩)) hP)
          intro W hP
          refine ow_step (r_move rfl) rfl ?_
          apply ow_orP (p := 111) (m := 108) 3 hP rfl
          · intro hg25_14; have hg25_14p := hg25_14; (try simp only [Bool.and_eq_true, Bool.or_eq_true, Bool.and_eq_false_iff, Bool.or_eq_false_iff, Bool.not_eq_true', Bool.not_eq_false', decide_eq_true_eq, decide_eq_false_iff_not, ne_eq, Decidable.not_not, not_true_eq_false, not_false_eq_true] at hg25_14p)
            refine ow_guard rfl rfl rfl (by rw [hg25_14]; rfl) ?_
            refine ow_step (r_move rfl) rfl ?_
            refine ow_guard rfl rfl rfl (by rw [hg25_14]; rfl) ?_
            refine ow_step (r_seq rfl rfl) rfl ?_
            refine ow_step (r_pickF rfl hg25_14 rfl) rfl ?_
            refine ow_nil (ew_logic rfl (by repeat (first | exact trivial | refine ⟨rfl, ?_⟩)) hP)
          · intro hg25_14
            refine ow_pass rfl rfl rfl (by rw [hg25_14]; rfl) rfl ?_
            refine ow_pass rfl rfl rfl (by rw [hg25_14]; rfl) rfl ?_
            refine ow_step (r_pickT rfl hg25_14 rfl) rfl ?_
            refine ow_nil (ew_logic rfl (by repeat (first | exact trivial | refine ⟨rfl, ?_⟩)) hP)
          intro W hP
          refine ow_step (r_move rfl) rfl ?_
          apply ow_orP (p := 120) (m := 112) 8 hP rfl
          · intro hg25_18; have hg25_18p := hg25_18; (try simp only [Bool.and_eq_true, Bool.or_eq_true, Bool.and_eq_false_iff, Bool.or_eq_false_iff, Bool.not_eq_true', Bool.not_eq_false', decide_eq_true_eq, decide_eq_false_iff_not, ne_eq, Decidable.not_not, not_true_eq_false, not_false_eq_true] at hg25_18p)
            refine ow_guard rfl rfl rfl (by rw [hg25_18]; rfl) ?_
            refine ow_step (r_fieldAddr rfl fl26_4) rfl ?_
            refine ow_guard rfl rfl rfl (by rw [hg25_18]; rfl) ?_
            refine ow_step (r_load rfl rfl (hP.cell (i := 1) rfl rfl)) rfl ?_
            refine ow_guard rfl rfl rfl (by rw [hg25_18]; rfl) ?_
            refine ow_step (r_ne rfl rfl) rfl ?_
            refine ow_guard rfl rfl rfl (by rw [hg25_18]; rfl) ?_
            refine ow_step (r_move rfl) rfl ?_
            apply ow_andP (p := 119) (m := 116) 3 hP rfl
            · intro hg25_22; have hg25_22p := hg25_22; (try simp only [Bool.and_eq_true, Bool.or_eq_true, Bool.and_eq_false_iff, Bool.or_eq_false_iff, Bool.not_eq_true', Bool.not_eq_false', decide_eq_true_eq, decide_eq_false_iff_not, ne_eq, Decidable.not_not, not_true_eq_false, not_false_eq_true] at hg25_22p)
              refine ow_guard rfl rfl rfl (by rw [hg25_22]; rfl) ?_
              refine ow_step (r_load rfl rfl (hP.cell (i := 0) rfl rfl)) rfl ?_
              refine ow_guard rfl rfl rfl (by rw [hg25_22]; rfl) ?_
              refine ow_step (r_gt rfl rfl) rfl ?_
              refine ow_guard rfl rfl rfl (by rw [hg25_18]; rfl) ?_
              refine ow_step (r_pickT rfl hg25_22 rfl) rfl ?_
              refine ow_nil (ew_logic rfl (by repeat (first | exact trivial | refine ⟨rfl, ?_⟩)) hP)
            · intro hg25_22
              refine ow_pass rfl rfl rfl (by rw [hg25_22]; rfl) rfl ?_
              refine ow_pass rfl rfl rfl (by rw [hg25_22]; rfl) rfl ?_
              refine ow_guard rfl rfl rfl (by rw [hg25_18]; rfl) ?_
              refine ow_step (r_pickF rfl hg25_22 rfl) rfl ?_
              refine ow_nil (ew_logic rfl (by repeat (first | exact trivial | refine ⟨rfl, ?_⟩)) hP)
            intro W hP
            refine ow_step (r_pickF rfl hg25_18 rfl) rfl ?_
            refine ow_nil (ew_logic rfl (by repeat (first | exact trivial | refine ⟨rfl, ?_⟩)) hP)
          · intro hg25_18
            refine ow_pass rfl rfl rfl (by rw [hg25_18]; rfl) rfl ?_
            refine ow_pass rfl rfl rfl (by rw [hg25_18]; rfl) rfl ?_
            refine ow_pass rfl rfl rfl (by rw [hg25_18]; rfl) rfl ?_
            refine ow_pass rfl rfl rfl (by rw [hg25_18]; rfl) rfl ?_
            refine ow_passU rfl rfl rfl rfl ?_
            refine ow_passU rfl rfl rfl rfl ?_
            refine ow_pass rfl rfl rfl (by rw [hg25_18]; rfl) rfl ?_
            refine ow_step (r_pickT rfl hg25_18 rfl) rfl ?_
            refine ow_nil (ew_logic rfl (by repeat (first | exact trivial | refine ⟨rfl, ?_⟩)) hP)
          intro W hP
          refine ow_nil ?_
          refine ew_next ?_
          refine cw_cond rfl (fun hb8 => ?_) (fun hb8 => ?_)
          · -- cond 8 yes
            have hc8 := hb8; (try simp only [Bool.and_eq_true, Bool.or_eq_true, Bool.and_eq_false_iff, Bool.or_eq_false_iff, Bool.not_eq_true', Bool.not_eq_false', decide_eq_true_eq, decide_eq_false_iff_not, ne_eq, Decidable.not_not, not_true_eq_false, not_false_eq_true] at hc8)
            refine cw_seq ?_
            -- region 26 tape.go:229
            refine cw_region ?_
            refine ow_step (r_build (v := .agg z10.toArray) rfl (fun w => by kernel_rfl)) rfl ?_
            refine ow_stores hP 2 rfl (ws := z10) rfl rfl z10_one rfl size26 ?_
            clear hP; intro W hg hP; clear hg; dsimp only [List.set] at hP
            refine ow_step (r_assign rfl) rfl ?_
            refine ow_step (r_assign rfl) rfl ?_
            refine ow_nil ?_
            refine ew_next ?_
            refine cw_ret ?_
            refine ew_then_ret ?_
            have hk0 : hdrOk L = false := by
              (have h0 : bigB L k = true := hb8); unfold hdrOk; rw [hkd, h0]; simp
            refine ew_rets (rs := [(Go.ResultVar.cell 2 26), (Go.ResultVar.tmp 3), (Go.ResultVar.tmp 4)]) rfl (by simp) (.cell b2 26 _ (0, 0) _ rfl (hP.blk (i := 2) rfl) Tryd.underlying26 rfl size26 (.tmp rfl (.tmp rfl .nil))) ?_
            exact ⟨z26, 0, by rw [hk0]; rfl, fun h => absurd (hk0.symm.trans h) (by decide), hP.old⟩
          · -- cond 8 no
            have hc8 := hb8; (try simp only [Bool.and_eq_true, Bool.or_eq_true, Bool.and_eq_false_iff, Bool.or_eq_false_iff, Bool.not_eq_true', Bool.not_eq_false', decide_eq_true_eq, decide_eq_false_iff_not, ne_eq, Decidable.not_not, not_true_eq_false, not_false_eq_true] at hc8)
            have hbig : bigB L k = false := hb8
            have z0 := txS_size hL 0 100 (by decide); have z1 := txS_size hL 345 155 (by decide); have z2 := txS_size hL 265 32 (by decide); have z3 := txS_size hL 297 32 (by decide); have z4 := txS_size hL 157 100 (by decide)
            have h47 : (⟨#[47]⟩ : ByteArray).size = 1 := rfl
            have h00 : (⟨#[]⟩ : ByteArray).size = 0 := rfl
            refine cw_skip ?_
            refine ew_next ?_
            refine cw_seq ?_
            -- region 27 tape.go:231
            refine cw_region ?_
            refine ow_step (r_move rfl) rfl ?_
            refine ow_step (r_move rfl) rfl ?_
            refine ow_step (r_move rfl) rfl ?_
            refine ow_step (r_fieldAddr rfl fl26_0) rfl ?_
            refine ow_store hP 1 rfl (by simp) rfl rfl rfl rfl size9 ?_
            clear hP; intro W hg hP; clear hg; dsimp only [List.set] at hP
            refine ow_step (r_fieldAddr rfl fl26_2) rfl ?_
            refine ow_store hP 1 rfl (by simp) rfl rfl rfl rfl size9 ?_
            clear hP; intro W hg hP; clear hg; dsimp only [List.set] at hP
            refine ow_step (r_fieldAddr rfl fl26_3) rfl ?_
            refine ow_store hP 1 rfl (by simp) rfl rfl rfl rfl size9 ?_
            clear hP; intro W hg hP; clear hg; dsimp only [List.set] at hP
            refine ow_nil ?_
            refine ew_next ?_
            refine cw_seq ?_
            refine cw_seq ?_
            -- region 28 tape.go:232
            refine cw_region ?_
            refine ow_step (r_move rfl) rfl ?_
            refine ow_step (r_sne rfl rfl) rfl ?_
            refine ow_nil ?_
            refine ew_next ?_
            refine cw_cond rfl (fun hb9 => ?_) (fun hb9 => ?_)
            · -- cond 9 yes
              have hc9 := hb9; (try simp only [Bool.and_eq_true, Bool.or_eq_true, Bool.and_eq_false_iff, Bool.or_eq_false_iff, Bool.not_eq_true', Bool.not_eq_false', decide_eq_true_eq, decide_eq_false_iff_not, ne_eq, Decidable.not_not, not_true_eq_false, not_false_eq_true] at hc9)
              have hE : isE (txS L 345 155) = false := not_t hb9
              -- region 29 tape.go:233
              refine cw_region ?_
              refine ow_step (r_move rfl) rfl ?_
              refine ow_step (r_sadd rfl rfl (by (try simp only [ByteArray.size_append]); omega)) rfl ?_
              refine ow_step (r_move rfl) rfl ?_
              refine ow_step (r_sadd rfl rfl (by (try simp only [ByteArray.size_append]); omega)) rfl ?_
              refine ow_step (r_fieldAddr rfl fl26_0) rfl ?_
              refine ow_store hP 1 rfl (by simp) rfl rfl rfl rfl size9 ?_
              clear hP; intro W hg hP; clear hg; dsimp only [List.set] at hP
              refine ow_nil ?_
              refine ew_next ?_
              refine cw_seq ?_
              refine cw_seq ?_
              -- region 30 tape.go:235
              refine cw_region ?_
              refine ow_step (r_fieldAddr rfl fl26_4) rfl ?_
              refine ow_step (r_load rfl rfl (hP.cell (i := 1) rfl rfl)) rfl ?_
              refine ow_step (r_eq rfl rfl) rfl ?_
              refine ow_nil ?_
              refine ew_next ?_
              refine cw_cond rfl (fun hb10 => ?_) (fun hb10 => ?_)
              · -- cond 10 yes
                have hc10 := hb10; (try simp only [Bool.and_eq_true, Bool.or_eq_true, Bool.and_eq_false_iff, Bool.or_eq_false_iff, Bool.not_eq_true', Bool.not_eq_false', decide_eq_true_eq, decide_eq_false_iff_not, ne_eq, Decidable.not_not, not_true_eq_false, not_false_eq_true] at hc10)
                refine cw_seq ?_
                -- region 31 tape.go:236
                refine cw_region ?_
                refine ow_step (r_move rfl) rfl ?_
                refine ow_step (r_loads rfl (c := [.int .i64 157, .int .i64 100]) Tryd.underlying60 rfl size60 (gl2 (hl.below hP.old).c0 (hl.below hP.old).c1)) rfl ?_
                refine ow_call en31 rfl (part_of g L hL 157 100 _ _ (by decide) (by decide) _ (by decide) (by decide)) rfl ?_
                rintro e W ⟨rfl, hg⟩; replace hP := hP.grown hg; clear hg; refine ⟨_, rfl, ?_⟩
                refine ow_call en44 rfl (word_of g L hL _ (Bytes.below' hB hP.old) 157 100 true (by decide)) rfl ?_
                rintro e W ⟨rfl, hb⟩; replace hP := hP.below hb; clear hb; refine ⟨_, rfl, ?_⟩
                refine ow_step (r_move rfl) rfl ?_
                refine ow_step (r_extract rfl rfl) rfl ?_
                refine ow_step (r_extract rfl rfl) rfl ?_
                refine ow_step (r_assign rfl) rfl ?_
                refine ow_step (r_assign rfl) rfl ?_
                refine ow_nil ?_
                refine ew_next ?_
                refine cw_seq ?_
                refine cw_seq ?_
                -- region 32 tape.go:237
                refine cw_region ?_
                refine ow_step (r_move rfl) rfl ?_
                refine ow_step (r_not rfl) rfl ?_
                refine ow_nil ?_
                refine ew_next ?_
                refine cw_cond rfl (fun hb11 => ?_) (fun hb11 => ?_)
                · -- cond 11 yes
                  have hc11 := hb11; (try simp only [Bool.and_eq_true, Bool.or_eq_true, Bool.and_eq_false_iff, Bool.or_eq_false_iff, Bool.not_eq_true', Bool.not_eq_false', decide_eq_true_eq, decide_eq_false_iff_not, ne_eq, Decidable.not_not, not_true_eq_false, not_false_eq_true] at hc11)
                  refine cw_seq ?_
                  -- region 33 tape.go:238
                  refine cw_region ?_
                  refine ow_step (r_build (v := .agg z10.toArray) rfl (fun w => by kernel_rfl)) rfl ?_
                  refine ow_stores hP 2 rfl (ws := z10) rfl rfl z10_one rfl size26 ?_
                  clear hP; intro W hg hP; clear hg; dsimp only [List.set] at hP
                  refine ow_step (r_assign rfl) rfl ?_
                  refine ow_step (r_assign rfl) rfl ?_
                  refine ow_nil ?_
                  refine ew_next ?_
                  refine cw_ret ?_
                  refine ew_then_ret ?_
                  refine ew_then_ret ?_
                  have hk0 : hdrOk L = false := by
                    (have h2 : kd L = 2 := hkd.trans hc10); (have h0 : txO L 157 100 true = false := by simpa using hb11); unfold hdrOk; rw [h2, h0]; simp
                  refine ew_rets (rs := [(Go.ResultVar.cell 2 26), (Go.ResultVar.tmp 3), (Go.ResultVar.tmp 4)]) rfl (by simp) (.cell b2 26 _ (0, 0) _ rfl (hP.blk (i := 2) rfl) Tryd.underlying26 rfl size26 (.tmp rfl (.tmp rfl .nil))) ?_
                  exact ⟨z26, 0, by rw [hk0]; rfl, fun h => absurd (hk0.symm.trans h) (by decide), hP.old⟩
                · -- cond 11 no
                  have hc11 := hb11; (try simp only [Bool.and_eq_true, Bool.or_eq_true, Bool.and_eq_false_iff, Bool.or_eq_false_iff, Bool.not_eq_true', Bool.not_eq_false', decide_eq_true_eq, decide_eq_false_iff_not, ne_eq, Decidable.not_not, not_true_eq_false, not_false_eq_true] at hc11)
                  refine cw_skip ?_
                  refine ew_next ?_
                  -- region 34 tape.go:240
                  refine cw_region ?_
                  refine ow_step (r_move rfl) rfl ?_
                  refine ow_step (r_fieldAddr rfl fl26_1) rfl ?_
                  refine ow_store hP 1 rfl (by simp) rfl rfl rfl rfl size9 ?_
                  clear hP; intro W hg hP; clear hg; dsimp only [List.set] at hP
                  refine ow_nil ?_
                  refine ew_next ?_
                  refine cw_seq ?_
                  -- region 35 DRAWS tape.go:242
                  have hz0 : (((txS L 345 155 ++ ⟨#[47]⟩) ++ txS L 0 100) : ByteArray).size ≤ 256 := by (try simp only [ByteArray.size_append]); omega
                  have hX : hdrF L = ⟨((txS L 345 155 ++ ⟨#[47]⟩) ++ txS L 0 100), (txS L 157 100), txS L 265 32, txS L 297 32, k, (nf L 0).1, (nf L 1).1, (nf L 2).1, (nf L 4).1, []⟩ := by unfold hdrF nameF; rw [hkd, hE]; simp [hc10]
                  obtain ⟨F, hF⟩ : ∃ F : ByteArray, F = ((txS L 345 155 ++ ⟨#[47]⟩) ++ txS L 0 100) := ⟨_, rfl⟩
                  rw [← hF] at hX hz0 hP ⊢
                  have he1 : (F : ByteArray).size ≤ 1048576 := by omega
                  have he2 : (F : ByteArray).size + ((txS L 157 100) : ByteArray).size + (txS L 265 32).size + (txS L 297 32).size ≤ 1048576 := by (try rw [h00]); omega
                  have hlk : (!decide (k = 2) || txO L 157 100 true) = true := by (have : txO L 157 100 true = true := by simpa using hb11); simp [this]
                  have hok := hdr_of hm hk hv hbig hlk
                  rw [hX] at hok
                  refine cw_held (fun w' => ∃ zs, HP w w' [(b6, [.int .i64 (nf L 3).1], 3), (b5, [.string F, .string (txS L 157 100), .string (txS L 265 32), .string (txS L 297 32), .int .i64 k, .int .i64 (nf L 0).1, .int .i64 (nf L 1).1, .int .i64 (nf L 2).1, .int .i64 (nf L 4).1, nilS], 26), (b2, zs, 26)]) (by kernel_rfl) ?_
                  replace hP := hP.drew
                  refine hw_take 0 rfl rfl rfl (by kernel_rfl) (by kernel_rfl) (by kernel_rfl) (by repeat (first | with_reducible exact mild_body | with_reducible refine mild_then ?_ | with_reducible refine mild_block ?_)) ⟨_, hP⟩ (fun w' ⟨_, hw⟩ => r_loads (c := [.string F, .string (txS L 157 100), .string (txS L 265 32), .string (txS L 297 32), .int .i64 k, .int .i64 (nf L 0).1, .int .i64 (nf L 1).1, .int .i64 (nf L 2).1, .int .i64 (nf L 4).1, nilS]) rfl Tryd.underlying26 rfl size26 (hw.cells (i := 1) (o := 0) rfl (fun j u hj => by rw [Nat.zero_add]; exact hj))) rfl ?_
                  refine hw_take 1 rfl rfl rfl (by kernel_rfl) (by kernel_rfl) (by kernel_rfl) (by repeat (first | with_reducible exact mild_body | with_reducible refine mild_then ?_ | with_reducible refine mild_block ?_)) ⟨_, hP⟩ (fun w' ⟨_, hw⟩ => r_load rfl rfl (hw.cell (i := 0) rfl rfl)) rfl ?_
                  refine hw_take 2 rfl rfl rfl (by kernel_rfl) (by kernel_rfl) (by kernel_rfl) (by repeat (first | with_reducible exact mild_body | with_reducible refine mild_then ?_ | with_reducible refine mild_block ?_)) ⟨_, hP⟩ (fun w' ⟨_, hw⟩ => r_loads (c := [.string F, .string (txS L 157 100), .string (txS L 265 32), .string (txS L 297 32), .int .i64 k, .int .i64 (nf L 0).1, .int .i64 (nf L 1).1, .int .i64 (nf L 2).1, .int .i64 (nf L 4).1, nilS]) rfl Tryd.underlying26 rfl size26 (hw.cells (i := 1) (o := 0) rfl (fun j u hj => by rw [Nat.zero_add]; exact hj))) rfl ?_
                  refine hw_one 3 (by kernel_rfl) (nw_of rfl ?_ lets_then)
                  refine ow_call en21 rfl (sound_calls ((F : ByteArray).size + 2) F (txS L 157 100) (txS L 265 32) (txS L 297 32) k (nf L 0).1 (nf L 1).1 (nf L 2).1 (nf L 4).1 none 0 0 _ _ _ _ _ (cuts F he1).1 (suffix_eq F he1) he2 (Nat.zero_le _)) rfl ?_
                  rintro e W ⟨rfl, hb⟩; replace hP := hP.below hb; clear hb; refine ⟨_, rfl, ?_⟩
                  refine ow_nil (ew_held ⟨_, hP⟩ ?_)
                  refine hw_one 4 (by kernel_rfl) (nw_of rfl ?_ lets_then)
                  refine ow_stores hP 2 rfl (ws := [.string F, .string (txS L 157 100), .string (txS L 265 32), .string (txS L 297 32), .int .i64 k, .int .i64 (nf L 0).1, .int .i64 (nf L 1).1, .int .i64 (nf L 2).1, .int .i64 (nf L 4).1, nilS]) rfl rfl (by simp [Value.oneCell']) rfl size26 ?_
                  clear hP; intro W hg hP; clear hg; dsimp only [List.set] at hP
                  refine ow_nil (ew_held ⟨_, hP⟩ ?_)
                  refine hw_take 5 rfl rfl rfl (by kernel_rfl) (by kernel_rfl) (by kernel_rfl) (by repeat (first | with_reducible exact mild_body | with_reducible refine mild_then ?_ | with_reducible refine mild_block ?_)) ⟨_, hP⟩ (fun w' _ => r_assign rfl) rfl ?_
                  refine hw_take 6 rfl rfl rfl (by kernel_rfl) (by kernel_rfl) (by kernel_rfl) (by repeat (first | with_reducible exact mild_body | with_reducible refine mild_then ?_ | with_reducible refine mild_block ?_)) ⟨_, hP⟩ (fun w' _ => r_assign rfl) rfl ?_
                  refine hw_done (by kernel_rfl) ?_
                  refine ew_next ?_
                  refine cw_ret ?_
                  refine ew_rets (rs := [(Go.ResultVar.cell 2 26), (Go.ResultVar.tmp 3), (Go.ResultVar.tmp 4)]) rfl (by simp) (.cell b2 26 _ (0, 0) _ rfl (hP.blk (i := 2) rfl) Tryd.underlying26 rfl size26 (.tmp rfl (.tmp rfl .nil))) ?_
                  exact ⟨⟨F, (txS L 157 100), txS L 265 32, txS L 297 32, k, (nf L 0).1, (nf L 1).1, (nf L 2).1, (nf L 4).1, []⟩, (nf L 3).1, by rw [hok]; rfl, fun _ => ⟨hX.symm, rfl⟩, hP.old⟩
              · -- cond 10 no
                have hc10 := hb10; (try simp only [Bool.and_eq_true, Bool.or_eq_true, Bool.and_eq_false_iff, Bool.or_eq_false_iff, Bool.not_eq_true', Bool.not_eq_false', decide_eq_true_eq, decide_eq_false_iff_not, ne_eq, Decidable.not_not, not_true_eq_false, not_false_eq_true] at hc10)
                refine cw_skip ?_
                refine ew_next ?_
                refine cw_seq ?_
                -- region 35 DRAWS tape.go:242
                have hz0 : (((txS L 345 155 ++ ⟨#[47]⟩) ++ txS L 0 100) : ByteArray).size ≤ 256 := by (try simp only [ByteArray.size_append]); omega
                have hX : hdrF L = ⟨((txS L 345 155 ++ ⟨#[47]⟩) ++ txS L 0 100), ⟨#[]⟩, txS L 265 32, txS L 297 32, k, (nf L 0).1, (nf L 1).1, (nf L 2).1, (nf L 4).1, []⟩ := by unfold hdrF nameF; rw [hkd, hE]; simp [hc10]
                obtain ⟨F, hF⟩ : ∃ F : ByteArray, F = ((txS L 345 155 ++ ⟨#[47]⟩) ++ txS L 0 100) := ⟨_, rfl⟩
                rw [← hF] at hX hz0 hP ⊢
                have he1 : (F : ByteArray).size ≤ 1048576 := by omega
                have he2 : (F : ByteArray).size + (⟨#[]⟩ : ByteArray).size + (txS L 265 32).size + (txS L 297 32).size ≤ 1048576 := by (try rw [h00]); omega
                have hlk : (!decide (k = 2) || txO L 157 100 true) = true := by simp [hc10]
                have hok := hdr_of hm hk hv hbig hlk
                rw [hX] at hok
                refine cw_held (fun w' => ∃ zs, HP w w' [(b6, [.int .i64 (nf L 3).1], 3), (b5, [.string F, .string ⟨#[]⟩, .string (txS L 265 32), .string (txS L 297 32), .int .i64 k, .int .i64 (nf L 0).1, .int .i64 (nf L 1).1, .int .i64 (nf L 2).1, .int .i64 (nf L 4).1, nilS], 26), (b2, zs, 26)]) (by kernel_rfl) ?_
                replace hP := hP.drew
                refine hw_take 0 rfl rfl rfl (by kernel_rfl) (by kernel_rfl) (by kernel_rfl) (by repeat (first | with_reducible exact mild_body | with_reducible refine mild_then ?_ | with_reducible refine mild_block ?_)) ⟨_, hP⟩ (fun w' ⟨_, hw⟩ => r_loads (c := [.string F, .string ⟨#[]⟩, .string (txS L 265 32), .string (txS L 297 32), .int .i64 k, .int .i64 (nf L 0).1, .int .i64 (nf L 1).1, .int .i64 (nf L 2).1, .int .i64 (nf L 4).1, nilS]) rfl Tryd.underlying26 rfl size26 (hw.cells (i := 1) (o := 0) rfl (fun j u hj => by rw [Nat.zero_add]; exact hj))) rfl ?_
                refine hw_take 1 rfl rfl rfl (by kernel_rfl) (by kernel_rfl) (by kernel_rfl) (by repeat (first | with_reducible exact mild_body | with_reducible refine mild_then ?_ | with_reducible refine mild_block ?_)) ⟨_, hP⟩ (fun w' ⟨_, hw⟩ => r_load rfl rfl (hw.cell (i := 0) rfl rfl)) rfl ?_
                refine hw_take 2 rfl rfl rfl (by kernel_rfl) (by kernel_rfl) (by kernel_rfl) (by repeat (first | with_reducible exact mild_body | with_reducible refine mild_then ?_ | with_reducible refine mild_block ?_)) ⟨_, hP⟩ (fun w' ⟨_, hw⟩ => r_loads (c := [.string F, .string ⟨#[]⟩, .string (txS L 265 32), .string (txS L 297 32), .int .i64 k, .int .i64 (nf L 0).1, .int .i64 (nf L 1).1, .int .i64 (nf L 2).1, .int .i64 (nf L 4).1, nilS]) rfl Tryd.underlying26 rfl size26 (hw.cells (i := 1) (o := 0) rfl (fun j u hj => by rw [Nat.zero_add]; exact hj))) rfl ?_
                refine hw_one 3 (by kernel_rfl) (nw_of rfl ?_ lets_then)
                refine ow_call en21 rfl (sound_calls ((F : ByteArray).size + 2) F ⟨#[]⟩ (txS L 265 32) (txS L 297 32) k (nf L 0).1 (nf L 1).1 (nf L 2).1 (nf L 4).1 none 0 0 _ _ _ _ _ (cuts F he1).1 (suffix_eq F he1) he2 (Nat.zero_le _)) rfl ?_
                rintro e W ⟨rfl, hb⟩; replace hP := hP.below hb; clear hb; refine ⟨_, rfl, ?_⟩
                refine ow_nil (ew_held ⟨_, hP⟩ ?_)
                refine hw_one 4 (by kernel_rfl) (nw_of rfl ?_ lets_then)
                refine ow_stores hP 2 rfl (ws := [.string F, .string ⟨#[]⟩, .string (txS L 265 32), .string (txS L 297 32), .int .i64 k, .int .i64 (nf L 0).1, .int .i64 (nf L 1).1, .int .i64 (nf L 2).1, .int .i64 (nf L 4).1, nilS]) rfl rfl (by simp [Value.oneCell']) rfl size26 ?_
                clear hP; intro W hg hP; clear hg; dsimp only [List.set] at hP
                refine ow_nil (ew_held ⟨_, hP⟩ ?_)
                refine hw_take 5 rfl rfl rfl (by kernel_rfl) (by kernel_rfl) (by kernel_rfl) (by repeat (first | with_reducible exact mild_body | with_reducible refine mild_then ?_ | with_reducible refine mild_block ?_)) ⟨_, hP⟩ (fun w' _ => r_assign rfl) rfl ?_
                refine hw_take 6 rfl rfl rfl (by kernel_rfl) (by kernel_rfl) (by kernel_rfl) (by repeat (first | with_reducible exact mild_body | with_reducible refine mild_then ?_ | with_reducible refine mild_block ?_)) ⟨_, hP⟩ (fun w' _ => r_assign rfl) rfl ?_
                refine hw_done (by kernel_rfl) ?_
                refine ew_next ?_
                refine cw_ret ?_
                refine ew_rets (rs := [(Go.ResultVar.cell 2 26), (Go.ResultVar.tmp 3), (Go.ResultVar.tmp 4)]) rfl (by simp) (.cell b2 26 _ (0, 0) _ rfl (hP.blk (i := 2) rfl) Tryd.underlying26 rfl size26 (.tmp rfl (.tmp rfl .nil))) ?_
                exact ⟨⟨F, ⟨#[]⟩, txS L 265 32, txS L 297 32, k, (nf L 0).1, (nf L 1).1, (nf L 2).1, (nf L 4).1, []⟩, (nf L 3).1, by rw [hok]; rfl, fun _ => ⟨hX.symm, rfl⟩, hP.old⟩
            · -- cond 9 no
              have hc9 := hb9; (try simp only [Bool.and_eq_true, Bool.or_eq_true, Bool.and_eq_false_iff, Bool.or_eq_false_iff, Bool.not_eq_true', Bool.not_eq_false', decide_eq_true_eq, decide_eq_false_iff_not, ne_eq, Decidable.not_not, not_true_eq_false, not_false_eq_true] at hc9)
              have hE : isE (txS L 345 155) = true := not_f hb9
              refine cw_skip ?_
              refine ew_next ?_
              refine cw_seq ?_
              refine cw_seq ?_
              -- region 30 tape.go:235
              refine cw_region ?_
              refine ow_step (r_fieldAddr rfl fl26_4) rfl ?_
              refine ow_step (r_load rfl rfl (hP.cell (i := 1) rfl rfl)) rfl ?_
              refine ow_step (r_eq rfl rfl) rfl ?_
              refine ow_nil ?_
              refine ew_next ?_
              refine cw_cond rfl (fun hb12 => ?_) (fun hb12 => ?_)
              · -- cond 12 yes
                have hc12 := hb12; (try simp only [Bool.and_eq_true, Bool.or_eq_true, Bool.and_eq_false_iff, Bool.or_eq_false_iff, Bool.not_eq_true', Bool.not_eq_false', decide_eq_true_eq, decide_eq_false_iff_not, ne_eq, Decidable.not_not, not_true_eq_false, not_false_eq_true] at hc12)
                refine cw_seq ?_
                -- region 31 tape.go:236
                refine cw_region ?_
                refine ow_step (r_move rfl) rfl ?_
                refine ow_step (r_loads rfl (c := [.int .i64 157, .int .i64 100]) Tryd.underlying60 rfl size60 (gl2 (hl.below hP.old).c0 (hl.below hP.old).c1)) rfl ?_
                refine ow_call en31 rfl (part_of g L hL 157 100 _ _ (by decide) (by decide) _ (by decide) (by decide)) rfl ?_
                rintro e W ⟨rfl, hg⟩; replace hP := hP.grown hg; clear hg; refine ⟨_, rfl, ?_⟩
                refine ow_call en44 rfl (word_of g L hL _ (Bytes.below' hB hP.old) 157 100 true (by decide)) rfl ?_
                rintro e W ⟨rfl, hb⟩; replace hP := hP.below hb; clear hb; refine ⟨_, rfl, ?_⟩
                refine ow_step (r_move rfl) rfl ?_
                refine ow_step (r_extract rfl rfl) rfl ?_
                refine ow_step (r_extract rfl rfl) rfl ?_
                refine ow_step (r_assign rfl) rfl ?_
                refine ow_step (r_assign rfl) rfl ?_
                refine ow_nil ?_
                refine ew_next ?_
                refine cw_seq ?_
                refine cw_seq ?_
                -- region 32 tape.go:237
                refine cw_region ?_
                refine ow_step (r_move rfl) rfl ?_
                refine ow_step (r_not rfl) rfl ?_
                refine ow_nil ?_
                refine ew_next ?_
                refine cw_cond rfl (fun hb13 => ?_) (fun hb13 => ?_)
                · -- cond 13 yes
                  have hc13 := hb13; (try simp only [Bool.and_eq_true, Bool.or_eq_true, Bool.and_eq_false_iff, Bool.or_eq_false_iff, Bool.not_eq_true', Bool.not_eq_false', decide_eq_true_eq, decide_eq_false_iff_not, ne_eq, Decidable.not_not, not_true_eq_false, not_false_eq_true] at hc13)
                  refine cw_seq ?_
                  -- region 33 tape.go:238
                  refine cw_region ?_
                  refine ow_step (r_build (v := .agg z10.toArray) rfl (fun w => by kernel_rfl)) rfl ?_
                  refine ow_stores hP 2 rfl (ws := z10) rfl rfl z10_one rfl size26 ?_
                  clear hP; intro W hg hP; clear hg; dsimp only [List.set] at hP
                  refine ow_step (r_assign rfl) rfl ?_
                  refine ow_step (r_assign rfl) rfl ?_
                  refine ow_nil ?_
                  refine ew_next ?_
                  refine cw_ret ?_
                  refine ew_then_ret ?_
                  refine ew_then_ret ?_
                  have hk0 : hdrOk L = false := by
                    (have h2 : kd L = 2 := hkd.trans hc12); (have h0 : txO L 157 100 true = false := by simpa using hb13); unfold hdrOk; rw [h2, h0]; simp
                  refine ew_rets (rs := [(Go.ResultVar.cell 2 26), (Go.ResultVar.tmp 3), (Go.ResultVar.tmp 4)]) rfl (by simp) (.cell b2 26 _ (0, 0) _ rfl (hP.blk (i := 2) rfl) Tryd.underlying26 rfl size26 (.tmp rfl (.tmp rfl .nil))) ?_
                  exact ⟨z26, 0, by rw [hk0]; rfl, fun h => absurd (hk0.symm.trans h) (by decide), hP.old⟩
                · -- cond 13 no
                  have hc13 := hb13; (try simp only [Bool.and_eq_true, Bool.or_eq_true, Bool.and_eq_false_iff, Bool.or_eq_false_iff, Bool.not_eq_true', Bool.not_eq_false', decide_eq_true_eq, decide_eq_false_iff_not, ne_eq, Decidable.not_not, not_true_eq_false, not_false_eq_true] at hc13)
                  refine cw_skip ?_
                  refine ew_next ?_
                  -- region 34 tape.go:240
                  refine cw_region ?_
                  refine ow_step (r_move rfl) rfl ?_
                  refine ow_step (r_fieldAddr rfl fl26_1) rfl ?_
                  refine ow_store hP 1 rfl (by simp) rfl rfl rfl rfl size9 ?_
                  clear hP; intro W hg hP; clear hg; dsimp only [List.set] at hP
                  refine ow_nil ?_
                  refine ew_next ?_
                  refine cw_seq ?_
                  -- region 35 DRAWS tape.go:242
                  have hz0 : ((txS L 0 100) : ByteArray).size ≤ 256 := by (try simp only [ByteArray.size_append]); omega
                  have hX : hdrF L = ⟨(txS L 0 100), (txS L 157 100), txS L 265 32, txS L 297 32, k, (nf L 0).1, (nf L 1).1, (nf L 2).1, (nf L 4).1, []⟩ := by unfold hdrF nameF; rw [hkd, hE]; simp [hc12]
                  obtain ⟨F, hF⟩ : ∃ F : ByteArray, F = (txS L 0 100) := ⟨_, rfl⟩
                  rw [← hF] at hX hz0 hP ⊢
                  have he1 : (F : ByteArray).size ≤ 1048576 := by omega
                  have he2 : (F : ByteArray).size + ((txS L 157 100) : ByteArray).size + (txS L 265 32).size + (txS L 297 32).size ≤ 1048576 := by (try rw [h00]); omega
                  have hlk : (!decide (k = 2) || txO L 157 100 true) = true := by (have : txO L 157 100 true = true := by simpa using hb13); simp [this]
                  have hok := hdr_of hm hk hv hbig hlk
                  rw [hX] at hok
                  refine cw_held (fun w' => ∃ zs, HP w w' [(b6, [.int .i64 (nf L 3).1], 3), (b5, [.string F, .string (txS L 157 100), .string (txS L 265 32), .string (txS L 297 32), .int .i64 k, .int .i64 (nf L 0).1, .int .i64 (nf L 1).1, .int .i64 (nf L 2).1, .int .i64 (nf L 4).1, nilS], 26), (b2, zs, 26)]) (by kernel_rfl) ?_
                  replace hP := hP.drew
                  refine hw_take 0 rfl rfl rfl (by kernel_rfl) (by kernel_rfl) (by kernel_rfl) (by repeat (first | with_reducible exact mild_body | with_reducible refine mild_then ?_ | with_reducible refine mild_block ?_)) ⟨_, hP⟩ (fun w' ⟨_, hw⟩ => r_loads (c := [.string F, .string (txS L 157 100), .string (txS L 265 32), .string (txS L 297 32), .int .i64 k, .int .i64 (nf L 0).1, .int .i64 (nf L 1).1, .int .i64 (nf L 2).1, .int .i64 (nf L 4).1, nilS]) rfl Tryd.underlying26 rfl size26 (hw.cells (i := 1) (o := 0) rfl (fun j u hj => by rw [Nat.zero_add]; exact hj))) rfl ?_
                  refine hw_take 1 rfl rfl rfl (by kernel_rfl) (by kernel_rfl) (by kernel_rfl) (by repeat (first | with_reducible exact mild_body | with_reducible refine mild_then ?_ | with_reducible refine mild_block ?_)) ⟨_, hP⟩ (fun w' ⟨_, hw⟩ => r_load rfl rfl (hw.cell (i := 0) rfl rfl)) rfl ?_
                  refine hw_take 2 rfl rfl rfl (by kernel_rfl) (by kernel_rfl) (by kernel_rfl) (by repeat (first | with_reducible exact mild_body | with_reducible refine mild_then ?_ | with_reducible refine mild_block ?_)) ⟨_, hP⟩ (fun w' ⟨_, hw⟩ => r_loads (c := [.string F, .string (txS L 157 100), .string (txS L 265 32), .string (txS L 297 32), .int .i64 k, .int .i64 (nf L 0).1, .int .i64 (nf L 1).1, .int .i64 (nf L 2).1, .int .i64 (nf L 4).1, nilS]) rfl Tryd.underlying26 rfl size26 (hw.cells (i := 1) (o := 0) rfl (fun j u hj => by rw [Nat.zero_add]; exact hj))) rfl ?_
                  refine hw_one 3 (by kernel_rfl) (nw_of rfl ?_ lets_then)
                  refine ow_call en21 rfl (sound_calls ((F : ByteArray).size + 2) F (txS L 157 100) (txS L 265 32) (txS L 297 32) k (nf L 0).1 (nf L 1).1 (nf L 2).1 (nf L 4).1 none 0 0 _ _ _ _ _ (cuts F he1).1 (suffix_eq F he1) he2 (Nat.zero_le _)) rfl ?_
                  rintro e W ⟨rfl, hb⟩; replace hP := hP.below hb; clear hb; refine ⟨_, rfl, ?_⟩
                  refine ow_nil (ew_held ⟨_, hP⟩ ?_)
                  refine hw_one 4 (by kernel_rfl) (nw_of rfl ?_ lets_then)
                  refine ow_stores hP 2 rfl (ws := [.string F, .string (txS L 157 100), .string (txS L 265 32), .string (txS L 297 32), .int .i64 k, .int .i64 (nf L 0).1, .int .i64 (nf L 1).1, .int .i64 (nf L 2).1, .int .i64 (nf L 4).1, nilS]) rfl rfl (by simp [Value.oneCell']) rfl size26 ?_
                  clear hP; intro W hg hP; clear hg; dsimp only [List.set] at hP
                  refine ow_nil (ew_held ⟨_, hP⟩ ?_)
                  refine hw_take 5 rfl rfl rfl (by kernel_rfl) (by kernel_rfl) (by kernel_rfl) (by repeat (first | with_reducible exact mild_body | with_reducible refine mild_then ?_ | with_reducible refine mild_block ?_)) ⟨_, hP⟩ (fun w' _ => r_assign rfl) rfl ?_
                  refine hw_take 6 rfl rfl rfl (by kernel_rfl) (by kernel_rfl) (by kernel_rfl) (by repeat (first | with_reducible exact mild_body | with_reducible refine mild_then ?_ | with_reducible refine mild_block ?_)) ⟨_, hP⟩ (fun w' _ => r_assign rfl) rfl ?_
                  refine hw_done (by kernel_rfl) ?_
                  refine ew_next ?_
                  refine cw_ret ?_
                  refine ew_rets (rs := [(Go.ResultVar.cell 2 26), (Go.ResultVar.tmp 3), (Go.ResultVar.tmp 4)]) rfl (by simp) (.cell b2 26 _ (0, 0) _ rfl (hP.blk (i := 2) rfl) Tryd.underlying26 rfl size26 (.tmp rfl (.tmp rfl .nil))) ?_
                  exact ⟨⟨F, (txS L 157 100), txS L 265 32, txS L 297 32, k, (nf L 0).1, (nf L 1).1, (nf L 2).1, (nf L 4).1, []⟩, (nf L 3).1, by rw [hok]; rfl, fun _ => ⟨hX.symm, rfl⟩, hP.old⟩
              · -- cond 12 no
                have hc12 := hb12; (try simp only [Bool.and_eq_true, Bool.or_eq_true, Bool.and_eq_false_iff, Bool.or_eq_false_iff, Bool.not_eq_true', Bool.not_eq_false', decide_eq_true_eq, decide_eq_false_iff_not, ne_eq, Decidable.not_not, not_true_eq_false, not_false_eq_true] at hc12)
                refine cw_skip ?_
                refine ew_next ?_
                refine cw_seq ?_
                -- region 35 DRAWS tape.go:242
                have hz0 : ((txS L 0 100) : ByteArray).size ≤ 256 := by (try simp only [ByteArray.size_append]); omega
                have hX : hdrF L = ⟨(txS L 0 100), ⟨#[]⟩, txS L 265 32, txS L 297 32, k, (nf L 0).1, (nf L 1).1, (nf L 2).1, (nf L 4).1, []⟩ := by unfold hdrF nameF; rw [hkd, hE]; simp [hc12]
                obtain ⟨F, hF⟩ : ∃ F : ByteArray, F = (txS L 0 100) := ⟨_, rfl⟩
                rw [← hF] at hX hz0 hP ⊢
                have he1 : (F : ByteArray).size ≤ 1048576 := by omega
                have he2 : (F : ByteArray).size + (⟨#[]⟩ : ByteArray).size + (txS L 265 32).size + (txS L 297 32).size ≤ 1048576 := by (try rw [h00]); omega
                have hlk : (!decide (k = 2) || txO L 157 100 true) = true := by simp [hc12]
                have hok := hdr_of hm hk hv hbig hlk
                rw [hX] at hok
                refine cw_held (fun w' => ∃ zs, HP w w' [(b6, [.int .i64 (nf L 3).1], 3), (b5, [.string F, .string ⟨#[]⟩, .string (txS L 265 32), .string (txS L 297 32), .int .i64 k, .int .i64 (nf L 0).1, .int .i64 (nf L 1).1, .int .i64 (nf L 2).1, .int .i64 (nf L 4).1, nilS], 26), (b2, zs, 26)]) (by kernel_rfl) ?_
                replace hP := hP.drew
                refine hw_take 0 rfl rfl rfl (by kernel_rfl) (by kernel_rfl) (by kernel_rfl) (by repeat (first | with_reducible exact mild_body | with_reducible refine mild_then ?_ | with_reducible refine mild_block ?_)) ⟨_, hP⟩ (fun w' ⟨_, hw⟩ => r_loads (c := [.string F, .string ⟨#[]⟩, .string (txS L 265 32), .string (txS L 297 32), .int .i64 k, .int .i64 (nf L 0).1, .int .i64 (nf L 1).1, .int .i64 (nf L 2).1, .int .i64 (nf L 4).1, nilS]) rfl Tryd.underlying26 rfl size26 (hw.cells (i := 1) (o := 0) rfl (fun j u hj => by rw [Nat.zero_add]; exact hj))) rfl ?_
                refine hw_take 1 rfl rfl rfl (by kernel_rfl) (by kernel_rfl) (by kernel_rfl) (by repeat (first | with_reducible exact mild_body | with_reducible refine mild_then ?_ | with_reducible refine mild_block ?_)) ⟨_, hP⟩ (fun w' ⟨_, hw⟩ => r_load rfl rfl (hw.cell (i := 0) rfl rfl)) rfl ?_
                refine hw_take 2 rfl rfl rfl (by kernel_rfl) (by kernel_rfl) (by kernel_rfl) (by repeat (first | with_reducible exact mild_body | with_reducible refine mild_then ?_ | with_reducible refine mild_block ?_)) ⟨_, hP⟩ (fun w' ⟨_, hw⟩ => r_loads (c := [.string F, .string ⟨#[]⟩, .string (txS L 265 32), .string (txS L 297 32), .int .i64 k, .int .i64 (nf L 0).1, .int .i64 (nf L 1).1, .int .i64 (nf L 2).1, .int .i64 (nf L 4).1, nilS]) rfl Tryd.underlying26 rfl size26 (hw.cells (i := 1) (o := 0) rfl (fun j u hj => by rw [Nat.zero_add]; exact hj))) rfl ?_
                refine hw_one 3 (by kernel_rfl) (nw_of rfl ?_ lets_then)
                refine ow_call en21 rfl (sound_calls ((F : ByteArray).size + 2) F ⟨#[]⟩ (txS L 265 32) (txS L 297 32) k (nf L 0).1 (nf L 1).1 (nf L 2).1 (nf L 4).1 none 0 0 _ _ _ _ _ (cuts F he1).1 (suffix_eq F he1) he2 (Nat.zero_le _)) rfl ?_
                rintro e W ⟨rfl, hb⟩; replace hP := hP.below hb; clear hb; refine ⟨_, rfl, ?_⟩
                refine ow_nil (ew_held ⟨_, hP⟩ ?_)
                refine hw_one 4 (by kernel_rfl) (nw_of rfl ?_ lets_then)
                refine ow_stores hP 2 rfl (ws := [.string F, .string ⟨#[]⟩, .string (txS L 265 32), .string (txS L 297 32), .int .i64 k, .int .i64 (nf L 0).1, .int .i64 (nf L 1).1, .int .i64 (nf L 2).1, .int .i64 (nf L 4).1, nilS]) rfl rfl (by simp [Value.oneCell']) rfl size26 ?_
                clear hP; intro W hg hP; clear hg; dsimp only [List.set] at hP
                refine ow_nil (ew_held ⟨_, hP⟩ ?_)
                refine hw_take 5 rfl rfl rfl (by kernel_rfl) (by kernel_rfl) (by kernel_rfl) (by repeat (first | with_reducible exact mild_body | with_reducible refine mild_then ?_ | with_reducible refine mild_block ?_)) ⟨_, hP⟩ (fun w' _ => r_assign rfl) rfl ?_
                refine hw_take 6 rfl rfl rfl (by kernel_rfl) (by kernel_rfl) (by kernel_rfl) (by repeat (first | with_reducible exact mild_body | with_reducible refine mild_then ?_ | with_reducible refine mild_block ?_)) ⟨_, hP⟩ (fun w' _ => r_assign rfl) rfl ?_
                refine hw_done (by kernel_rfl) ?_
                refine ew_next ?_
                refine cw_ret ?_
                refine ew_rets (rs := [(Go.ResultVar.cell 2 26), (Go.ResultVar.tmp 3), (Go.ResultVar.tmp 4)]) rfl (by simp) (.cell b2 26 _ (0, 0) _ rfl (hP.blk (i := 2) rfl) Tryd.underlying26 rfl size26 (.tmp rfl (.tmp rfl .nil))) ?_
                exact ⟨⟨F, ⟨#[]⟩, txS L 265 32, txS L 297 32, k, (nf L 0).1, (nf L 1).1, (nf L 2).1, (nf L 4).1, []⟩, (nf L 3).1, by rw [hok]; rfl, fun _ => ⟨hX.symm, rfl⟩, hP.old⟩
end Go.Proofs.YtlhmbncalonomaaDoor.Tld
namespace Go.Proofs.YtlhmbncalonomaaDoor.RfF
open Go.RowKit Go.Proofs.YtlhmbncalonomaaDoor.Q Go.Proofs.YtlhmbncalonomaaDoor.Cpy Go.Proofs.YtlhmbncalonomaaDoor.Hand Go.Proofs.YtlhmbncalonomaaDoor.Arr Go.Proofs.YtlhmbncalonomaaDoor.Sx Go.Proofs.YtlhmbncalonomaaDoor.Head Go.Proofs.YtlhmbncalonomaaDoor.Snd Go.Proofs.YtlhmbncalonomaaDoor.TpB Go.Proofs.YtlhmbncalonomaaDoor.TpH Go.Proofs.YtlhmbncalonomaaDoor.RfH Go.Proofs.YtlhmbncalonomaaDoor.Spc Go.Proofs.YtlhmbncalonomaaDoor.Spd Go.Proofs.YtlhmbncalonomaaDoor.Fil Go.Proofs.YtlhmbncalonomaaDoor.Fil2 Go.Proofs.YtlhmbncalonomaaDoor.Twn Go.Proofs.YtlhmbncalonomaaDoor.Nm Go.Proofs.YtlhmbncalonomaaDoor.Txt Go.Proofs.YtlhmbncalonomaaDoor.Tld Go.Proofs.YtlhmbncalonomaaDoorW.PrintWords Go.Proofs.YtlhmbncalonomaaDoorW.PrintLast Go.Proofs.YtlhmbncalonomaaDoorW.PrintMore
set_option linter.unusedVariables false
set_option linter.unusedSimpArgs false
theorem bn_ext (s : ByteArray) (a n : Nat) : bn (s.extract a (a + n)) = sub (bn s) a n := by
  unfold bn sub
  simp [Array.toList_extract, List.map_take, List.map_drop]
theorem str_bn (s : ByteArray) : strOfNums (bn s) = s := by
  apply ByteArray.ext
  apply Array.ext'
  rw [strOfNums_data]
  unfold bn
  rw [List.map_map]
  conv => rhs; rw [← List.map_id s.data.toList]
  apply List.map_congr_left
  intro b hb
  simp
theorem toList_eq (s : ByteArray) : s.toList = s.data.toList := by obtain ⟨⟨l⟩⟩ := s; simp
theorem isE_eq (s : ByteArray) : isE s = decide (s.toList = ([] : List UInt8)) := by
  unfold isE
  rw [Bool.eq_iff_iff]
  simp only [beq_iff_eq, decide_eq_true_eq]
  rw [show ByteArray.toList ⟨#[]⟩ = ([] : List UInt8) from (empty_iff _).2 rfl]
end Go.Proofs.YtlhmbncalonomaaDoor.RfF
namespace Go.Proofs.YtlhmbncalonomaaDoor.GtP
open Go.RowKit Go.Proofs.YtlhmbncalonomaaDoor.Q Go.Proofs.YtlhmbncalonomaaDoor.Cpy Go.Proofs.YtlhmbncalonomaaDoor.Hand Go.Proofs.YtlhmbncalonomaaDoor.Arr Go.Proofs.YtlhmbncalonomaaDoor.Sx Go.Proofs.YtlhmbncalonomaaDoor.Head Go.Proofs.YtlhmbncalonomaaDoor.Snd Go.Proofs.YtlhmbncalonomaaDoor.TpB Go.Proofs.YtlhmbncalonomaaDoor.TpH Go.Proofs.YtlhmbncalonomaaDoor.RfH Go.Proofs.YtlhmbncalonomaaDoor.Spc Go.Proofs.YtlhmbncalonomaaDoor.Spd Go.Proofs.YtlhmbncalonomaaDoor.Fil Go.Proofs.YtlhmbncalonomaaDoor.Fil2 Go.Proofs.YtlhmbncalonomaaDoor.Twn Go.Proofs.YtlhmbncalonomaaDoor.Alk Go.Proofs.YtlhmbncalonomaaDoor.Nm Go.Proofs.YtlhmbncalonomaaDoor.Txt Go.Proofs.YtlhmbncalonomaaDoor.Tld Go.Proofs.YtlhmbncalonomaaDoor.RfF Go.Proofs.YtlhmbncalonomaaDoorW.PrintWords Go.Proofs.YtlhmbncalonomaaDoorW.PrintLast Go.Proofs.YtlhmbncalonomaaDoorW.PrintMore
set_option linter.unusedVariables false
set_option linter.unusedSimpArgs false
theorem size24 : (Tryd.prog.info? 24).map (·.size) = some 1 := by kernel_rfl
def isZ (l : List Int) : Bool := l.all (· == 0)
def sumOk (h : List Int) : Bool := (nf h 5).2 && decide ((nf h 5).1 = tot h 512)
def szN (h : List Int) : Nat := (nf h 3).1.toNat
def hdW (h data : List Int) : S26 := { hdrF h with f9 := data }
def getF (xs : List S26) (R : List Int) : Int × List S26 :=
  if R.length < 512 then (242, [])
  else if isZ (R.take 512) = true then
    if (R.drop 512).length < 512 then (242, []) else if isZ ((R.drop 512).take 512) = true then (0, xs) else (240, [])
  else if sumOk (R.take 512) = false then (241, [])
  else if hdrOk (R.take 512) = false then (240, [])
  else if (R.drop 512).length < padT (szN (R.take 512)) then (242, [])
  else getF (xs ++ [hdW (R.take 512) ((R.drop 512).take (szN (R.take 512)))]) ((R.drop 512).drop (padT (szN (R.take 512))))
termination_by R.length
decreasing_by rw [List.length_drop, List.length_drop]; omega
def getP (l : List Int) : Int × List S26 := if 16777216 < l.length then (1, []) else getF [] l
section
variable {xs : List S26} {R : List Int}
theorem getF_short (h : R.length < 512) : getF xs R = (242, []) := by rw [getF, if_pos h]
theorem getF_z1 (h : ¬ R.length < 512) (hz : isZ (R.take 512) = true) (h2 : (R.drop 512).length < 512) : getF xs R = (242, []) := by rw [getF, if_neg h, if_pos hz, if_pos h2]
theorem getF_z2 (h : ¬ R.length < 512) (hz : isZ (R.take 512) = true) (h2 : ¬ (R.drop 512).length < 512) (hz2 : isZ ((R.drop 512).take 512) = true) : getF xs R = (0, xs) := by rw [getF, if_neg h, if_pos hz, if_neg h2, if_pos hz2]
theorem getF_z3 (h : ¬ R.length < 512) (hz : isZ (R.take 512) = true) (h2 : ¬ (R.drop 512).length < 512) (hz2 : isZ ((R.drop 512).take 512) = false) : getF xs R = (240, []) := by rw [getF, if_neg h, if_pos hz, if_neg h2, if_neg (by rw [hz2]; decide)]
theorem getF_sum (h : ¬ R.length < 512) (hz : isZ (R.take 512) = false) (hs : sumOk (R.take 512) = false) : getF xs R = (241, []) := by rw [getF, if_neg h, if_neg (by rw [hz]; decide), if_pos hs]
theorem getF_hdr (h : ¬ R.length < 512) (hz : isZ (R.take 512) = false) (hs : sumOk (R.take 512) = true) (hh : hdrOk (R.take 512) = false) : getF xs R = (240, []) := by rw [getF, if_neg h, if_neg (by rw [hz]; decide), if_neg (by rw [hs]; decide), if_pos hh]
theorem getF_long (h : ¬ R.length < 512) (hz : isZ (R.take 512) = false) (hs : sumOk (R.take 512) = true) (hh : hdrOk (R.take 512) = true) (hl : (R.drop 512).length < padT (szN (R.take 512))) : getF xs R = (242, []) := by rw [getF, if_neg h, if_neg (by rw [hz]; decide), if_neg (by rw [hs]; decide), if_neg (by rw [hh]; decide), if_pos hl]
theorem getF_next (h : ¬ R.length < 512) (hz : isZ (R.take 512) = false) (hs : sumOk (R.take 512) = true) (hh : hdrOk (R.take 512) = true) (hl : ¬ (R.drop 512).length < padT (szN (R.take 512))) : getF xs R = getF (xs ++ [hdW (R.take 512) ((R.drop 512).take (szN (R.take 512)))]) ((R.drop 512).drop (padT (szN (R.take 512)))) := by
  conv => lhs; rw [getF]
  rw [if_neg h, if_neg (by rw [hz]; decide), if_neg (by rw [hs]; decide), if_neg (by rw [hh]; decide), if_neg hl]
end
theorem hdrF_small {L : List Int} (hL : L.length = 512) : (hdrF L).f0.size + (hdrF L).f1.size + (hdrF L).f2.size + (hdrF L).f3.size ≤ 1048576 := by
  have z0 := txS_size hL 0 100 (by decide); have z1 := txS_size hL 345 155 (by decide); have z2 := txS_size hL 265 32 (by decide); have z3 := txS_size hL 297 32 (by decide); have z4 := txS_size hL 157 100 (by decide)
  have y1 : (nameF L).size ≤ 256 := by
    unfold nameF
    split
    · omega
    · rw [ByteArray.size_append, ByteArray.size_append, show (⟨#[47]⟩ : ByteArray).size = 1 from rfl]; omega
  have y4 : (if kd L = 2 then txS L 157 100 else ⟨#[]⟩ : ByteArray).size ≤ 100 := by
    split
    · exact z4
    · exact Nat.zero_le _
  show (nameF L).size + (if kd L = 2 then txS L 157 100 else ⟨#[]⟩ : ByteArray).size + (txS L 265 32).size + (txS L 297 32).size ≤ _
  omega
theorem getF_small (xs : List S26) (R : List Int) (h : xs.length + R.length ≤ 1048576) (hx : ∀ x ∈ xs, x.f0.size + x.f1.size + x.f2.size + x.f3.size ≤ 1048576 ∧ x.f9.length ≤ 1048576) : Small (getF xs R).2 := by
  have h0 : Small [] := ⟨by simp, fun x hx => by simp at hx⟩
  induction hm : R.length using Nat.strongRecOn generalizing xs R with
  | ind m ih =>
    rw [getF]
    split
    · exact h0
    · split
      · split
        · exact h0
        · split
          · exact ⟨by dsimp only; omega, hx⟩
          · exact h0
      · split
        · exact h0
        · split
          · exact h0
          · split
            · exact h0
            · rename_i h1 _ _ _ h5
              rw [List.length_drop] at h5
              refine ih _ ?_ _ _ ?_ ?_ rfl
              · rw [List.length_drop, List.length_drop]; omega
              · rw [List.length_append, List.length_singleton, List.length_drop, List.length_drop]; omega
              · intro x hx'
                rcases List.mem_append.1 hx' with hx' | hx'
                · exact hx x hx'
                · rw [List.mem_singleton] at hx'
                  subst hx'
                  refine ⟨hdrF_small (by rw [List.length_take]; omega), ?_⟩
                  show ((R.drop 512).take _).length ≤ _
                  rw [List.length_take, List.length_drop]; omega
theorem getP_small (l : List Int) (h : l.length ≤ 1048576) : Small (getP l).2 := by
  unfold getP
  rw [if_neg (by omega)]
  exact getF_small [] l (by simpa using h) (fun x hx => by simp at hx)
def GB (v : Value) (n : Nat) (cells : List Value) (e sz : Nat) (bsR : List (Nat × List Value × Nat)) : Prop :=
  (v = .slice none 0 0 ∧ n = 0 ∧ cells = [] ∧ bsR = []) ∨ ∃ g cap spare, v = .slice (some ⟨g, 0, none⟩) n cap ∧ n ≤ cap ∧ cells.length = n * sz ∧ (cells ++ spare).length = cap * sz ∧ bsR = [(g, cells ++ spare, e)]
theorem GB.join {W0 W : World} {v : Value} {n e sz : Nat} {cells : List Value} {bsR bs bsx : List (Nat × List Value × Nat)} (h : GB v n cells e sz bsR) (hP : HP W0 W bsx) (hp : (bsR ++ bs).Perm bsx) : Grow W0 W bs v n cells e sz := by
  have hP := hP.perm hp
  rcases h with ⟨h1, h2, h3, rfl⟩ | ⟨g, cap, spare, h1, h2, h3, h4, rfl⟩
  · exact .inl ⟨h1, h2, h3, hP⟩
  · exact .inr ⟨g, cap, spare, h1, h2, h3, h4, hP⟩
theorem GB.split {W0 W : World} {v : Value} {n e sz : Nat} {cells : List Value} {bs : List (Nat × List Value × Nat)} (h : Grow W0 W bs v n cells e sz) : ∃ bsR, GB v n cells e sz bsR ∧ HP W0 W (bsR ++ bs) := by
  rcases h with ⟨h1, h2, h3, hP⟩ | ⟨g, cap, spare, h1, h2, h3, h4, hP⟩
  · exact ⟨[], .inl ⟨h1, h2, h3, rfl⟩, hP⟩
  · exact ⟨_, .inr ⟨g, cap, spare, h1, h2, h3, h4, rfl⟩, hP⟩
def DAt (bs : List (Nat × List Value × Nat)) (l : List Int) (v : Value) : Prop := (v = .slice none 0 0 ∧ l = []) ∨ ∃ g cap spare, v = .slice (some ⟨g, 0, none⟩) l.length cap ∧ l.length ≤ cap ∧ (g, u8s l ++ spare, 5) ∈ bs
theorem DAt.more {bs bs' : List (Nat × List Value × Nat)} {l : List Int} {v : Value} (h : DAt bs l v) (hs : ∀ p ∈ bs, p ∈ bs') : DAt bs' l v := h.imp id (fun ⟨g, cap, spare, h1, h2, h3⟩ => ⟨g, cap, spare, h1, h2, hs _ h3⟩)
theorem DAt.data {w W : World} {bs : List (Nat × List Value × Nat)} {l : List Int} {v : Value} (h : DAt bs l v) (hP : HP w W bs) (hl : l.length ≤ 9223372036854775807) : DataAt W l v := by
  rcases h with ⟨rfl, rfl⟩ | ⟨g, cap, spare, rfl, h2, h3⟩
  · exact ⟨none, 0, rfl, Nat.le_refl _, Kd.C_nil _ _⟩
  · exact dataAt_own hl (hP.at_ _ h3) (fun j u hj => by rw [List.getElem?_append_left (List.getElem?_eq_some_iff.1 hj).1]; exact hj) h2
theorem GB.dat {v : Value} {l : List Int} {bsR : List (Nat × List Value × Nat)} (h : GB v l.length (u8s l) 5 1 bsR) : DAt bsR l v := by
  rcases h with ⟨h1, h2, _, _⟩ | ⟨g, cap, spare, h1, h2, _, _, rfl⟩
  · exact .inl ⟨h1, List.eq_nil_of_length_eq_zero h2⟩
  · exact .inr ⟨g, cap, spare, h1, h2, List.mem_cons_self⟩
def DAll (bs : List (Nat × List Value × Nat)) (xs : List S26) (f : Nat → Value) : Prop := ∀ i, i < xs.length → DAt bs (fileAt xs i).f9 (f i)
theorem fileAt_left {xs ys : List S26} {i : Nat} (h : i < xs.length) : fileAt (xs ++ ys) i = fileAt xs i := by
  unfold fileAt; rw [List.getD_eq_getElem?_getD, List.getD_eq_getElem?_getD, List.getElem?_append_left h]
theorem fileAt_last (xs : List S26) (x : S26) : fileAt (xs ++ [x]) xs.length = x := by
  unfold fileAt; rw [List.getD_eq_getElem?_getD, List.getElem?_append_right (Nat.le_refl _), Nat.sub_self]; rfl
def snocF (xs : List S26) (f : Nat → Value) (v : Value) (j : Nat) : Value := if j = xs.length then v else f j
theorem DAll.snoc {bsd bs : List (Nat × List Value × Nat)} {xs : List S26} {f : Nat → Value} {x : S26} {v : Value} (h : DAll bs xs f) (hd : DAt bsd x.f9 v) : DAll (bsd ++ bs) (xs ++ [x]) (snocF xs f v) := fun i hi => by
  rw [List.length_append, List.length_singleton] at hi
  unfold snocF
  rcases Nat.lt_or_ge i xs.length with h1 | h1
  · rw [if_neg (by omega), fileAt_left h1]
    exact (h i h1).more (fun p hp => List.mem_append_right _ hp)
  · obtain rfl : i = xs.length := by omega
    rw [if_pos rfl, fileAt_last]
    exact hd.more (fun p hp => List.mem_append_left _ hp)
theorem rowsF_snoc (xs : List S26) (f : Nat → Value) (x : S26) (v : Value) : rowsF (xs ++ [x]) (snocF xs f v) = rowsF xs f ++ rowV x v := by
  apply List.ext_getElem?
  intro m
  have hr : (rowV x v).length = 10 := rfl
  by_cases hm : m < (xs.length + 1) * 10
  · have e : m = (m / 10) * 10 + m % 10 := by omega
    have e2 := rowsF_at (xs ++ [x]) (snocF xs f v) (m / 10) (m % 10) (by rw [List.length_append, List.length_singleton]; omega) (by omega)
    rw [← e] at e2
    rw [e2]
    rcases Nat.lt_or_ge m (xs.length * 10) with h1 | h1
    · rw [List.getElem?_append_left (by rw [rowsF_length]; exact h1)]
      have e3 := rowsF_at xs f (m / 10) (m % 10) (by omega) (by omega)
      rw [← e] at e3
      rw [e3, fileAt_left (by omega)]
      unfold snocF
      rw [if_neg (by omega)]
    · rw [List.getElem?_append_right (by rw [rowsF_length]; exact h1), rowsF_length]
      have e4 : m / 10 = xs.length := by omega
      unfold snocF
      rw [e4, if_pos rfl, fileAt_last, show m - xs.length * 10 = m % 10 by omega, rowV_get _ _ _ (by omega)]
  · rw [List.getElem?_eq_none (by rw [rowsF_length, List.length_append, List.length_singleton]; omega), List.getElem?_eq_none (by rw [List.length_append, rowsF_length, hr]; omega)]
theorem files_C {w W : World} {v : Value} {xs : List S26} {f : Nat → Value} {bsD : List (Nat × List Value × Nat)} {bsR : List (Nat × List Value × Nat)} (hR : GB v xs.length (rowsF xs f) 26 10 bsR) (hD : DAll bsD xs f) (hP : HP w W (bsR ++ bsD)) (hs : Small xs) : ∃ A c, v = .slice A xs.length c ∧ xs.length ≤ c ∧ Kd.C k26 W A xs.length xs := by
  have hlen := hs.len
  rcases hR with ⟨h1, h2, _, _⟩ | ⟨g, cap, spare, h1, h2, h3, h4, rfl⟩
  · have : xs = [] := List.eq_nil_of_length_eq_zero h2
    subst this
    exact ⟨none, 0, h1, Nat.le_refl _, Kd.C_nil _ _⟩
  · refine ⟨_, cap, h1, h2, kdC_rows (f := f) (by omega) (fun m u hm => hP.cell (i := 0) rfl (by rw [List.getElem?_append_left (List.getElem?_eq_some_iff.1 hm).1]; exact hm)) (fun i hi => ?_)⟩
    have hsx := hs.at_ _ (fileAt_mem hi)
    exact (hD i hi).data (hP.sub (List.sublist_append_right _ _)) (by omega)
def GetPost (w : World) (l : List Int) (e : Ending) (w' : World) : Prop := ∃ v bsR bsD f, e = .returned (.tuple #[v, .int .i64 (getP l).1]) ∧ GB v (getP l).2.length (rowsF (getP l).2 f) 26 10 bsR ∧ DAll bsD (getP l).2 f ∧ HP w w' (bsR ++ bsD)
theorem get_bad {w W : World} {l : List Int} {code : Int} {bsx : List (Nat × List Value × Nat)} (h : getP l = (code, [])) (hP : HP w W bsx) : GetPost w l (.returned (.tuple #[.slice none 0 0, .int .i64 code])) W :=
  ⟨_, [], [], fun _ => nilS, by rw [h], by rw [h]; exact .inl ⟨rfl, rfl, rfl, rfl⟩, by rw [h]; exact fun i hi => absurd hi (by simp), hP.sub (List.nil_sublist _)⟩
theorem empty_of (A : Option Addr) (m c : Nat) (L : List Int) (hm : m = L.length) (w : World) (hC : U8 w A L) (hc : m ≤ c) (hn : L.length ≤ 1099511627776) :
    Calls Tryd.prog 29 #[.slice A m c] w fun e w' => e = .returned (.bool (isZ L)) ∧ Drawn0 w w' := by
  subst hm
  exact empty29 A c L w hC hc hn
theorem num5_of (g : Nat) (L : List Int) (hL : L.length = 512) (w : World) (hB : Bytes w g L) :
    Calls Tryd.prog 30 #[.slice (some ⟨g, 148, none⟩) (sub L 148 8).length (512 - 148)] w fun e w' => e = .returned (.tuple #[.int .i64 (nf L 5).1, .bool (nf L 5).2]) ∧ Drawn0 w w' :=
  number30 _ _ _ w (part_U8 hB hL 148 8 (by decide)) (by rw [sub_len hL _ _ (by decide)]; omega) (by rw [sub_len hL _ _ (by decide)]; omega)
structure GS where
  R : List Int
  A : Option Addr
  c : Nat
  xs : List S26
  v : Value
end Go.Proofs.YtlhmbncalonomaaDoor.GtP
namespace Go.Proofs.YtlhmbncalonomaaDoor.GtA
open Go.RowKit Go.Proofs.YtlhmbncalonomaaDoor.Q Go.Proofs.YtlhmbncalonomaaDoor.Cpy Go.Proofs.YtlhmbncalonomaaDoor.Hand Go.Proofs.YtlhmbncalonomaaDoor.Arr Go.Proofs.YtlhmbncalonomaaDoor.Sx Go.Proofs.YtlhmbncalonomaaDoor.Head Go.Proofs.YtlhmbncalonomaaDoor.Snd Go.Proofs.YtlhmbncalonomaaDoor.TpB Go.Proofs.YtlhmbncalonomaaDoor.TpH Go.Proofs.YtlhmbncalonomaaDoor.RfH Go.Proofs.YtlhmbncalonomaaDoor.Spc Go.Proofs.YtlhmbncalonomaaDoor.Spd Go.Proofs.YtlhmbncalonomaaDoor.Fil Go.Proofs.YtlhmbncalonomaaDoor.Fil2 Go.Proofs.YtlhmbncalonomaaDoor.Twn Go.Proofs.YtlhmbncalonomaaDoor.Alk Go.Proofs.YtlhmbncalonomaaDoor.Nm Go.Proofs.YtlhmbncalonomaaDoor.Txt Go.Proofs.YtlhmbncalonomaaDoor.Tld Go.Proofs.YtlhmbncalonomaaDoor.RfF Go.Proofs.YtlhmbncalonomaaDoor.GtP Go.Proofs.YtlhmbncalonomaaDoorW.PrintWords Go.Proofs.YtlhmbncalonomaaDoorW.PrintLast Go.Proofs.YtlhmbncalonomaaDoorW.PrintMore
set_option linter.unusedVariables false
set_option linter.unusedSimpArgs false
theorem en20 : Enters Tryd.prog 20 := fun args w => by kernel_rfl
theorem en29 : Enters Tryd.prog 29 := fun args w => by kernel_rfl
theorem en30 : Enters Tryd.prog 30 := fun args w => by kernel_rfl
theorem en33 : Enters Tryd.prog 33 := fun args w => by kernel_rfl
theorem GB_one {v : Value} {n e sz : Nat} {cells : List Value} {bsR : List (Nat × List Value × Nat)} (h : GB v n cells e sz bsR) : v.oneCell' = true := by
  rcases h with ⟨rfl, _⟩ | ⟨g, cap, spare, rfl, _⟩ <;> rfl
theorem GB_cells {v : Value} {n e sz : Nat} {cells : List Value} {bsR : List (Nat × List Value × Nat)} (h : GB v n cells e sz bsR) : v.cells = #[v] := by
  rcases h with ⟨rfl, _⟩ | ⟨g, cap, spare, rfl, _⟩ <;> rfl
theorem rowV_one (X : S26) {v : Value} (h : v.oneCell' = true) : ∀ u ∈ rowV X v, u.oneCell' = true := by
  intro u hu
  simp only [rowV, List.mem_cons, List.not_mem_nil, or_false] at hu
  rcases hu with rfl | rfl | rfl | rfl | rfl | rfl | rfl | rfl | rfl | rfl <;> first | rfl | exact h
theorem u8_C0 {W : World} {g t : Nat} {L : List Int} {n : Nat} (h : W.heap[g]? = some (.cells (u8s L).toArray t (0, 0))) (hL : L.length = n) (hn : L.length ≤ 9223372036854775807) : U8 W (some ⟨g, 0, none⟩) L :=
  u8_C hn h (fun j u hj => hj)
theorem perm5 {α : Type} (a b c : α) (d r D : List α) : (r ++ (a :: b :: c :: (d ++ D))).Perm (a :: b :: c :: (d ++ (r ++ D))) := by
  refine (List.perm_middle).trans (List.Perm.cons _ ((List.perm_middle).trans (List.Perm.cons _ ((List.perm_middle).trans (List.Perm.cons _ ?_)))))
  rw [← List.append_assoc, ← List.append_assoc]
  exact List.Perm.append_right _ List.perm_append_comm
theorem ow_sub {P : Program} {ops : Array Oper} {Q : Exit → Act → World → Prop} {rest : List Oper} {n : Nat} {sl sl2 : List (Nat × Value)} {w : World} (hs : subs sl2 sl) (h : OW P ops Q rest n sl2 w) : OW P ops Q rest n sl w := fun a ha => h a (ha.sub hs)
set_option maxRecDepth 100000 in
set_option maxHeartbeats 1000000 in
theorem get_calls (A : Option Addr) (c : Nat) (l : List Int) (w : World) (hl : Laid w) (hC : U8 w A l) (hc : l.length ≤ c) (hr : ∀ x ∈ l, 0 ≤ x ∧ x ≤ 255) :
    Calls Tryd.prog 16 #[.slice A l.length c] w fun e w' => GetPost w l e w' := by
  have hP := HP.start w
  refine calls_cw Tryd.func16 rfl rfl (by simp) ?_
  refine cw_seq ?_
  -- region 0 tape.go:246
  refine cw_region ?_
  refine ow_step (r_assign rfl) rfl ?_
  refine ow_step (r_assign rfl) rfl ?_
  refine ow_nil ?_
  refine ew_next ?_
  refine cw_seq ?_
  refine cw_seq ?_
  -- region 1 tape.go:247
  refine cw_region ?_
  refine ow_step (r_move rfl) rfl ?_
  refine ow_step (r_len rfl (by rfl) rfl) rfl ?_
  refine ow_step (r_gt rfl rfl) rfl ?_
  refine ow_nil ?_
  refine ew_next ?_
  refine cw_cond rfl (fun hb0 => ?_) (fun hb0 => ?_)
  · -- cond 0 yes
    have hc0 := hb0; (try simp only [Bool.and_eq_true, Bool.or_eq_true, Bool.and_eq_false_iff, Bool.or_eq_false_iff, Bool.not_eq_true', Bool.not_eq_false', decide_eq_true_eq, decide_eq_false_iff_not, ne_eq, Decidable.not_not, not_true_eq_false, not_false_eq_true] at hc0)
    refine cw_seq ?_
    -- region 2 tape.go:248
    refine cw_region ?_
    refine ow_step (r_assign rfl) rfl ?_
    refine ow_step (r_assign rfl) rfl ?_
    refine ow_nil ?_
    refine ew_next ?_
    refine cw_ret ?_
    refine ew_then_ret ?_
    refine ew_rets (rs := [(Go.ResultVar.tmp 2), (Go.ResultVar.tmp 3)]) rfl (by simp) (.tmp rfl (.tmp rfl .nil)) ?_
    exact get_bad (by unfold getP; rw [if_pos (by omega)]) hP
  · -- cond 0 no
    have hc0 := hb0; (try simp only [Bool.and_eq_true, Bool.or_eq_true, Bool.and_eq_false_iff, Bool.or_eq_false_iff, Bool.not_eq_true', Bool.not_eq_false', decide_eq_true_eq, decide_eq_false_iff_not, ne_eq, Decidable.not_not, not_true_eq_false, not_false_eq_true] at hc0)
    refine cw_skip ?_
    refine ew_next ?_
    refine cw_seq ?_
    -- region 3 tape.go:250
    refine cw_region ?_
    refine ow_step (r_assign rfl) rfl ?_
    refine ow_nil ?_
    refine ew_next ?_
    refine cw_block ?_
    refine cw_loop (α := GS) (fun u : GS => u.R.length) (fun u : GS => [(0, .slice u.A u.R.length u.c), (4, u.v)]) (fun (u : GS) w' => U8 w u.A u.R ∧ u.R.length ≤ u.c ∧ u.xs.length * 512 + u.R.length ≤ 16777216 ∧ getF u.xs u.R = getP l ∧ (∀ x ∈ u.R, 0 ≤ x ∧ x ≤ 255) ∧ ∃ bsR bsD f, GB u.v u.xs.length (rowsF u.xs f) 26 10 bsR ∧ DAll bsD u.xs f ∧ HP w w' (bsR ++ bsD)) ⟨l, A, c, [], .slice none 0 0⟩ ⟨rfl, rfl, trivial⟩ ⟨hC, hc, by dsimp only [List.length_nil]; omega, by unfold getP; rw [if_neg (by omega)], hr, [], [], fun _ => nilS, .inl ⟨rfl, rfl, rfl, rfl⟩, fun i hi => absurd hi (by simp), hP⟩ ?_
    clear hP hC hc hr; rintro ⟨R, A', c', xs, v⟩ W ⟨hU, hcap, hn, hget, hr, bsR, bsD, f, hR, hD, hP⟩; dsimp only at hU hcap hn hget hr hR hD hP ⊢
    · -- round 0
      refine cw_block ?_
      refine cw_seq ?_
      refine cw_seq ?_
      -- region 4 tape.go:252
      refine cw_region ?_
      refine ow_step (r_move rfl) rfl ?_
      refine ow_step (r_len rfl (by rfl) rfl) rfl ?_
      refine ow_step (r_lt rfl rfl) rfl ?_
      refine ow_nil ?_
      refine ew_next ?_
      refine cw_cond rfl (fun hb1 => ?_) (fun hb1 => ?_)
      · -- cond 1 yes
        have hc1 := hb1; (try simp only [Bool.and_eq_true, Bool.or_eq_true, Bool.and_eq_false_iff, Bool.or_eq_false_iff, Bool.not_eq_true', Bool.not_eq_false', decide_eq_true_eq, decide_eq_false_iff_not, ne_eq, Decidable.not_not, not_true_eq_false, not_false_eq_true] at hc1)
        refine cw_seq ?_
        -- region 5 tape.go:253
        refine cw_region ?_
        refine ow_step (r_assign rfl) rfl ?_
        refine ow_step (r_assign rfl) rfl ?_
        refine ow_nil ?_
        refine ew_next ?_
        refine cw_ret ?_
        refine ew_then_ret ?_
        refine ew_block_ret ?_
        refine ew_then_ret ?_
        refine ew_block_ret ?_
        refine ew_rets (rs := [(Go.ResultVar.tmp 2), (Go.ResultVar.tmp 3)]) rfl (by simp) (.tmp rfl (.tmp rfl .nil)) ?_
        exact get_bad (hget.symm.trans (getF_short (by omega))) hP
      · -- cond 1 no
        have hc1 := hb1; (try simp only [Bool.and_eq_true, Bool.or_eq_true, Bool.and_eq_false_iff, Bool.or_eq_false_iff, Bool.not_eq_true', Bool.not_eq_false', decide_eq_true_eq, decide_eq_false_iff_not, ne_eq, Decidable.not_not, not_true_eq_false, not_false_eq_true] at hc1)
        have h512 : ¬ R.length < 512 := by omega
        have hdl : (R.drop 512).length = R.length - 512 := List.length_drop ..
        obtain ⟨h, hh⟩ : ∃ h, h = R.take 512 := ⟨_, rfl⟩
        have hL : h.length = 512 := by rw [hh, List.length_take]; omega
        have hr8 : ∀ x ∈ h, 0 ≤ x ∧ x ≤ 255 := fun x hx => hr x (by rw [hh] at hx; exact List.mem_of_mem_take hx)
        obtain ⟨ad, eA, hcell⟩ := hU.2.2 (by omega)
        have hU2 := Kd.C_drop (m := 512) hU (by omega) hcap
        refine cw_skip ?_
        refine ew_next ?_
        refine cw_seq ?_
        -- region 6 tape.go:255
        refine cw_region ?_
        refine ow_alloc hP (ws := u8s Z) zero50i rfl ?_
        clear hP; intro b5 W hz hg hP; clear hz hg
        refine ow_nil ?_
        refine ew_next ?_
        refine cw_seq ?_
        -- region 7 tape.go:256
        refine cw_region ?_
        refine ow_step (r_sliceArr rfl Tryd.underlying50 size5) rfl ?_
        refine ow_step (r_move rfl) rfl ?_
        refine ow_copy (ws := u8s h) (sz := 1) (o := 0) hP 0 rfl rfl (by rw [← eA]; rfl) Tryd.underlying24 size5 (by rw [u8s_length, hL, Nat.mul_one]; exact (Nat.min_eq_right (by omega)).symm) (fun j u hj => ?_) u8s_one (by rw [u8s_length, hL, u8s_length, Z_len]; decide) rfl ?_
        · have hj2 : j < h.length := by have := (List.getElem?_eq_some_iff.1 hj).1; rwa [u8s_length] at this
          refine pw_cell_below hP.old ?_
          have hRj : R[j]? = some h[j] := by
            have : h[j]? = some h[j] := List.getElem?_eq_getElem hj2
            rw [← this, hh, List.getElem?_take, if_pos (by omega)]
          obtain ⟨cs, _, ecs, hcl⟩ := hcell j h[j] hRj
          have hju : u = .int .u8 h[j] := by
            rw [List.getElem?_map, List.getElem?_eq_getElem hj2] at hj
            exact (Option.some.inj hj).symm
          subst ecs
          have := hcl 0 (.int .u8 h[j]) rfl
          rw [show j * (Kd.int .u8).sz + 0 = j from Nat.mul_one j] at this
          rw [hju]; exact this
        clear hP; intro W hg hP; clear hg; rw [List.take_zero, List.nil_append, u8s_length, hL, List.drop_eq_nil_of_le (by rw [u8s_length, Z_len]; decide), List.append_nil] at hP; dsimp only [List.set] at hP
        refine ow_nil ?_
        refine ew_next ?_
        refine cw_seq ?_
        -- region 8 tape.go:257
        refine cw_region ?_
        refine ow_step (r_move rfl) rfl ?_
        refine ow_step (r_from (i := 512) (L := R) rfl rfl (by omega)) rfl ?_
        refine ow_step (r_assign rfl) rfl ?_
        refine ow_nil ?_
        refine ew_next ?_
        refine cw_seq ?_
        refine cw_seq ?_
        -- region 9 tape.go:258
        refine cw_region ?_
        refine ow_step (r_sliceArr rfl Tryd.underlying50 size5) rfl ?_
        refine ow_call en29 rfl (empty_of (some ⟨b5, 0, none⟩) 512 512 h hL.symm _ (u8_C0 (hP.blk (i := 0) rfl) hL (by omega)) (Nat.le_refl _) (by omega)) rfl ?_
        rintro e W ⟨rfl, ⟨m_, rfl⟩⟩; replace hP := hP.drewN m_; refine ⟨_, rfl, ?_⟩
        refine ow_nil ?_
        refine ew_next ?_
        refine cw_cond rfl (fun hb2 => ?_) (fun hb2 => ?_)
        · -- cond 2 yes
          have hc2 := hb2; (try simp only [Bool.and_eq_true, Bool.or_eq_true, Bool.and_eq_false_iff, Bool.or_eq_false_iff, Bool.not_eq_true', Bool.not_eq_false', decide_eq_true_eq, decide_eq_false_iff_not, ne_eq, Decidable.not_not, not_true_eq_false, not_false_eq_true] at hc2)
          have hz1 : isZ (R.take 512) = true := by rw [← hh]; exact hb2
          refine cw_seq ?_
          refine cw_block ?_
          refine cw_seq ?_
          -- region 10 tape.go:260
          refine cw_region ?_
          refine ow_step (r_move rfl) rfl ?_
          refine ow_step (r_len rfl (by rfl) rfl) rfl ?_
          refine ow_step (r_lt rfl rfl) rfl ?_
          refine ow_step (r_assign rfl) rfl ?_
          refine ow_nil ?_
          refine ew_next ?_
          refine cw_cond rfl (fun hb3 => ?_) (fun hb3 => ?_)
          · -- cond 3 yes
            have hc3 := hb3; (try simp only [Bool.and_eq_true, Bool.or_eq_true, Bool.and_eq_false_iff, Bool.or_eq_false_iff, Bool.not_eq_true', Bool.not_eq_false', decide_eq_true_eq, decide_eq_false_iff_not, ne_eq, Decidable.not_not, not_true_eq_false, not_false_eq_true] at hc3)
            refine cw_seq ?_
            -- region 11 tape.go:261
            refine cw_region ?_
            refine ow_step (r_assign rfl) rfl ?_
            refine ow_step (r_assign rfl) rfl ?_
            refine ow_nil ?_
            refine ew_next ?_
            refine cw_ret ?_
            refine ew_block_ret ?_
            refine ew_then_ret ?_
            refine ew_then_ret ?_
            refine ew_block_ret ?_
            refine ew_then_ret ?_
            refine ew_block_ret ?_
            refine ew_rets (rs := [(Go.ResultVar.tmp 2), (Go.ResultVar.tmp 3)]) rfl (by simp) (.tmp rfl (.tmp rfl .nil)) ?_
            exact get_bad (hget.symm.trans (getF_z1 h512 hz1 (by omega))) hP
          · -- cond 3 no
            have hc3 := hb3; (try simp only [Bool.and_eq_true, Bool.or_eq_true, Bool.and_eq_false_iff, Bool.or_eq_false_iff, Bool.not_eq_true', Bool.not_eq_false', decide_eq_true_eq, decide_eq_false_iff_not, ne_eq, Decidable.not_not, not_true_eq_false, not_false_eq_true] at hc3)
            refine cw_seq ?_
            -- region 12 tape.go:262
            refine cw_region ?_
            refine ow_step (r_move rfl) rfl ?_
            refine ow_step (r_to (i := 512) (L := R.drop 512) rfl rfl (by omega) (by omega)) rfl ?_
            refine ow_call en29 rfl (empty_of _ _ _ ((R.drop 512).take 512) rfl _ (Kd.C_below (Kd.C_take hU2 (by omega)) hP.old) (by rw [List.length_take]; omega) (by rw [List.length_take]; omega)) rfl ?_
            rintro e W ⟨rfl, ⟨m_, rfl⟩⟩; replace hP := hP.drewN m_; refine ⟨_, rfl, ?_⟩
            refine ow_step (r_not rfl) rfl ?_
            refine ow_step (r_assign rfl) rfl ?_
            refine ow_nil ?_
            refine ew_next ?_
            refine cw_cond rfl (fun hb4 => ?_) (fun hb4 => ?_)
            · -- cond 4 yes
              have hc4 := hb4; (try simp only [Bool.and_eq_true, Bool.or_eq_true, Bool.and_eq_false_iff, Bool.or_eq_false_iff, Bool.not_eq_true', Bool.not_eq_false', decide_eq_true_eq, decide_eq_false_iff_not, ne_eq, Decidable.not_not, not_true_eq_false, not_false_eq_true] at hc4)
              refine cw_seq ?_
              -- region 13 tape.go:263
              refine cw_region ?_
              refine ow_step (r_assign rfl) rfl ?_
              refine ow_step (r_assign rfl) rfl ?_
              refine ow_nil ?_
              refine ew_next ?_
              refine cw_ret ?_
              refine ew_block_ret ?_
              refine ew_then_ret ?_
              refine ew_then_ret ?_
              refine ew_block_ret ?_
              refine ew_then_ret ?_
              refine ew_block_ret ?_
              refine ew_rets (rs := [(Go.ResultVar.tmp 2), (Go.ResultVar.tmp 3)]) rfl (by simp) (.tmp rfl (.tmp rfl .nil)) ?_
              exact get_bad (hget.symm.trans (getF_z3 h512 hz1 (by omega) (not_t hb4))) hP
            · -- cond 4 no
              have hc4 := hb4; (try simp only [Bool.and_eq_true, Bool.or_eq_true, Bool.and_eq_false_iff, Bool.or_eq_false_iff, Bool.not_eq_true', Bool.not_eq_false', decide_eq_true_eq, decide_eq_false_iff_not, ne_eq, Decidable.not_not, not_true_eq_false, not_false_eq_true] at hc4)
              refine cw_skip ?_
              refine ew_block ?_
              refine ew_next ?_
              refine cw_seq ?_
              -- region 14 tape.go:265
              refine cw_region ?_
              refine ow_step (r_move rfl) rfl ?_
              refine ow_step (r_assign rfl) rfl ?_
              refine ow_step (r_assign rfl) rfl ?_
              refine ow_nil ?_
              refine ew_next ?_
              refine cw_ret ?_
              refine ew_then_ret ?_
              refine ew_block_ret ?_
              refine ew_then_ret ?_
              refine ew_block_ret ?_
              refine ew_rets (rs := [(Go.ResultVar.tmp 2), (Go.ResultVar.tmp 3)]) rfl (by simp) (.tmp rfl (.tmp rfl .nil)) ?_
              have hres : getP l = (0, xs) := hget.symm.trans (getF_z2 h512 hz1 (by omega) (not_f hb4))
              exact ⟨v, bsR, bsD, f, by rw [hres], by rw [hres]; exact hR, by rw [hres]; exact hD, hP.sub (List.sublist_cons_self _ _)⟩
        · -- cond 2 no
          have hc2 := hb2; (try simp only [Bool.and_eq_true, Bool.or_eq_true, Bool.and_eq_false_iff, Bool.or_eq_false_iff, Bool.not_eq_true', Bool.not_eq_false', decide_eq_true_eq, decide_eq_false_iff_not, ne_eq, Decidable.not_not, not_true_eq_false, not_false_eq_true] at hc2)
          have hz1 : isZ (R.take 512) = false := by rw [← hh]; exact hb2
          refine cw_skip ?_
          refine ew_next ?_
          refine cw_seq ?_
          refine cw_seq ?_
          -- region 15 tape.go:267
          refine cw_region ?_
          refine ow_step (r_indexArr (o' := 10) rfl rfl Tryd.underlying61 size60 ⟨by decide, by decide⟩ rfl) rfl ?_
          refine ow_step (r_loads rfl (c := [.int .i64 148, .int .i64 8]) Tryd.underlying60 rfl size60 (gl2 (hl.below hP.old).n10 (hl.below hP.old).n11)) rfl ?_
          refine ow_call en31 rfl (part_of b5 h hL 148 8 _ _ (by decide) (by decide) _ (by decide) (by decide)) rfl ?_
          rintro e W ⟨rfl, hg⟩; replace hP := hP.grown hg; clear hg; refine ⟨_, rfl, ?_⟩
          refine ow_call en30 rfl (num5_of b5 h hL _ (show Bytes _ b5 h from hP.blk (i := 0) rfl)) rfl ?_
          rintro e W ⟨rfl, ⟨m_, rfl⟩⟩; replace hP := hP.drewN m_; refine ⟨_, rfl, ?_⟩
          refine ow_step (r_move rfl) rfl ?_
          refine ow_step (r_extract rfl rfl) rfl ?_
          refine ow_step (r_extract rfl rfl) rfl ?_
          refine ow_step (r_assign rfl) rfl ?_
          refine ow_step (r_assign rfl) rfl ?_
          refine ow_nil ?_
          refine ew_next ?_
          refine cw_seq ?_
          -- region 16 tape.go:267
          refine cw_region ?_
          refine ow_sub (sl2 := [(0, .slice (if c' = 512 then A' else A'.map (·.add (512 * (Kd.int .u8).sz))) (R.drop 512).length (c' - 512)), (4, v), (5, .pointer (some ⟨b5, 0, none⟩)), (6, .int .i64 (nf h 5).1), (7, .bool (nf h 5).2)]) ⟨rfl, rfl, rfl, rfl, rfl, trivial⟩ ?_
          refine ow_step (r_move rfl) rfl ?_
          refine ow_step (r_not rfl) rfl ?_
          refine ow_step (r_move rfl) rfl ?_
          apply ow_orP (p := 47) (m := 43) 4 hP rfl
          · intro hg16_2; have hg16_2p := hg16_2; (try simp only [Bool.and_eq_true, Bool.or_eq_true, Bool.and_eq_false_iff, Bool.or_eq_false_iff, Bool.not_eq_true', Bool.not_eq_false', decide_eq_true_eq, decide_eq_false_iff_not, ne_eq, Decidable.not_not, not_true_eq_false, not_false_eq_true] at hg16_2p)
            refine ow_guard rfl rfl rfl (by rw [hg16_2]; rfl) ?_
            refine ow_step (r_move rfl) rfl ?_
            refine ow_guard rfl rfl rfl (by rw [hg16_2]; rfl) ?_
            refine ow_call en32 rfl (total_calls b5 h _ hL hr8 (show Bytes _ b5 h from hP.blk (i := 0) rfl) (hl.below hP.old).n10 (hl.below hP.old).n11) rfl ?_
            rintro e W ⟨rfl, hg⟩; replace hP := hP.grown hg; clear hg; refine ⟨_, rfl, ?_⟩
            refine ow_guard rfl rfl rfl (by rw [hg16_2]; rfl) ?_
            refine ow_step (r_ne rfl rfl) rfl ?_
            refine ow_step (r_pickF rfl hg16_2 rfl) rfl ?_
            refine ow_nil (ew_logic rfl (by repeat (first | exact trivial | refine ⟨rfl, ?_⟩)) hP)
          · intro hg16_2
            refine ow_pass rfl rfl rfl (by rw [hg16_2]; rfl) rfl ?_
            refine ow_pass rfl rfl rfl (by rw [hg16_2]; rfl) rfl ?_
            refine ow_pass rfl rfl rfl (by rw [hg16_2]; rfl) rfl ?_
            refine ow_step (r_pickT rfl hg16_2 rfl) rfl ?_
            refine ow_nil (ew_logic rfl (by repeat (first | exact trivial | refine ⟨rfl, ?_⟩)) hP)
          intro W hP
          refine ow_nil ?_
          refine ew_next ?_
          refine cw_cond rfl (fun hb5 => ?_) (fun hb5 => ?_)
          · -- cond 5 yes
            have hc5 := hb5; (try simp only [Bool.and_eq_true, Bool.or_eq_true, Bool.and_eq_false_iff, Bool.or_eq_false_iff, Bool.not_eq_true', Bool.not_eq_false', decide_eq_true_eq, decide_eq_false_iff_not, ne_eq, Decidable.not_not, not_true_eq_false, not_false_eq_true] at hc5)
            have hs1 : sumOk (R.take 512) = false := by
              rw [← hh]; unfold sumOk
              have hx := hb5
              cases h1 : (nf h 5).2 with
              | false => rfl
              | true => rw [h1] at hx; simpa using hx
            refine cw_seq ?_
            -- region 17 tape.go:268
            refine cw_region ?_
            refine ow_step (r_assign rfl) rfl ?_
            refine ow_step (r_assign rfl) rfl ?_
            refine ow_nil ?_
            refine ew_next ?_
            refine cw_ret ?_
            refine ew_then_ret ?_
            refine ew_block_ret ?_
            refine ew_then_ret ?_
            refine ew_block_ret ?_
            refine ew_rets (rs := [(Go.ResultVar.tmp 2), (Go.ResultVar.tmp 3)]) rfl (by simp) (.tmp rfl (.tmp rfl .nil)) ?_
            exact get_bad (hget.symm.trans (getF_sum h512 hz1 hs1)) hP
          · -- cond 5 no
            have hc5 := hb5; (try simp only [Bool.and_eq_true, Bool.or_eq_true, Bool.and_eq_false_iff, Bool.or_eq_false_iff, Bool.not_eq_true', Bool.not_eq_false', decide_eq_true_eq, decide_eq_false_iff_not, ne_eq, Decidable.not_not, not_true_eq_false, not_false_eq_true] at hc5)
            have hs1 : sumOk (R.take 512) = true := by
              rw [← hh]; unfold sumOk
              have hx := hb5
              cases h1 : (nf h 5).2 with
              | false => rw [h1] at hx; simp at hx
              | true => rw [h1] at hx; simpa using hx
            refine cw_skip ?_
            refine ew_next ?_
            refine cw_seq ?_
            -- region 18 tape.go:270
            refine cw_region ?_
            refine ow_call en33 rfl (told_calls b5 h hL _ (hl.below hP.old) (show Bytes _ b5 h from hP.blk (i := 0) rfl)) rfl ?_
            rintro e W ⟨X, n, rfl, hX, hb⟩; replace hP := hP.below hb; clear hb; refine ⟨_, rfl, ?_⟩
            refine ow_step (r_move rfl) rfl ?_
            refine ow_step (r_extract rfl rfl) rfl ?_
            refine ow_step (r_extract rfl rfl) rfl ?_
            refine ow_step (r_extract rfl rfl) rfl ?_
            refine ow_var (ws := rowV X nilS) hP rfl (by kernel_rfl) (by simp [rowV, Value.oneCell']) rfl ?_
            clear hP; intro b8 W hz hg hP; clear hz hg
            refine ow_step (r_assign rfl) rfl ?_
            refine ow_step (r_assign rfl) rfl ?_
            refine ow_nil ?_
            refine ew_next ?_
            refine cw_seq ?_
            refine cw_seq ?_
            -- region 19 tape.go:271
            refine cw_region ?_
            refine ow_step (r_move rfl) rfl ?_
            refine ow_step (r_not rfl) rfl ?_
            refine ow_nil ?_
            refine ew_next ?_
            refine cw_cond rfl (fun hb6 => ?_) (fun hb6 => ?_)
            · -- cond 6 yes
              have hc6 := hb6; (try simp only [Bool.and_eq_true, Bool.or_eq_true, Bool.and_eq_false_iff, Bool.or_eq_false_iff, Bool.not_eq_true', Bool.not_eq_false', decide_eq_true_eq, decide_eq_false_iff_not, ne_eq, Decidable.not_not, not_true_eq_false, not_false_eq_true] at hc6)
              refine cw_seq ?_
              -- region 20 tape.go:272
              refine cw_region ?_
              refine ow_step (r_assign rfl) rfl ?_
              refine ow_step (r_assign rfl) rfl ?_
              refine ow_nil ?_
              refine ew_next ?_
              refine cw_ret ?_
              refine ew_then_ret ?_
              refine ew_block_ret ?_
              refine ew_then_ret ?_
              refine ew_block_ret ?_
              refine ew_rets (rs := [(Go.ResultVar.tmp 2), (Go.ResultVar.tmp 3)]) rfl (by simp) (.tmp rfl (.tmp rfl .nil)) ?_
              exact get_bad (hget.symm.trans (getF_hdr h512 hz1 hs1 (by rw [← hh]; exact not_t hb6))) hP
            · -- cond 6 no
              have hc6 := hb6; (try simp only [Bool.and_eq_true, Bool.or_eq_true, Bool.and_eq_false_iff, Bool.or_eq_false_iff, Bool.not_eq_true', Bool.not_eq_false', decide_eq_true_eq, decide_eq_false_iff_not, ne_eq, Decidable.not_not, not_true_eq_false, not_false_eq_true] at hc6)
              have hh1 : hdrOk (R.take 512) = true := by rw [← hh]; exact not_f hb6
              obtain ⟨e1, e2⟩ := hX (not_f hb6)
              have hnb := nf_bd h hL 3 (by decide)
              obtain ⟨N, hN⟩ : ∃ N : Nat, (nf h 3).1 = (N : Int) := ⟨(nf h 3).1.toNat, by omega⟩
              have hsz : szN (R.take 512) = N := by rw [← hh]; unfold szN; rw [hN, Int.toNat_natCast]
              rw [hN] at e2 hnb
              subst e2
              refine cw_skip ?_
              refine ew_next ?_
              refine cw_seq ?_
              refine cw_seq ?_
              -- region 21 tape.go:274
              refine cw_region ?_
              refine ow_step (r_move rfl) rfl ?_
              refine ow_call en20 rfl (up_calls N _ (by omega)) rfl ?_
              rintro e W ⟨rfl, rfl⟩; refine ⟨_, rfl, ?_⟩
              refine ow_step (r_move rfl) rfl ?_
              refine ow_step (r_len rfl (by rfl) rfl) rfl ?_
              refine ow_step (r_gt rfl rfl) rfl ?_
              refine ow_nil ?_
              refine ew_next ?_
              refine cw_cond rfl (fun hb7 => ?_) (fun hb7 => ?_)
              · -- cond 7 yes
                have hc7 := hb7; (try simp only [Bool.and_eq_true, Bool.or_eq_true, Bool.and_eq_false_iff, Bool.or_eq_false_iff, Bool.not_eq_true', Bool.not_eq_false', decide_eq_true_eq, decide_eq_false_iff_not, ne_eq, Decidable.not_not, not_true_eq_false, not_false_eq_true] at hc7)
                refine cw_seq ?_
                -- region 22 tape.go:275
                refine cw_region ?_
                refine ow_step (r_assign rfl) rfl ?_
                refine ow_step (r_assign rfl) rfl ?_
                refine ow_nil ?_
                refine ew_next ?_
                refine cw_ret ?_
                refine ew_then_ret ?_
                refine ew_block_ret ?_
                refine ew_then_ret ?_
                refine ew_block_ret ?_
                refine ew_rets (rs := [(Go.ResultVar.tmp 2), (Go.ResultVar.tmp 3)]) rfl (by simp) (.tmp rfl (.tmp rfl .nil)) ?_
                exact get_bad (hget.symm.trans (getF_long h512 hz1 hs1 hh1 (by rw [hsz]; omega))) hP
              · -- cond 7 no
                have hc7 := hb7; (try simp only [Bool.and_eq_true, Bool.or_eq_true, Bool.and_eq_false_iff, Bool.or_eq_false_iff, Bool.not_eq_true', Bool.not_eq_false', decide_eq_true_eq, decide_eq_false_iff_not, ne_eq, Decidable.not_not, not_true_eq_false, not_false_eq_true] at hc7)
                have hle : padT N ≤ (R.drop 512).length := by omega
                have hNp : N ≤ padT N := by unfold padT; omega
                obtain ⟨data, hdata⟩ : ∃ d, d = (R.drop 512).take N := ⟨_, rfl⟩
                have hdlen : data.length = N := by rw [hdata, List.length_take]; omega
                refine cw_skip ?_
                refine ew_next ?_
                refine cw_seq ?_
                -- region 23 tape.go:277
                refine cw_region ?_
                refine ow_step (r_move rfl) rfl ?_
                refine ow_step (r_move rfl) rfl ?_
                refine ow_step (r_to (i := N) (L := R.drop 512) rfl rfl (by omega) (by omega)) rfl ?_
                rw [← hdata]
                have hG : Grow w W ((b8, rowV X nilS, 26) :: (b5, u8s h, 50) :: (bsR ++ bsD)) (.slice none 0 0) 0 (u8s []) 5 1 := .inl ⟨rfl, rfl, rfl, hP⟩
                refine ow_append (m := data.length) (news := u8s data) hG rfl rfl Tryd.underlying24 info5s rfl (takes_u8 (by rw [hdata]; exact Kd.C_below (Kd.C_take hU2 (by omega)) hP.old)) (by omega) (by omega) rfl ?_
                clear hP hG; intro vd W hg hG; clear hg
                rw [Nat.zero_add] at hG
                rw [show u8s [] ++ u8s data = u8s data from rfl] at hG
                obtain ⟨bsd, hRd, hP⟩ := GB.split hG; clear hG
                replace hP : HP w W ((b8, rowV X nilS, 26) :: (b5, u8s h, 50) :: (bsd ++ (bsR ++ bsD))) := hP.perm ((List.Perm.cons _ List.perm_middle.symm).trans List.perm_middle.symm)
                refine ow_step (r_fieldAddr rfl fl26_9) rfl ?_
                refine ow_store hP 0 rfl (by simp [rowV]) rfl rfl (GB_one hRd) (GB_cells hRd) size24 ?_
                clear hP; intro W hg hP; clear hg; dsimp only [List.set] at hP
                refine ow_nil ?_
                refine ew_next ?_
                refine cw_seq ?_
                -- region 24 tape.go:278
                refine cw_region ?_
                refine ow_step (r_move rfl) rfl ?_
                refine ow_step (r_move rfl) rfl ?_
                refine ow_call en20 rfl (up_calls N _ (by omega)) rfl ?_
                rintro e W ⟨rfl, rfl⟩; refine ⟨_, rfl, ?_⟩
                refine ow_step (r_from (i := padT N) (L := R.drop 512) rfl rfl hle) rfl ?_
                refine ow_step (r_assign rfl) rfl ?_
                refine ow_nil ?_
                refine ew_next ?_
                -- region 25 tape.go:279
                refine cw_region ?_
                refine ow_step (r_move rfl) rfl ?_
                replace hP : HP w W ((b8, rowV X vd, 26) :: (b5, u8s h, 50) :: (bsd ++ (bsR ++ bsD))) := hP
                refine ow_step (r_loads (c := rowV X vd) rfl Tryd.underlying26 rfl size26 (hP.cells (i := 0) (o := 0) rfl (fun j u hj => by rw [Nat.zero_add]; exact hj))) rfl ?_
                refine ow_buildSlice hP (ws := rowV X vd) (e := 26) rfl (fun w => by kernel_rfl) rfl ?_
                clear hP; intro b71 W hz hg hP; clear hz hg
                have hG : Grow w W ((b71, rowV X vd, 26) :: (b8, rowV X vd, 26) :: (b5, u8s h, 50) :: (bsd ++ bsD)) v xs.length (rowsF xs f) 26 10 := hR.join hP (perm5 _ _ _ _ _ _)
                refine ow_append (m := 1) (news := rowV X vd) hG rfl rfl Tryd.underlying22 info26 rfl (takes_slice Tryd.underlying22 rfl (fun j u hj => by rw [Addr.add_mid, Nat.zero_add]; exact hP.cell (i := 0) rfl hj) (rowV_one X (GB_one hRd))) (by omega) (by omega) rfl ?_
                clear hP hG; intro v4 W hg hG; clear hg
                obtain ⟨bsR', hR', hP⟩ := GB.split hG; clear hG
                replace hP := hP.sub (bs' := bsR' ++ (bsd ++ bsD)) (List.Sublist.append (List.Sublist.refl _) (.cons _ (.cons _ (.cons _ (List.Sublist.refl _)))))
                have hrow : rowV X vd = rowV (hdW h data) vd := by rw [e1]; rfl
                rw [hrow, ← rowsF_snoc] at hR'
                refine ow_step (r_assign rfl) rfl ?_
                refine ow_nil ?_
                refine ew_block ?_
                refine ew_round (α := GS) (m := (fun u : GS => u.R.length)) (S := (fun u : GS => [(0, .slice u.A u.R.length u.c), (4, u.v)])) (I := (fun (u : GS) w' => U8 w u.A u.R ∧ u.R.length ≤ u.c ∧ u.xs.length * 512 + u.R.length ≤ 16777216 ∧ getF u.xs u.R = getP l ∧ (∀ x ∈ u.R, 0 ≤ x ∧ x ≤ 255) ∧ ∃ bsR bsD f, GB u.v u.xs.length (rowsF u.xs f) 26 10 bsR ∧ DAll bsD u.xs f ∧ HP w w' (bsR ++ bsD))) (u := ⟨R, A', c', xs, v⟩) ⟨(R.drop 512).drop (padT N), _, _, xs ++ [hdW h data], v4⟩ ⟨rfl, rfl, trivial⟩ ⟨Kd.C_drop hU2 hle (by omega), ?_, ?_, ?_, ?_, bsR', bsd ++ bsD, snocF xs f vd, ?_, ?_, hP⟩ ?_
                · dsimp only; rw [List.length_drop]; omega
                · dsimp only; rw [List.length_drop, List.length_append, List.length_singleton]; omega
                · dsimp only
                  rw [← hget, getF_next h512 hz1 hs1 hh1 (by rw [hsz]; omega), hsz, ← hh, ← hdata]
                · exact fun x hx => hr x (List.mem_of_mem_drop (List.mem_of_mem_drop hx))
                · dsimp only; rw [List.length_append, List.length_singleton]; exact hR'
                · exact hD.snoc (x := hdW h data) (by show DAt bsd data vd; exact hRd.dat)
                · dsimp only; rw [List.length_drop]; omega
end Go.Proofs.YtlhmbncalonomaaDoor.GtA
