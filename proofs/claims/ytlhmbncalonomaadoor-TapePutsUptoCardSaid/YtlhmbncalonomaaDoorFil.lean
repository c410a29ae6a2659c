/- Files in memory; what a Put answers. -/
import Derived.Test.YtlhmbncalonomaaDoorHead
import Derived.Test.YtlhmbncalonomaaDoorSnd
import Derived.Test.YtlhmbncalonomaaDoorTpB
import Derived.Test.YtlhmbncalonomaaDoorTpH
import Derived.Test.YtlhmbncalonomaaDoorSt
import Derived.Test.YtlhmbncalonomaaDoorRfH
import Derived.Test.YtlhmbncalonomaaDoorSpd
import Derived.Test.YtlhmbncalonomaaDoorQ2
namespace Go.Proofs.YtlhmbncalonomaaDoor.Fil
open Go.RowKit Go.Proofs.YtlhmbncalonomaaDoor.Q Go.Proofs.YtlhmbncalonomaaDoor.Cpy Go.Proofs.YtlhmbncalonomaaDoor.Hand Go.Proofs.YtlhmbncalonomaaDoor.Arr Go.Proofs.YtlhmbncalonomaaDoor.Sx Go.Proofs.YtlhmbncalonomaaDoor.Head Go.Proofs.YtlhmbncalonomaaDoor.Snd Go.Proofs.YtlhmbncalonomaaDoor.TpB Go.Proofs.YtlhmbncalonomaaDoor.TpH Go.Proofs.YtlhmbncalonomaaDoor.RfH Go.Proofs.YtlhmbncalonomaaDoor.Spc Go.Proofs.YtlhmbncalonomaaDoor.Spd Go.Proofs.YtlhmbncalonomaaDoorW.PrintWords Go.Proofs.YtlhmbncalonomaaDoorW.PrintLast Go.Proofs.YtlhmbncalonomaaDoorW.PrintMore
set_option linter.unusedVariables false
set_option linter.unusedSimpArgs false

theorem spot_none {w : World} {ad : Addr} {v : Value} (h : w.cell? ad = some v) : ∃ b o, ad = ⟨b, o, none⟩ := by
  obtain ⟨b, o, s⟩ := ad
  cases s with
  | none => exact ⟨b, o, rfl⟩
  | some s =>
    unfold World.cell? at h
    split at h <;> simp at h
/-- A file's cells. -/
def rowF (x : S26) (A9 : Option Addr) (c9 : Nat) : List Value := [.string x.f0, .string x.f1, .string x.f2, .string x.f3, .int .i64 x.f4, .int .i64 x.f5, .int .i64 x.f6, .int .i64 x.f7, .int .i64 x.f8, .slice A9 x.f9.length c9]
/-- The file at a place. -/
def fileAt (xs : List S26) (i : Nat) : S26 := xs.getD i z26
theorem fileAt_mem {xs : List S26} {i : Nat} (h : i < xs.length) : fileAt xs i ∈ xs := by
  unfold fileAt
  rw [List.getD_eq_getElem?_getD, List.getElem?_eq_getElem h]
  exact List.getElem_mem _
theorem files_at {w : World} {A : Option Addr} {xs : List S26} (h : Kd.C k26 w A xs.length xs) (i : Nat) (hi : i < xs.length) :
    ∃ b o A9 c9, A = some ⟨b, o, none⟩ ∧ (∀ j u, (rowF (fileAt xs i) A9 c9)[j]? = some u → w.cell? ⟨b, o + i * 10 + j, none⟩ = some u) ∧ (fileAt xs i).f9.length ≤ c9 ∧ (Kd.int .u8).C w A9 (fileAt xs i).f9.length (fileAt xs i).f9 := by
  obtain ⟨ad, c, e, _, hK, hc0⟩ := Kd.C_get h z26 (0 : Nat) (by omega) (by omega)
  obtain ⟨A0, c0, rfl, _, _⟩ := k26_open hK
  have h0 := hc0 0 _ rfl
  rw [show ((0 : Nat) : Int).toNat * k26.sz + 0 = 0 by simp, Addr.add_zero'] at h0
  obtain ⟨b, o, rfl⟩ := spot_none h0
  obtain ⟨ad2, c2, e2, _, hK2, hc2⟩ := Kd.C_get h z26 (i : Nat) (by omega) (by omega)
  rw [e] at e2
  cases e2
  obtain ⟨A9, c9, rfl, l9, g9⟩ := k26_open hK2
  refine ⟨b, o, A9, c9, e, fun j u hj => ?_, l9, g9⟩
  have := hc2 j u hj
  rw [Addr.add_lit, Int.toNat_natCast, show k26.sz = 10 from rfl, ← Nat.add_assoc] at this
  exact this
theorem takes_u8 {W : World} {A : Option Addr} {l : List Int} {c : Nat} (h : (Kd.int .u8).C W A l.length l) : Takes Tryd.prog 24 (.slice A l.length c) l.length 1 (u8s l) W := by
  rcases Nat.eq_zero_or_pos l.length with h0 | h0
  · have : l = [] := List.eq_nil_of_length_eq_zero h0
    subst this
    exact takes_nil Tryd.underlying24
  · obtain ⟨_, _, h2⟩ := h
    obtain ⟨ad, rfl, hc⟩ := h2 h0
    refine takes_slice Tryd.underlying24 (by rw [u8s_length, Nat.mul_one]) (fun j u hj => ?_) u8s_one
    rw [List.getElem?_map] at hj
    obtain ⟨p, hp, rfl⟩ := Option.map_eq_some_iff.1 hj
    obtain ⟨c, _, rfl, hcell⟩ := hc j p hp
    have := hcell 0 _ rfl
    rwa [show j * (Kd.int .u8).sz + 0 = j from Nat.mul_one j] at this
/-- What a Put answers. -/
def okS (x : S26) : Bool := sndF x.f0 x.f1 x.f2 x.f3 x.f4 x.f5 x.f6 x.f7 x.f8 x.f9.length
def recB (x : S26) : List Int := hdL (cutP x.f0).1 (cutP x.f0).2.1 x.f1 x.f2 x.f3 x.f4 x.f5 x.f6 x.f7 x.f9.length x.f8 ++ x.f9 ++ List.replicate (padT x.f9.length - x.f9.length) 0
def putN (xs : List S26) : Nat := 1024 + (xs.map fun x => 512 + padT x.f9.length).sum
def recs (xs : List S26) : List Int := xs.flatMap recB
def putE (xs : List S26) : Int := if 16777216 < putN xs then 1 else if xs.all okS then 0 else 243
def putB (xs : List S26) : List Int := if putE xs = 0 then recs xs ++ List.replicate 1024 0 else []
/-- Small enough that nothing grows out of bounds. -/
structure Small (xs : List S26) : Prop where
  len : xs.length ≤ 1048576
  at_ : ∀ x ∈ xs, x.f0.size + x.f1.size + x.f2.size + x.f3.size ≤ 1048576 ∧ x.f9.length ≤ 1048576
theorem take_snocF (xs : List S26) (i : Nat) (h : i < xs.length) : xs.take (i + 1) = xs.take i ++ [fileAt xs i] := by
  rw [List.take_add_one]
  unfold fileAt
  rw [List.getD_eq_getElem?_getD, List.getElem?_eq_getElem h]
  rfl
theorem putN_succ (xs : List S26) (i : Nat) (h : i < xs.length) : putN (xs.take (i + 1)) = putN (xs.take i) + (512 + padT (fileAt xs i).f9.length) := by
  unfold putN
  rw [take_snocF xs i h, List.map_append, List.sum_append]
  simp
  omega
theorem recs_succ (xs : List S26) (i : Nat) (h : i < xs.length) : recs (xs.take (i + 1)) = recs (xs.take i) ++ recB (fileAt xs i) := by
  unfold recs
  rw [take_snocF xs i h, List.flatMap_append]
  simp
theorem pad_bd (n : Nat) : n ≤ padT n ∧ padT n ≤ n + 511 := by unfold padT; omega
theorem putN_bd (xs : List S26) (hs : Small xs) : ∀ i, i ≤ xs.length → 1024 ≤ putN (xs.take i) ∧ putN (xs.take i) ≤ 1024 + i * 1049600 := by
  intro i
  induction i with
  | zero => intro _; simp [putN]
  | succ i ih =>
    intro hi
    have h1 := ih (by omega)
    have h2 := (hs.at_ _ (fileAt_mem (i := i) (by omega))).2
    have h3 := pad_bd (fileAt xs i).f9.length
    rw [putN_succ xs i (by omega)]
    omega
theorem putN_le (xs : List S26) (hs : Small xs) (i : Nat) (h : i ≤ xs.length) : putN (xs.take i) ≤ putN xs := by
  have : ∀ d, i + d ≤ xs.length → putN (xs.take i) ≤ putN (xs.take (i + d)) := by
    intro d
    induction d with
    | zero => intro _; exact Nat.le_refl _
    | succ d ih =>
      intro hd
      rw [show i + (d + 1) = (i + d) + 1 by omega, putN_succ xs (i + d) (by omega)]
      have := ih (by omega)
      omega
  have h2 := this (xs.length - i) (by omega)
  rwa [show i + (xs.length - i) = xs.length by omega, List.take_length] at h2
theorem okS_facts (x : S26) (h0 : x.f0.size ≤ 1048576) (h : okS x = true) : (cutP x.f0).2.2 = true ∧ (cutP x.f0).1.size ≤ 155 ∧ (cutP x.f0).2.1.size ≤ 100 ∧ x.f1.size ≤ 100 ∧ x.f2.size ≤ 32 ∧ x.f3.size ≤ 32 ∧ (0 ≤ x.f4 ∧ x.f4 ≤ 9) ∧ (0 ≤ x.f5 ∧ x.f5 ≤ 2097151) ∧ (0 ≤ x.f6 ∧ x.f6 ≤ 2097151) ∧ (0 ≤ x.f7 ∧ x.f7 ≤ 2097151) ∧ (0 ≤ x.f8 ∧ x.f8 ≤ 8589934591) := by
  unfold okS sndF sndB at h
  simp only [Bool.cond_eq_ite] at h
  split at h
  · cases h
  · rename_i h1
    split at h
    · cases h
    · rename_i h2
      split at h
      · cases h
      · rename_i h3
        split at h
        · cases h
        · rename_i h4
          simp only [Bool.or_eq_true, Bool.and_eq_true, decide_eq_true_eq, not_or, not_and, Bool.not_eq_true, Bool.not_eq_false', inM] at h1 h2 h3 h4 h
          obtain ⟨c1, c2, c3, c4⟩ := (cuts x.f0 h0).2.2.2 h.1
          simp at h1 h2 h3 h4
          refine ⟨h.1, c2, c3, by omega, by omega, by omega, ?_, by omega, by omega, by omega, by omega⟩
          by_cases e0 : x.f4 = 0
          · omega
          · by_cases e2 : x.f4 = 2
            · omega
            · have := h1.1 e0 e2
              omega
theorem recB_length (x : S26) (h0 : x.f0.size ≤ 1048576) (h : okS x = true) : (recB x).length = 512 + padT x.f9.length := by
  obtain ⟨_, hp, hr, h1, h2, h3, _⟩ := okS_facts x h0 h
  have hs := fsH_length (cutP x.f0).1 (cutP x.f0).2.1 x.f1 x.f2 x.f3 x.f4 x.f5 x.f6 x.f7 x.f9.length x.f8 (digs 6 (sumH (cutP x.f0).1 (cutP x.f0).2.1 x.f1 x.f2 x.f3 x.f4 x.f5 x.f6 x.f7 x.f9.length x.f8) ++ [0, 32]) hp hr h1 h2 h3 (by simp [digs_length])
  have := pad_bd x.f9.length
  unfold recB hdL
  rw [List.length_append, List.length_append, hs, List.length_replicate]
  omega
theorem recs_length (xs : List S26) (hs : Small xs) : ∀ i, i ≤ xs.length → (∀ j, j < i → okS (fileAt xs j) = true) → (recs (xs.take i)).length + 1024 = putN (xs.take i) := by
  intro i
  induction i with
  | zero => intro _ _; simp [recs, putN]
  | succ i ih =>
    intro hi hok
    have h1 := ih (by omega) (fun j hj => hok j (by omega))
    have h2 := (hs.at_ _ (fileAt_mem (i := i) (by omega))).1
    rw [recs_succ xs i (by omega), putN_succ xs i (by omega), List.length_append, recB_length _ (by omega) (hok i (by omega))]
    omega
theorem all_of (xs : List S26) (h : ∀ j, j < xs.length → okS (fileAt xs j) = true) : xs.all okS = true := by
  rw [List.all_eq_true]
  intro x hx
  obtain ⟨j, hj, e⟩ := List.mem_iff_getElem.1 hx
  have := h j hj
  unfold fileAt at this
  rw [List.getD_eq_getElem?_getD, List.getElem?_eq_getElem hj] at this
  rw [← e]
  exact this
theorem not_all (xs : List S26) (j : Nat) (hj : j < xs.length) (h : okS (fileAt xs j) = false) : xs.all okS = false := by
  cases ha : xs.all okS with
  | false => rfl
  | true =>
    rw [List.all_eq_true] at ha
    rw [ha _ (fileAt_mem hj)] at h
    cases h
theorem putE1 {xs : List S26} (h : 16777216 < putN xs) : putE xs = 1 ∧ putB xs = [] := by
  have : putE xs = 1 := by unfold putE; rw [if_pos h]
  exact ⟨this, by unfold putB; rw [this, if_neg (by decide)]⟩
theorem putE2 {xs : List S26} (h : ¬ 16777216 < putN xs) (ha : xs.all okS = false) : putE xs = 243 ∧ putB xs = [] := by
  have : putE xs = 243 := by unfold putE; rw [if_neg h, ha]; rfl
  exact ⟨this, by unfold putB; rw [this, if_neg (by decide)]⟩
theorem putE0 {xs : List S26} (h : ¬ 16777216 < putN xs) (ha : xs.all okS = true) : putE xs = 0 ∧ putB xs = recs xs ++ List.replicate 1024 0 := by
  have : putE xs = 0 := by unfold putE; rw [if_neg h, ha]; rfl
  exact ⟨this, by unfold putB; rw [this, if_pos rfl]⟩
/-! ### The reference's header in bytes -/
theorem fldL_full {l : List Int} {n : Nat} (h : l.length = n) : fldL n l = l := by unfold fldL; rw [h, Nat.sub_self]; simp
theorem hdr_bn (p r f1 f2 f3 : ByteArray) (f4 f5 f6 f7 n9 f8 : Int) (sm : ByteArray) (h4 : 0 ≤ f4 ∧ f4 ≤ 9) (hp : p.size ≤ 155) (hr : r.size ≤ 100) (h1 : f1.size ≤ 100) (h2 : f2.size ≤ 32) (h3 : f3.size ≤ 32) (hs : sm.size = 8) :
    bn (hdrS p r f1 f2 f3 f4 f5 f6 f7 n9 f8 sm) = flat (fsH p r f1 f2 f3 f4 f5 f6 f7 n9 f8 (bn sm)) := by
  have z1 : (fill r 100).size = 100 := fill_size _ _ hr
  have z5 : (fill (octS 7 f5) 8).size = 8 := fill_size _ _ (by rw [octS_size]; omega)
  have z6 : (fill (octS 7 f6) 8).size = 8 := fill_size _ _ (by rw [octS_size]; omega)
  have z7 : (fill (octS 7 f7) 8).size = 8 := fill_size _ _ (by rw [octS_size]; omega)
  have z9 : (fill (octS 11 n9) 12).size = 12 := fill_size _ _ (by rw [octS_size]; omega)
  have z8 : (fill (octS 11 f8) 12).size = 12 := fill_size _ _ (by rw [octS_size]; omega)
  have zl : (fill f1 100).size = 100 := fill_size _ _ h1
  have zu : (fill us5 6).size = 6 := fill_size _ _ (by decide)
  have z2 : (fill f2 32).size = 32 := fill_size _ _ h2
  have z3 : (fill f3 32).size = 32 := fill_size _ _ h3
  have z0 : (fill (octS 7 0) 8).size = 8 := fill_size _ _ (by rw [octS_size]; omega)
  have zp : (fill p 155).size = 155 := fill_size _ _ hp
  have y1 : (strOfNums [48 + f4]).size = 1 := strOfNums_size _
  have y2 : (⟨#[48, 48]⟩ : ByteArray).size = 2 := rfl
  have hz5 : (h5S p r f1 f2 f3 f4 f5 f6 f7 n9 f8 sm).size = 500 := by unfold h5S h4S h3S h2S; simp only [ByteArray.size_append]; omega
  have e1 : bn (strOfNums [48 + f4]) = [48 + f4] := bn_strOfNums _ (fun x hx => by obtain rfl := List.mem_singleton.1 hx; omega)
  have e2 : fldL 6 (bn us5) ++ bn ⟨#[48, 48]⟩ = fldL 8 (bn magic) := by decide +kernel
  have e3 : fldL 8 (bn sm) = bn sm := fldL_full (by rw [bn_length, hs])
  have e4 : fldL 1 [48 + f4] = [48 + f4] := fldL_full rfl
  have e5 : fldL 512 (bn (h5S p r f1 f2 f3 f4 f5 f6 f7 n9 f8 sm)) = bn (h5S p r f1 f2 f3 f4 f5 f6 f7 n9 f8 sm) ++ fldL 12 [] := by
    unfold fldL
    rw [bn_length, hz5]
    rfl
  unfold hdrS
  rw [bn_fill _ _ (by omega), e5]
  unfold h5S h4S h3S h2S fsH
  simp only [bn_app, flat, List.append_nil]
  rw [bn_fill _ _ hr, bn_fill _ _ (by rw [octS_size]; omega), bn_fill _ _ (by rw [octS_size]; omega), bn_fill _ _ (by rw [octS_size]; omega), bn_fill _ _ (by rw [octS_size]; omega), bn_fill _ _ (by rw [octS_size]; omega), bn_fill _ _ h1, bn_fill us5 6 (by decide), bn_fill _ _ h2, bn_fill _ _ h3, bn_fill _ _ (by rw [octS_size]; omega), bn_fill _ _ hp, e1, e3, e4, ← e2]
  simp only [bn_oct, List.append_assoc]
def blank8 : ByteArray := ⟨#[32, 32, 32, 32, 32, 32, 32, 32]⟩
def sum8 (n : Int) : ByteArray := octS 6 n ++ fill ⟨#[]⟩ 1 ++ ⟨#[32]⟩
theorem sum8_size (n : Int) : (sum8 n).size = 8 := by
  unfold sum8
  have : (fill ⟨#[]⟩ 1).size = 1 := fill_size _ _ (by decide)
  simp only [ByteArray.size_append, octS_size, this]
  rfl
theorem sum8_bn (n : Int) : bn (sum8 n) = digs 6 n ++ [0, 32] := by
  unfold sum8
  rw [bn_app, bn_app, bn_oct, bn_fill _ _ (by decide), List.append_assoc]
  congr 1
theorem sum_blank (p r f1 f2 f3 : ByteArray) (f4 f5 f6 f7 n9 f8 : Int) (h4 : 0 ≤ f4 ∧ f4 ≤ 9) (hp : p.size ≤ 155) (hr : r.size ≤ 100) (h1 : f1.size ≤ 100) (h2 : f2.size ≤ 32) (h3 : f3.size ≤ 32) :
    sumTo (bn (hdrS p r f1 f2 f3 f4 f5 f6 f7 n9 f8 blank8)) (hdrS p r f1 f2 f3 f4 f5 f6 f7 n9 f8 blank8).size = sumH p r f1 f2 f3 f4 f5 f6 f7 n9 f8 := by
  unfold sumTo
  rw [List.take_of_length_le (by rw [bn_length]; omega), hdr_bn p r f1 f2 f3 f4 f5 f6 f7 n9 f8 blank8 h4 hp hr h1 h2 h3 rfl]
  rfl
theorem hdr_hdL (p r f1 f2 f3 : ByteArray) (f4 f5 f6 f7 n9 f8 : Int) (h4 : 0 ≤ f4 ∧ f4 ≤ 9) (hp : p.size ≤ 155) (hr : r.size ≤ 100) (h1 : f1.size ≤ 100) (h2 : f2.size ≤ 32) (h3 : f3.size ≤ 32) :
    bn (hdrS p r f1 f2 f3 f4 f5 f6 f7 n9 f8 (sum8 (sumH p r f1 f2 f3 f4 f5 f6 f7 n9 f8))) = hdL p r f1 f2 f3 f4 f5 f6 f7 n9 f8 := by
  rw [hdr_bn p r f1 f2 f3 f4 f5 f6 f7 n9 f8 _ h4 hp hr h1 h2 h3 (sum8_size _), sum8_bn]
  rfl
end Go.Proofs.YtlhmbncalonomaaDoor.Fil
