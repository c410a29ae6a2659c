/- Plain law: a header's bytes are its fields, one behind the other. -/
import Derived.Test.YtlhmbncalonomaaDoorHead
import Derived.Test.YtlhmbncalonomaaDoorSnd
import Derived.Test.YtlhmbncalonomaaDoorTpB
namespace Go.Proofs.YtlhmbncalonomaaDoor.TpH
open Go.RowKit Go.Proofs.YtlhmbncalonomaaDoor.Q Go.Proofs.YtlhmbncalonomaaDoor.Cpy Go.Proofs.YtlhmbncalonomaaDoor.Hand Go.Proofs.YtlhmbncalonomaaDoor.Arr Go.Proofs.YtlhmbncalonomaaDoor.Sx Go.Proofs.YtlhmbncalonomaaDoor.Head Go.Proofs.YtlhmbncalonomaaDoor.Snd Go.Proofs.YtlhmbncalonomaaDoor.TpB Go.Proofs.YtlhmbncalonomaaDoorW.PrintWords Go.Proofs.YtlhmbncalonomaaDoorW.PrintLast Go.Proofs.YtlhmbncalonomaaDoorW.PrintMore
set_option linter.unusedVariables false
set_option linter.unusedSimpArgs false
/-! ### A header is its fields, each filled up with zeros -/
def fldL (n : Nat) (l : List Int) : List Int := l ++ List.replicate (n - l.length) 0
def flat : List (Nat × List Int) → List Int
  | [] => []
  | p :: r => fldL p.1 p.2 ++ flat r
def offs (fs : List (Nat × List Int)) (j : Nat) : Nat := ((fs.take j).map (·.1)).sum
def okF (fs : List (Nat × List Int)) : Prop := ∀ p ∈ fs, p.2.length ≤ p.1
theorem fldL_length {n : Nat} {l : List Int} (h : l.length ≤ n) : (fldL n l).length = n := by
  unfold fldL; rw [List.length_append, List.length_replicate]; omega
theorem splice_zero (L l : List Int) : splice L 0 l = l ++ L.drop l.length := by simp [splice]
theorem splice_app (A B l : List Int) (o : Nat) : splice (A ++ B) (A.length + o) l = A ++ splice B o l := by
  unfold splice
  rw [List.take_append, List.drop_append]
  simp [List.take_of_length_le, List.drop_eq_nil_of_le, Nat.add_assoc]
theorem splice_in (A B l : List Int) (h : l.length ≤ A.length) : splice (A ++ B) 0 l = splice A 0 l ++ B := by
  rw [splice_zero, splice_zero, List.drop_append, show l.length - A.length = 0 by omega, List.drop_zero, List.append_assoc]
theorem splice_flat : ∀ (fs : List (Nat × List Int)) (j n : Nat) (l0 l : List Int), okF fs → fs[j]? = some (n, l0) → l.length ≤ n → splice (flat fs) (offs fs j) l = flat (fs.set j (n, splice (fldL n l0) 0 l))
  | [], j, n, l0, l, ho, h, hl => by simp at h
  | p :: r, 0, n, l0, l, ho, h, hl => by
    simp at h; subst h
    have h0 : l0.length ≤ n := ho (n, l0) List.mem_cons_self
    have h1 := fldL_length h0
    show splice (fldL n l0 ++ flat r) 0 l = fldL n (splice (fldL n l0) 0 l) ++ flat r
    rw [splice_in _ _ _ (by omega)]
    congr 1
    have h2 : (splice (fldL n l0) 0 l).length = n := by rw [length_splice _ _ _ (by omega)]; exact h1
    unfold fldL at h2 ⊢
    rw [h2, Nat.sub_self]
    simp
  | p :: r, j + 1, n, l0, l, ho, h, hl => by
    have h0 : p.2.length ≤ p.1 := ho p List.mem_cons_self
    have h1 := fldL_length h0
    have ih := splice_flat r j n l0 l (fun q hq => ho q (List.mem_cons_of_mem _ hq)) (by simpa using h) hl
    show splice (fldL p.1 p.2 ++ flat r) (offs (p :: r) (j + 1)) l = fldL p.1 p.2 ++ flat (r.set j _)
    rw [show offs (p :: r) (j + 1) = (fldL p.1 p.2).length + offs r j by simp [offs, h1], splice_app, ih]
theorem fld_empty (n : Nat) (l : List Int) (h : l.length ≤ n) : fldL n (splice (fldL n []) 0 l) = fldL n l := by
  unfold fldL
  rw [splice_zero]
  simp
  omega
theorem flat_set : ∀ (fs : List (Nat × List Int)) (j n : Nat) (a b : List Int), fldL n a = fldL n b → flat (fs.set j (n, a)) = flat (fs.set j (n, b))
  | [], j, n, a, b, h => rfl
  | p :: r, 0, n, a, b, h => by simp [flat, h]
  | p :: r, j + 1, n, a, b, h => by simp only [List.set_cons_succ, flat]; rw [flat_set r j n a b h]
theorem splice_flat0 (fs : List (Nat × List Int)) (j n off : Nat) (l : List Int) (ho : okF fs) (h : fs[j]? = some (n, [])) (hl : l.length ≤ n) (hoff : offs fs j = off) : splice (flat fs) off l = flat (fs.set j (n, l)) := by
  subst hoff
  rw [splice_flat fs j n [] l ho h hl]
  exact flat_set _ _ _ _ _ (fld_empty n l hl)
theorem okF_set {fs : List (Nat × List Int)} (h : okF fs) (j n : Nat) (l : List Int) (hl : l.length ≤ n) : okF (fs.set j (n, l)) := fun p hp => by
  rcases List.mem_or_eq_of_mem_set hp with hp | rfl
  · exact h p hp
  · exact hl
theorem set_splice (L : List Int) (i : Nat) (v : Int) (h : i < L.length) : L.set i v = splice L i [v] := by
  unfold splice
  rw [List.set_eq_take_append_cons_drop, if_pos h]
  simp
theorem splice_set (L l : List Int) (off : Nat) (v : Int) (h : off + l.length < L.length) : (splice L off l).set (off + l.length) v = splice L off (l ++ [v]) := by
  have hA : (L.take off).length = off := by rw [List.length_take]; omega
  unfold splice
  rw [List.set_append_right _ _ (by omega), hA, Nat.add_sub_cancel_left, List.set_append_right _ _ (Nat.le_refl _), Nat.sub_self, List.drop_eq_getElem_cons h, List.set_cons_zero, List.length_append, List.append_assoc]
  rfl
/-- The fields of a header. -/
def fs0 : List (Nat × List Int) := [(100, []), (8, []), (8, []), (8, []), (12, []), (12, []), (8, []), (1, []), (100, []), (8, []), (32, []), (32, []), (8, []), (8, []), (155, []), (12, [])]
theorem Z_flat : Z = flat fs0 := by decide +kernel
def fsH (p r f1 f2 f3 : ByteArray) (f4 f5 f6 f7 n9 f8 : Int) (sum : List Int) : List (Nat × List Int) :=
  [(100, bn r), (8, digs 7 f5), (8, digs 7 f6), (8, digs 7 f7), (12, digs 11 n9), (12, digs 11 f8), (8, sum), (1, [48 + f4]), (100, bn f1), (8, bn magic), (32, bn f2), (32, bn f3), (8, digs 7 0), (8, digs 7 0), (155, bn p), (12, [])]
theorem okF_H (p r f1 f2 f3 : ByteArray) (f4 f5 f6 f7 n9 f8 : Int) (sum : List Int) (hp : p.size ≤ 155) (hr : r.size ≤ 100) (h1 : f1.size ≤ 100) (h2 : f2.size ≤ 32) (h3 : f3.size ≤ 32) (hs : sum.length ≤ 8) : okF (fsH p r f1 f2 f3 f4 f5 f6 f7 n9 f8 sum) := fun q hq => by
  have hm : magic.size = 8 := rfl
  simp only [fsH, List.mem_cons, List.not_mem_nil, or_false] at hq
  rcases hq with rfl | rfl | rfl | rfl | rfl | rfl | rfl | rfl | rfl | rfl | rfl | rfl | rfl | rfl | rfl | rfl <;> simp [bn_length, digs_length, hm] <;> omega
theorem flat_length : ∀ (fs : List (Nat × List Int)), okF fs → (flat fs).length = (fs.map (·.1)).sum
  | [], _ => rfl
  | p :: r, h => by
    simp only [flat, List.length_append, List.map_cons, List.sum_cons]
    rw [fldL_length (h p List.mem_cons_self), flat_length r (fun q hq => h q (List.mem_cons_of_mem _ hq))]
theorem fsH_length (p r f1 f2 f3 : ByteArray) (f4 f5 f6 f7 n9 f8 : Int) (sum : List Int) (hp : p.size ≤ 155) (hr : r.size ≤ 100) (h1 : f1.size ≤ 100) (h2 : f2.size ≤ 32) (h3 : f3.size ≤ 32) (hs : sum.length ≤ 8) : (flat (fsH p r f1 f2 f3 f4 f5 f6 f7 n9 f8 sum)).length = 512 := by
  rw [flat_length _ (okF_H p r f1 f2 f3 f4 f5 f6 f7 n9 f8 sum hp hr h1 h2 h3 hs)]
  simp [fsH]
/-- These bytes are these fields. -/
def Is (L : List Int) (fs : List (Nat × List Int)) : Prop := L = flat fs ∧ okF fs
theorem Is.spl {L : List Int} {fs : List (Nat × List Int)} (h : Is L fs) (j n off : Nat) (l : List Int) (hj : fs[j]? = some (n, [])) (hl : l.length ≤ n) (ho : offs fs j = off) : Is (splice L off l) (fs.set j (n, l)) := by
  obtain ⟨rfl, h2⟩ := h
  exact ⟨splice_flat0 fs j n off l h2 hj hl ho, okF_set h2 j n l hl⟩
theorem Is.put {L : List Int} {fs : List (Nat × List Int)} (h : Is L fs) (j off : Nat) (v : Int) (hj : fs[j]? = some (1, [])) (ho : offs fs j = off) (hlt : Nat.blt off (fs.map (·.1)).sum = true) : Is (L.set off v) (fs.set j (1, [v])) := by
  have hl : off < L.length := by rw [h.1, flat_length _ h.2]; exact Nat.lt_of_succ_le (Nat.le_of_ble_eq_true hlt)
  rw [set_splice L off v hl]
  exact h.spl j 1 off [v] hj (by simp) ho
theorem okF0 : okF fs0 := fun q hq => by
  simp only [fs0, List.mem_cons, List.not_mem_nil, or_false] at hq
  rcases hq with rfl | rfl | rfl | rfl | rfl | rfl | rfl | rfl | rfl | rfl | rfl | rfl | rfl | rfl | rfl | rfl <;> simp
theorem dl7 (n : Int) : (digs 7 n).length ≤ 8 := by rw [digs_length]; omega
theorem dl11 (n : Int) : (digs 11 n).length ≤ 12 := by rw [digs_length]; omega
theorem bl {s : ByteArray} {n : Nat} (h : s.size ≤ n) : (bn s).length ≤ n := by rw [bn_length]; exact h
theorem hd1_is (p r f1 f2 f3 : ByteArray) (f4 : Int) (hp : p.size ≤ 155) (hr : r.size ≤ 100) (h1 : f1.size ≤ 100) (h2 : f2.size ≤ 32) (h3 : f3.size ≤ 32) : Is (hd1 p r f1 f2 f3 f4)
    [(100, bn r), (8, []), (8, []), (8, []), (12, []), (12, []), (8, []), (1, [48 + f4]), (100, bn f1), (8, bn magic), (32, bn f2), (32, bn f3), (8, []), (8, []), (155, bn p), (12, [])] := by
  have s0 : Is Z [(100, []), (8, []), (8, []), (8, []), (12, []), (12, []), (8, []), (1, []), (100, []), (8, []), (32, []), (32, []), (8, []), (8, []), (155, []), (12, [])] := ⟨Z_flat, okF0⟩
  have s1 : Is (splice Z 0 (bn r)) [(100, bn r), (8, []), (8, []), (8, []), (12, []), (12, []), (8, []), (1, []), (100, []), (8, []), (32, []), (32, []), (8, []), (8, []), (155, []), (12, [])] := s0.spl 0 100 0 (bn r) (by simp) (bl hr) (by simp [offs])
  have s2 : Is (splice (splice Z 0 (bn r)) 345 (bn p)) [(100, bn r), (8, []), (8, []), (8, []), (12, []), (12, []), (8, []), (1, []), (100, []), (8, []), (32, []), (32, []), (8, []), (8, []), (155, bn p), (12, [])] := s1.spl 14 155 345 (bn p) (by simp) (bl hp) (by simp [offs])
  have s3 : Is (splice (splice (splice Z 0 (bn r)) 345 (bn p)) 157 (bn f1)) [(100, bn r), (8, []), (8, []), (8, []), (12, []), (12, []), (8, []), (1, []), (100, bn f1), (8, []), (32, []), (32, []), (8, []), (8, []), (155, bn p), (12, [])] := s2.spl 8 100 157 (bn f1) (by simp) (bl h1) (by simp [offs])
  have s4 : Is (splice (splice (splice (splice Z 0 (bn r)) 345 (bn p)) 157 (bn f1)) 265 (bn f2)) [(100, bn r), (8, []), (8, []), (8, []), (12, []), (12, []), (8, []), (1, []), (100, bn f1), (8, []), (32, bn f2), (32, []), (8, []), (8, []), (155, bn p), (12, [])] := s3.spl 10 32 265 (bn f2) (by simp) (bl h2) (by simp [offs])
  have s5 : Is (splice (splice (splice (splice (splice Z 0 (bn r)) 345 (bn p)) 157 (bn f1)) 265 (bn f2)) 297 (bn f3)) [(100, bn r), (8, []), (8, []), (8, []), (12, []), (12, []), (8, []), (1, []), (100, bn f1), (8, []), (32, bn f2), (32, bn f3), (8, []), (8, []), (155, bn p), (12, [])] := s4.spl 11 32 297 (bn f3) (by simp) (bl h3) (by simp [offs])
  have s6 : Is (splice (splice (splice (splice (splice (splice Z 0 (bn r)) 345 (bn p)) 157 (bn f1)) 265 (bn f2)) 297 (bn f3)) 257 (bn magic)) [(100, bn r), (8, []), (8, []), (8, []), (12, []), (12, []), (8, []), (1, []), (100, bn f1), (8, bn magic), (32, bn f2), (32, bn f3), (8, []), (8, []), (155, bn p), (12, [])] := s5.spl 9 8 257 (bn magic) (by simp) (Nat.le_refl 8) (by simp [offs])
  exact s6.put 7 156 (48 + f4) (by simp) (by simp [offs]) (by simp)
theorem hd2_is {L : List Int} {a b c d e f : List Int} {v : Int} (f5 f6 f7 n9 f8 : Int)
    (s0 : Is L [(100, a), (8, []), (8, []), (8, []), (12, []), (12, []), (8, []), (1, [v]), (100, b), (8, c), (32, d), (32, e), (8, []), (8, []), (155, f), (12, [])]) :
    Is (hd2 L f5 f6 f7 n9 f8) [(100, a), (8, digs 7 f5), (8, digs 7 f6), (8, digs 7 f7), (12, digs 11 n9), (12, digs 11 f8), (8, digs 7 0), (1, [v]), (100, b), (8, c), (32, d), (32, e), (8, digs 7 0), (8, digs 7 0), (155, f), (12, [])] := by
  have s1 : Is (splice L 100 (digs 7 f5)) [(100, a), (8, digs 7 f5), (8, []), (8, []), (12, []), (12, []), (8, []), (1, [v]), (100, b), (8, c), (32, d), (32, e), (8, []), (8, []), (155, f), (12, [])] := s0.spl 1 8 100 (digs 7 f5) (by simp) (dl7 _) (by simp [offs])
  have s2 : Is (splice (splice L 100 (digs 7 f5)) 108 (digs 7 f6)) [(100, a), (8, digs 7 f5), (8, digs 7 f6), (8, []), (12, []), (12, []), (8, []), (1, [v]), (100, b), (8, c), (32, d), (32, e), (8, []), (8, []), (155, f), (12, [])] := s1.spl 2 8 108 (digs 7 f6) (by simp) (dl7 _) (by simp [offs])
  have s3 : Is (splice (splice (splice L 100 (digs 7 f5)) 108 (digs 7 f6)) 116 (digs 7 f7)) [(100, a), (8, digs 7 f5), (8, digs 7 f6), (8, digs 7 f7), (12, []), (12, []), (8, []), (1, [v]), (100, b), (8, c), (32, d), (32, e), (8, []), (8, []), (155, f), (12, [])] := s2.spl 3 8 116 (digs 7 f7) (by simp) (dl7 _) (by simp [offs])
  have s4 : Is (splice (splice (splice (splice L 100 (digs 7 f5)) 108 (digs 7 f6)) 116 (digs 7 f7)) 124 (digs 11 n9)) [(100, a), (8, digs 7 f5), (8, digs 7 f6), (8, digs 7 f7), (12, digs 11 n9), (12, []), (8, []), (1, [v]), (100, b), (8, c), (32, d), (32, e), (8, []), (8, []), (155, f), (12, [])] := s3.spl 4 12 124 (digs 11 n9) (by simp) (dl11 _) (by simp [offs])
  have s5 : Is (splice (splice (splice (splice (splice L 100 (digs 7 f5)) 108 (digs 7 f6)) 116 (digs 7 f7)) 124 (digs 11 n9)) 136 (digs 11 f8)) [(100, a), (8, digs 7 f5), (8, digs 7 f6), (8, digs 7 f7), (12, digs 11 n9), (12, digs 11 f8), (8, []), (1, [v]), (100, b), (8, c), (32, d), (32, e), (8, []), (8, []), (155, f), (12, [])] := s4.spl 5 12 136 (digs 11 f8) (by simp) (dl11 _) (by simp [offs])
  have s6 : Is (splice (splice (splice (splice (splice (splice L 100 (digs 7 f5)) 108 (digs 7 f6)) 116 (digs 7 f7)) 124 (digs 11 n9)) 136 (digs 11 f8)) 148 (digs 7 0)) [(100, a), (8, digs 7 f5), (8, digs 7 f6), (8, digs 7 f7), (12, digs 11 n9), (12, digs 11 f8), (8, digs 7 0), (1, [v]), (100, b), (8, c), (32, d), (32, e), (8, []), (8, []), (155, f), (12, [])] := s5.spl 6 8 148 (digs 7 0) (by simp) (dl7 _) (by simp [offs])
  have s7 : Is (splice (splice (splice (splice (splice (splice (splice L 100 (digs 7 f5)) 108 (digs 7 f6)) 116 (digs 7 f7)) 124 (digs 11 n9)) 136 (digs 11 f8)) 148 (digs 7 0)) 329 (digs 7 0)) [(100, a), (8, digs 7 f5), (8, digs 7 f6), (8, digs 7 f7), (12, digs 11 n9), (12, digs 11 f8), (8, digs 7 0), (1, [v]), (100, b), (8, c), (32, d), (32, e), (8, digs 7 0), (8, []), (155, f), (12, [])] := s6.spl 12 8 329 (digs 7 0) (by simp) (dl7 _) (by simp [offs])
  have s8 : Is (splice (splice (splice (splice (splice (splice (splice (splice L 100 (digs 7 f5)) 108 (digs 7 f6)) 116 (digs 7 f7)) 124 (digs 11 n9)) 136 (digs 11 f8)) 148 (digs 7 0)) 329 (digs 7 0)) 337 (digs 7 0)) [(100, a), (8, digs 7 f5), (8, digs 7 f6), (8, digs 7 f7), (12, digs 11 n9), (12, digs 11 f8), (8, digs 7 0), (1, [v]), (100, b), (8, c), (32, d), (32, e), (8, digs 7 0), (8, digs 7 0), (155, f), (12, [])] := s7.spl 13 8 337 (digs 7 0) (by simp) (dl7 _) (by simp [offs])
  unfold hd2 hdn
  simp only [ns8, List.take_succ_cons, List.take_zero, List.foldl_cons, List.foldl_nil]
  exact s8
theorem hd2_flat (p r f1 f2 f3 : ByteArray) (f4 f5 f6 f7 n9 f8 : Int) (hp : p.size ≤ 155) (hr : r.size ≤ 100) (h1 : f1.size ≤ 100) (h2 : f2.size ≤ 32) (h3 : f3.size ≤ 32) : hd2 (hd1 p r f1 f2 f3 f4) f5 f6 f7 n9 f8 = flat (fsH p r f1 f2 f3 f4 f5 f6 f7 n9 f8 (digs 7 0)) :=
  (hd2_is f5 f6 f7 n9 f8 (hd1_is p r f1 f2 f3 f4 hp hr h1 h2 h3)).1
theorem fsH_sum (p r f1 f2 f3 : ByteArray) (f4 f5 f6 f7 n9 f8 : Int) (s0 s : List Int) (hp : p.size ≤ 155) (hr : r.size ≤ 100) (h1 : f1.size ≤ 100) (h2 : f2.size ≤ 32) (h3 : f3.size ≤ 32) (hs0 : s0.length ≤ 8) (hs : s.length = 8) :
    splice (flat (fsH p r f1 f2 f3 f4 f5 f6 f7 n9 f8 s0)) 148 s = flat (fsH p r f1 f2 f3 f4 f5 f6 f7 n9 f8 s) := by
  have e := splice_flat _ 6 8 s0 s (okF_H p r f1 f2 f3 f4 f5 f6 f7 n9 f8 s0 hp hr h1 h2 h3 hs0) rfl (by omega)
  rw [show offs (fsH p r f1 f2 f3 f4 f5 f6 f7 n9 f8 s0) 6 = 148 from rfl] at e
  rw [e]
  have e2 : fldL 8 (splice (fldL 8 s0) 0 s) = fldL 8 s := by
    have : (fldL 8 s0).length = 8 := fldL_length hs0
    rw [splice_zero, List.drop_eq_nil_of_le (by omega), List.append_nil]
  rw [flat_set _ _ _ _ _ e2]
  rfl
theorem tot_sum (L : List Int) (hL : L.length = 512) : tot L 512 = (splice L 148 (List.replicate 8 32)).sum := by
  have hl : (splice L 148 (List.replicate 8 32)).length = 512 := by rw [length_splice _ _ _ (by simp; omega)]; exact hL
  have g : ∀ i, i ≤ 512 → tot L i = sumTo (splice L 148 (List.replicate 8 32)) i := by
    intro i
    induction i with
    | zero => intro _; simp [tot, sumTo]
    | succ i ih =>
      intro hi
      rw [sumTo_succ _ _ (by omega), ← ih (by omega)]
      show tot L i + _ = _
      congr 1
      unfold splice
      rw [List.getD_eq_getElem?_getD (l := List.take 148 L ++ _), List.getElem?_append, List.length_take, Nat.min_eq_left (by omega)]
      by_cases h1 : i < 148
      · rw [if_neg (by omega), if_pos h1, List.getElem?_take, if_pos h1, List.getD_eq_getElem?_getD]
      · rw [if_neg h1, List.getElem?_append, List.length_replicate]
        by_cases h2 : i < 156
        · rw [if_pos (by omega), if_pos (by omega), List.getElem?_replicate, if_pos (by omega)]
          rfl
        · rw [if_neg (by omega), if_neg (by omega), List.getElem?_drop, List.getD_eq_getElem?_getD, show 148 + 8 + (i - 148 - 8) = i by omega]
  rw [g 512 (by omega)]
  unfold sumTo
  rw [List.take_of_length_le (by omega)]
/-- The sum that stands in a header. -/
def sumH (p r f1 f2 f3 : ByteArray) (f4 f5 f6 f7 n9 f8 : Int) : Int := (flat (fsH p r f1 f2 f3 f4 f5 f6 f7 n9 f8 (List.replicate 8 32))).sum
/-- A header's bytes. -/
def hdL (p r f1 f2 f3 : ByteArray) (f4 f5 f6 f7 n9 f8 : Int) : List Int := flat (fsH p r f1 f2 f3 f4 f5 f6 f7 n9 f8 (digs 6 (sumH p r f1 f2 f3 f4 f5 f6 f7 n9 f8) ++ [0, 32]))
theorem head_flat (p r f1 f2 f3 : ByteArray) (f4 f5 f6 f7 n9 f8 : Int) (hp : p.size ≤ 155) (hr : r.size ≤ 100) (h1 : f1.size ≤ 100) (h2 : f2.size ≤ 32) (h3 : f3.size ≤ 32) :
    hd3 (hd2 (hd1 p r f1 f2 f3 f4) f5 f6 f7 n9 f8) (tot (hd2 (hd1 p r f1 f2 f3 f4) f5 f6 f7 n9 f8) 512) = hdL p r f1 f2 f3 f4 f5 f6 f7 n9 f8 := by
  have h7 : (digs 7 0).length = 7 := digs_length 7 0
  have hl := fsH_length p r f1 f2 f3 f4 f5 f6 f7 n9 f8 (digs 7 0) hp hr h1 h2 h3 (by omega)
  rw [hd2_flat p r f1 f2 f3 f4 f5 f6 f7 n9 f8 hp hr h1 h2 h3, tot_sum _ hl, fsH_sum p r f1 f2 f3 f4 f5 f6 f7 n9 f8 (digs 7 0) _ hp hr h1 h2 h3 (by omega) rfl]
  show hd3 _ (sumH p r f1 f2 f3 f4 f5 f6 f7 n9 f8) = _
  unfold hd3 hdL
  have d6 := digs_length 6 (sumH p r f1 f2 f3 f4 f5 f6 f7 n9 f8)
  have e1 := splice_set (flat (fsH p r f1 f2 f3 f4 f5 f6 f7 n9 f8 (digs 7 0))) (digs 6 (sumH p r f1 f2 f3 f4 f5 f6 f7 n9 f8)) 148 0 (by omega)
  rw [d6] at e1
  rw [show (154 : Nat) = 148 + 6 from rfl, e1]
  have e2 := splice_set (flat (fsH p r f1 f2 f3 f4 f5 f6 f7 n9 f8 (digs 7 0))) (digs 6 (sumH p r f1 f2 f3 f4 f5 f6 f7 n9 f8) ++ [0]) 148 32 (by simp; omega)
  rw [List.length_append, d6] at e2
  rw [show (155 : Nat) = 148 + (6 + [(0 : Int)].length) from rfl, e2, List.append_assoc]
  exact fsH_sum p r f1 f2 f3 f4 f5 f6 f7 n9 f8 (digs 7 0) _ hp hr h1 h2 h3 (by omega) (by simp [d6])
/-! ### The same in texts -/
theorem bn_strOfNums (xs : List Int) (h : ∀ x ∈ xs, 0 ≤ x ∧ x ≤ 255) : bn (strOfNums xs) = xs := by
  unfold bn
  rw [strOfNums_data, List.map_map]
  induction xs with
  | nil => rfl
  | cons x r ih =>
    rw [List.map_cons, ih (fun y hy => h y (List.mem_cons_of_mem _ hy))]
    congr 1
    have := h x List.mem_cons_self
    simp
    omega
theorem bn_app (a b : ByteArray) : bn (a ++ b) = bn a ++ bn b := by unfold bn; simp
theorem bn_fill (s : ByteArray) (n : Nat) (h : s.size ≤ n) : bn (fill s n) = fldL n (bn s) := by
  have hb := bn_length s
  unfold fill
  rw [bn_strOfNums _ (fun x hx => by
    rw [splice_zero] at hx
    rcases List.mem_append.1 hx with hx | hx
    · exact bn_range s x hx
    · have := List.mem_of_mem_drop hx; obtain rfl := List.eq_of_mem_replicate this; omega), splice_zero, List.drop_replicate]
  rfl
theorem bn_oct (m : Nat) (n : Int) : bn (octS m n) = digs m n := bn_strOfNums _ (inrD m n).out
end Go.Proofs.YtlhmbncalonomaaDoor.TpH
