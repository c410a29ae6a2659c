/- Own walks and lemmas, those that this claim leans on: Head, Snd, TpB, Spc, Spd, TpH, RfH, Fil, Fil2, Alk, Twn, Opn, Ld. -/
import Derived.Test.YtlhmbncalonomaaDoorGaA
import Derived.Test.YtlhmbncalonomaaDoorGaB
import Derived.Test.YtlhmbncalonomaaDoorGaE
import Derived.Test.YtlhmbncalonomaaDoorWWords
import Derived.Test.YtlhmbncalonomaaDoorRows
import Derived.Deep.Slices
import Derived.ProofKit
import Derived.OpenShut
import Derived.Carry
import Derived.SizedLaws
import Derived.Lib.LaidTab
import Derived.ChangeArms
import Derived.FnData
namespace Go.Proofs.YtlhmbncalonomaaDoor.Head
open Go.RowKit Go.Proofs.YtlhmbncalonomaaDoor.Q Go.Proofs.YtlhmbncalonomaaDoor.Cpy Go.Proofs.YtlhmbncalonomaaDoor.Hand Go.Proofs.YtlhmbncalonomaaDoor.Arr Go.Proofs.YtlhmbncalonomaaDoor.Sx Go.Proofs.YtlhmbncalonomaaDoorW.PrintWords Go.Proofs.YtlhmbncalonomaaDoorW.PrintLast Go.Proofs.YtlhmbncalonomaaDoorW.PrintMore
attribute [local go_sem] max2_int min2_int max_two min_two max_three min_three max_four min_four
set_option linter.unusedVariables false
set_option linter.unusedSimpArgs false
structure Laid (w : World) : Prop where
  n0 : w.cell? ⟨0, 0, none⟩ = some (.int .i64 100)
  n1 : w.cell? ⟨0, 1, none⟩ = some (.int .i64 8)
  n2 : w.cell? ⟨0, 2, none⟩ = some (.int .i64 108)
  n3 : w.cell? ⟨0, 3, none⟩ = some (.int .i64 8)
  n4 : w.cell? ⟨0, 4, none⟩ = some (.int .i64 116)
  n5 : w.cell? ⟨0, 5, none⟩ = some (.int .i64 8)
  n6 : w.cell? ⟨0, 6, none⟩ = some (.int .i64 124)
  n7 : w.cell? ⟨0, 7, none⟩ = some (.int .i64 12)
  n8 : w.cell? ⟨0, 8, none⟩ = some (.int .i64 136)
  n9 : w.cell? ⟨0, 9, none⟩ = some (.int .i64 12)
  n10 : w.cell? ⟨0, 10, none⟩ = some (.int .i64 148)
  n11 : w.cell? ⟨0, 11, none⟩ = some (.int .i64 8)
  n12 : w.cell? ⟨0, 12, none⟩ = some (.int .i64 329)
  n13 : w.cell? ⟨0, 13, none⟩ = some (.int .i64 8)
  n14 : w.cell? ⟨0, 14, none⟩ = some (.int .i64 337)
  n15 : w.cell? ⟨0, 15, none⟩ = some (.int .i64 8)
  a0 : w.cell? ⟨1, 0, none⟩ = some (.int .i64 0)
  a1 : w.cell? ⟨1, 1, none⟩ = some (.int .i64 100)
  b0 : w.cell? ⟨2, 0, none⟩ = some (.int .i64 345)
  b1 : w.cell? ⟨2, 1, none⟩ = some (.int .i64 155)
  c0 : w.cell? ⟨3, 0, none⟩ = some (.int .i64 157)
  c1 : w.cell? ⟨3, 1, none⟩ = some (.int .i64 100)
  d0 : w.cell? ⟨4, 0, none⟩ = some (.int .i64 265)
  d1 : w.cell? ⟨4, 1, none⟩ = some (.int .i64 32)
  e0 : w.cell? ⟨5, 0, none⟩ = some (.int .i64 297)
  e1 : w.cell? ⟨5, 1, none⟩ = some (.int .i64 32)
  f0 : w.cell? ⟨6, 0, none⟩ = some (.int .i64 257)
  f1 : w.cell? ⟨6, 1, none⟩ = some (.int .i64 8)
theorem Laid.size {w : World} (h : Laid w) : 7 ≤ w.heap.size := by
  rcases Nat.lt_or_ge 6 w.heap.size with h2 | h2
  · exact h2
  · have := h.f0
    simp [World.cell?, Array.getElem?_eq_none h2] at this
theorem Laid.grown {w w' : World} {row : Option Nat} (h : Laid w) (hg : w.grownBy w' row) (hr : ∀ g, row = some g → 7 ≤ g) : Laid w' := by
  have k : ∀ {b off : Nat} {v : Value}, b < 7 → w.cell? ⟨b, off, none⟩ = some v → w'.cell? ⟨b, off, none⟩ = some v := fun hb hc => kept hg hc (fun g hg2 e => by have := hr g hg2; omega)
  exact ⟨k (by omega) h.n0, k (by omega) h.n1, k (by omega) h.n2, k (by omega) h.n3, k (by omega) h.n4, k (by omega) h.n5, k (by omega) h.n6, k (by omega) h.n7, k (by omega) h.n8, k (by omega) h.n9, k (by omega) h.n10, k (by omega) h.n11, k (by omega) h.n12, k (by omega) h.n13, k (by omega) h.n14, k (by omega) h.n15, k (by omega) h.a0, k (by omega) h.a1, k (by omega) h.b0, k (by omega) h.b1, k (by omega) h.c0, k (by omega) h.c1, k (by omega) h.d0, k (by omega) h.d1, k (by omega) h.e0, k (by omega) h.e1, k (by omega) h.f0, k (by omega) h.f1⟩
theorem Laid.below {w w' : World} (h : Laid w) (hg : Below w.heap.size w w') : Laid w' := by
  have hz := h.size
  have k : ∀ {b off : Nat} {v : Value}, b < 7 → w.cell? ⟨b, off, none⟩ = some v → w'.cell? ⟨b, off, none⟩ = some v := fun {b off v} hb hc => by
    simp only [World.cell?, hg.block b (by omega)] at hc ⊢
    exact hc
  exact ⟨k (by omega) h.n0, k (by omega) h.n1, k (by omega) h.n2, k (by omega) h.n3, k (by omega) h.n4, k (by omega) h.n5, k (by omega) h.n6, k (by omega) h.n7, k (by omega) h.n8, k (by omega) h.n9, k (by omega) h.n10, k (by omega) h.n11, k (by omega) h.n12, k (by omega) h.n13, k (by omega) h.n14, k (by omega) h.n15, k (by omega) h.a0, k (by omega) h.a1, k (by omega) h.b0, k (by omega) h.b1, k (by omega) h.c0, k (by omega) h.c1, k (by omega) h.d0, k (by omega) h.d1, k (by omega) h.e0, k (by omega) h.e1, k (by omega) h.f0, k (by omega) h.f1⟩
theorem part_int (g : Nat) (x y : Int) (w : World) (h0 : 0 ≤ x) (h1 : 0 ≤ y) (h5 : x < 512) (hn : x + y ≤ 512) :
    Calls Tryd.prog 31 #[.pointer (some ⟨g, 0, none⟩), .agg #[.int .i64 x, .int .i64 y]] w fun e w' => e = .returned (.slice (some ⟨g, x.toNat, none⟩) y.toNat (512 - x.toNat)) ∧ w.grownBy w' none := by
  obtain ⟨m, rfl⟩ := Int.eq_ofNat_of_zero_le h0
  obtain ⟨n, rfl⟩ := Int.eq_ofNat_of_zero_le h1
  exact part_calls g m n w (by omega) (by omega)
def Z : List Int := List.replicate 512 0
theorem Z_len : Z.length = 512 := List.length_replicate
def magic : ByteArray := ⟨#[117, 115, 116, 97, 114, 0, 48, 48]⟩
def hd1 (p r f1 f2 f3 : ByteArray) (f4 : Int) : List Int :=
  (splice (splice (splice (splice (splice (splice Z 0 (bn r)) 345 (bn p)) 157 (bn f1)) 265 (bn f2)) 297 (bn f3)) 257 (bn magic)).set 156 (48 + f4)
def ns8 (f5 f6 f7 n9 f8 : Int) : List (Nat × Nat × Int) := [(100, 7, f5), (108, 7, f6), (116, 7, f7), (124, 11, n9), (136, 11, f8), (148, 7, 0), (329, 7, 0), (337, 7, 0)]
def hdn (L : List Int) (f5 f6 f7 n9 f8 : Int) (i : Nat) : List Int := ((ns8 f5 f6 f7 n9 f8).take i).foldl (fun L t => splice L t.1 (digs t.2.1 t.2.2)) L
def hd2 (L : List Int) (f5 f6 f7 n9 f8 : Int) : List Int := hdn L f5 f6 f7 n9 f8 8
def hd3 (L : List Int) (n : Int) : List Int := ((splice L 148 (digs 6 n)).set 154 0).set 155 32
theorem size50 : (Tryd.prog.info? 50).map (·.size) = some 512 := by kernel_rfl
structure InR (L : List Int) : Prop where
  out : ∀ x ∈ L, 0 ≤ x ∧ x ≤ 255
theorem InR.spl {L l : List Int} {off : Nat} (h : InR L) (k : InR l) : InR (splice L off l) := ⟨fun x hx => by
  unfold splice at hx
  simp only [List.mem_append] at hx
  rcases hx with hx | hx | hx
  · exact h.out x (List.mem_of_mem_take hx)
  · exact k.out x hx
  · exact h.out x (List.mem_of_mem_drop hx)⟩
theorem InR.set {L : List Int} (h : InR L) (i : Nat) (v : Int) (hv : 0 ≤ v ∧ v ≤ 255) : InR (L.set i v) := ⟨fun x hx => by
  rcases List.mem_or_eq_of_mem_set hx with hx | rfl
  · exact h.out x hx
  · exact hv⟩
theorem inrZ : InR Z := ⟨fun x hx => by
  obtain rfl := List.eq_of_mem_replicate hx
  omega⟩
theorem inrB (s : ByteArray) : InR (bn s) := ⟨fun x hx => by
  obtain ⟨b, _, rfl⟩ := List.mem_map.1 hx
  have := b.toNat_lt
  omega⟩
theorem inrD (m : Nat) : ∀ n : Int, InR (digs m n) := by
  induction m with
  | zero => intro n; exact ⟨fun x hx => by cases hx⟩
  | succ m ih =>
    intro n
    refine ⟨fun x hx => ?_⟩
    rcases List.mem_append.1 hx with hx | hx
    · exact (ih _).out x hx
    · obtain rfl := List.mem_singleton.1 hx
      omega
theorem inr1 (p r f1 f2 f3 : ByteArray) (f4 : Int) (h0 : 0 ≤ f4) (h1 : f4 ≤ 9) : InR (hd1 p r f1 f2 f3 f4) :=
  InR.set (InR.spl (InR.spl (InR.spl (InR.spl (InR.spl (InR.spl inrZ (inrB _)) (inrB _)) (inrB _)) (inrB _)) (inrB _)) (inrB _)) 156 _ (by omega)
theorem inr2 (L : List Int) (f5 f6 f7 n9 f8 : Int) (h : InR L) : InR (hdn L f5 f6 f7 n9 f8 8) :=
  InR.spl (InR.spl (InR.spl (InR.spl (InR.spl (InR.spl (InR.spl (InR.spl h (inrD _ _)) (inrD _ _)) (inrD _ _)) (inrD _ _)) (inrD _ _)) (inrD _ _)) (inrD _ _)) (inrD _ _)
theorem tot_range (L : List Int) (h : ∀ x ∈ L, 0 ≤ x ∧ x ≤ 255) (hl : L.length = 512) : 0 ≤ tot L 512 ∧ tot L 512 ≤ 9223372036854775807 := by
  have g : ∀ i, i ≤ 512 → 0 ≤ tot L i ∧ tot L i ≤ 255 * (i : Int) := by
    intro i
    induction i with
    | zero => intro _; simp [tot]
    | succ i ih =>
      intro hi
      have h1 := ih (by omega)
      have hd : L.getD i 0 = L[i]'(by omega) := by rw [List.getD_eq_getElem?_getD, List.getElem?_eq_getElem (by omega)]; rfl
      have h2 := h (L[i]'(by omega)) (List.getElem_mem _)
      simp only [tot]
      split
      · omega
      · rw [hd]
        omega
  have := g 512 (by omega)
  omega
theorem lens (L : List Int) (off : Nat) (l : List Int) (h : L.length = 512) (h2 : off + l.length ≤ 512) : (splice L off l).length = 512 := by rw [length_splice _ _ _ (by omega)]; exact h
abbrev u8s (L : List Int) : List Value := L.map (fun x => Value.int .u8 x)
abbrev i64s (L : List Int) : List Value := L.map (fun x => Value.int .i64 x)
theorem u8s_length (L : List Int) : (u8s L).length = L.length := List.length_map _
theorem u8s_one {L : List Int} : ∀ v ∈ u8s L, v.oneCell' = true := fun v hv => by obtain ⟨x, _, rfl⟩ := List.mem_map.1 hv; rfl
theorem u8s_set (L : List Int) (i : Nat) (x : Int) : (u8s L).set i (.int .u8 x) = u8s (L.set i x) := by simp [u8s, List.map_set]
theorem cpu (L : List Int) (o : Nat) (s : ByteArray) : (u8s L).take o ++ Lib.byteCells s.data.toList ++ (u8s L).drop (o + s.size) = u8s (splice L o (bn s)) := by
  rw [bn_cells]
  simp [u8s, splice, List.map_take, List.map_drop, bn_length]
theorem size60 : (Tryd.prog.info? 60).map (·.size) = some 2 := by kernel_rfl
theorem size3 : (Tryd.prog.info? 3).map (·.size) = some 1 := by kernel_rfl
theorem zero50i : (Tryd.prog.info? 50).map (fun j => j.zero.map Value.cells) = some (some (u8s Z).toArray) := by kernel_rfl
theorem gl2 {W : World} {g o : Nat} {u v : Value} (h0 : W.cell? ⟨g, o, none⟩ = some u) (h1 : W.cell? ⟨g, o + 1, none⟩ = some v) : ∀ j x, [u, v][j]? = some x → W.cell? ((⟨g, o, none⟩ : Addr).add j) = some x := fun j x hj => by
  rw [Addr.add_mid]
  match j, hj with
  | 0, hj => cases hj; exact h0
  | 1, hj => cases hj; exact h1
theorem mild {P : Program} {fn : Func} {K : Act → World → Prop} {R : Ending → World → Prop} : Mild (Exit.then K (bodyPost P fn R)) := mild_then mild_body
def numA (i : Nat) : Int := [100, 108, 116, 124, 136, 148, 329, 337].getD i 0
def numB (i : Nat) : Int := [8, 8, 8, 12, 12, 8, 8, 8].getD i 0
theorem num_bd (i : Nat) (h : i < 8) : 0 ≤ numA i ∧ 8 ≤ numB i ∧ numA i < 512 ∧ numA i + numB i ≤ 512 := by
  match i, h with
  | 0, _ | 1, _ | 2, _ | 3, _ | 4, _ | 5, _ | 6, _ | 7, _ => decide
theorem Laid.num {W : World} (h : Laid W) (i : Nat) (hi : i < 8) : ∀ j u, [Value.int .i64 (numA i), Value.int .i64 (numB i)][j]? = some u → W.cell? ((⟨0, 0 + ((i : Nat) : Int).toNat * 2, none⟩ : Addr).add j) = some u := fun j u hj => by
  rw [Addr.add_mid, Nat.zero_add, Int.toNat_natCast]
  match i, hi, j, hj with
  | 0, _, 0, hj => cases hj; exact h.n0
  | 0, _, 1, hj => cases hj; exact h.n1
  | 1, _, 0, hj => cases hj; exact h.n2
  | 1, _, 1, hj => cases hj; exact h.n3
  | 2, _, 0, hj => cases hj; exact h.n4
  | 2, _, 1, hj => cases hj; exact h.n5
  | 3, _, 0, hj => cases hj; exact h.n6
  | 3, _, 1, hj => cases hj; exact h.n7
  | 4, _, 0, hj => cases hj; exact h.n8
  | 4, _, 1, hj => cases hj; exact h.n9
  | 5, _, 0, hj => cases hj; exact h.n10
  | 5, _, 1, hj => cases hj; exact h.n11
  | 6, _, 0, hj => cases hj; exact h.n12
  | 6, _, 1, hj => cases hj; exact h.n13
  | 7, _, 0, hj => cases hj; exact h.n14
  | 7, _, 1, hj => cases hj; exact h.n15
theorem hdn_length (L : List Int) (f5 f6 f7 n9 f8 : Int) (hL : L.length = 512) : ∀ i, (hdn L f5 f6 f7 n9 f8 i).length = 512 := by
  have key : ∀ l : List (Nat × Nat × Int), (∀ t ∈ l, t.1 + t.2.1 ≤ 512) → ∀ L : List Int, L.length = 512 → (l.foldl (fun L t => splice L t.1 (digs t.2.1 t.2.2)) L).length = 512 := by
    intro l
    induction l with
    | nil => intro _ L h; exact h
    | cons t r ih =>
      intro hl L h
      exact ih (fun t ht => hl t (List.mem_cons_of_mem _ ht)) _ (lens L t.1 _ h (by rw [digs_length]; exact hl t List.mem_cons_self))
  intro i
  refine key _ (fun t ht => ?_) L hL
  have := List.mem_of_mem_take ht
  simp only [ns8, List.mem_cons, List.not_mem_nil, or_false] at this
  rcases this with rfl | rfl | rfl | rfl | rfl | rfl | rfl | rfl <;> simp
theorem i64s_at (l : List Int) (i : Nat) (h : i < l.length) : (i64s l)[((i : Nat) : Int).toNat]? = some (.int .i64 (l.getD i 0)) := by
  rw [Int.toNat_natCast, List.getElem?_map, List.getElem?_eq_getElem h, List.getD_eq_getElem?_getD, List.getElem?_eq_getElem h]; rfl
theorem i64s_bd (f5 f6 f7 n9 f8 : Int) (h5 : 0 ≤ f5 ∧ f5 ≤ 2097151) (h6 : 0 ≤ f6 ∧ f6 ≤ 2097151) (h7 : 0 ≤ f7 ∧ f7 ≤ 2097151) (h8 : 0 ≤ f8 ∧ f8 ≤ 8589934591) (h9 : 0 ≤ n9 ∧ n9 ≤ 16777216) (i : Nat) (hi : i < 8) : 0 ≤ [f5, f6, f7, n9, f8, 0, 0, 0].getD i 0 ∧ [f5, f6, f7, n9, f8, 0, 0, 0].getD i 0 ≤ 9223372036854775807 := by
  match i, hi with
  | 0, _ | 1, _ | 2, _ | 3, _ | 4, _ | 5, _ | 6, _ | 7, _ => simp; try omega
theorem hdn_succ (L : List Int) (f5 f6 f7 n9 f8 : Int) (i : Nat) (hi : i < 8) : splice (hdn L f5 f6 f7 n9 f8 i) (numA i).toNat (digs ((((numB i).toNat : Nat) : Int) - 1).toNat ([f5, f6, f7, n9, f8, 0, 0, 0].getD i 0)) = hdn L f5 f6 f7 n9 f8 (i + 1) := by
  match i, hi with
  | 0, _ | 1, _ | 2, _ | 3, _ | 4, _ | 5, _ | 6, _ | 7, _ => rfl
theorem fl26_0 : fld Tryd.prog 26 0 = some (0, 9, 1) := by kernel_rfl
theorem fl26_1 : fld Tryd.prog 26 1 = some (1, 9, 1) := by kernel_rfl
theorem fl26_2 : fld Tryd.prog 26 2 = some (2, 9, 1) := by kernel_rfl
theorem fl26_3 : fld Tryd.prog 26 3 = some (3, 9, 1) := by kernel_rfl
theorem fl26_4 : fld Tryd.prog 26 4 = some (4, 3, 1) := by kernel_rfl
theorem fl26_5 : fld Tryd.prog 26 5 = some (5, 3, 1) := by kernel_rfl
theorem fl26_6 : fld Tryd.prog 26 6 = some (6, 3, 1) := by kernel_rfl
theorem fl26_7 : fld Tryd.prog 26 7 = some (7, 3, 1) := by kernel_rfl
theorem fl26_8 : fld Tryd.prog 26 8 = some (8, 3, 1) := by kernel_rfl
theorem fl26_9 : fld Tryd.prog 26 9 = some (9, 24, 1) := by kernel_rfl
theorem en31 : Enters Tryd.prog 31 := fun args w => by kernel_rfl
theorem en32 : Enters Tryd.prog 32 := fun args w => by kernel_rfl
theorem en39 : Enters Tryd.prog 39 := fun args w => by kernel_rfl
theorem en41 : Enters Tryd.prog 41 := fun args w => by kernel_rfl
set_option maxRecDepth 100000 in
theorem head_calls (k : Nat) (f0 f1 f2 f3 : ByteArray) (f4 f5 f6 f7 f8 : Int) (A9 : Option Addr) (c9 : Nat) (l9 : List Int) (p r : ByteArray) (ok : Bool) (w : World) (hl : Laid w)
    (hcut : tape_cut.f k f0 = some (p, r, ok)) (hp : p.size ≤ 155) (hr : r.size ≤ 100) (h1 : f1.size ≤ 100) (h2 : f2.size ≤ 32) (h3 : f3.size ≤ 32) (h4 : 0 ≤ f4 ∧ f4 ≤ 9) (h5 : 0 ≤ f5 ∧ f5 ≤ 2097151) (h6 : 0 ≤ f6 ∧ f6 ≤ 2097151) (h7 : 0 ≤ f7 ∧ f7 ≤ 2097151) (h8 : 0 ≤ f8 ∧ f8 ≤ 8589934591) (h9 : l9.length ≤ 16777216) :
    Calls Tryd.prog 22 #[.agg #[.string f0, .string f1, .string f2, .string f3, .int .i64 f4, .int .i64 f5, .int .i64 f6, .int .i64 f7, .int .i64 f8, .slice A9 l9.length c9]] w fun e w' =>
      e = .returned (.agg (u8s (hd3 (hd2 (hd1 p r f1 f2 f3 f4) f5 f6 f7 l9.length f8) (tot (hd2 (hd1 p r f1 f2 f3 f4) f5 f6 f7 l9.length f8) 512))).toArray) ∧ Below w.heap.size w w' := by
  have hP := HP.start w
  refine calls_cw Tryd.func22 rfl rfl (by simp) ?_
  refine cw_seq ?_
  -- region 0 tape.go:115
  refine cw_region ?_
  refine ow_box hP rfl rfl rfl ?_
  clear hP; intro b1 W hz hg hP
  refine ow_alloc hP (ws := u8s Z) zero50i rfl ?_
  clear hP; intro b2 W hz hg hP
  refine ow_nil ?_
  refine ew_next ?_
  refine cw_seq ?_
  -- region 1 tape.go:116
  refine cw_region ?_
  refine ow_alloc hP (ws := u8s Z) zero50i rfl ?_
  clear hP; intro b3 W hz hg hP
  have hL : Z.length = 512 := Z_len
  refine ow_nil ?_
  refine ew_next ?_
  refine cw_seq ?_
  -- region 2 tape.go:117
  refine cw_region ?_
  refine ow_step (r_fieldAddr rfl fl26_0) rfl ?_
  refine ow_step (r_load rfl rfl (hP.cell (i := 2) rfl rfl)) rfl ?_
  refine ow_call en39 rfl (tape_cut.calls k f0 p r ok _ hcut) rfl ?_
  rintro e W ⟨rfl, ⟨m1, rfl⟩⟩; replace hP := hP.drewN m1; refine ⟨_, rfl, ?_⟩
  refine ow_step (r_move rfl) rfl ?_
  refine ow_step (r_extract rfl rfl) rfl ?_
  refine ow_step (r_extract rfl rfl) rfl ?_
  refine ow_step (r_extract rfl rfl) rfl ?_
  refine ow_step (r_assign rfl) rfl ?_
  refine ow_step (r_assign rfl) rfl ?_
  refine ow_step (r_assign rfl) rfl ?_
  refine ow_nil ?_
  refine ew_next ?_
  refine cw_seq ?_
  -- region 3 tape.go:118
  refine cw_region ?_
  refine ow_step (r_loads rfl (c := [.int .i64 0, .int .i64 100]) Tryd.underlying60 rfl size60 (gl2 (hl.below hP.old).a0 (hl.below hP.old).a1)) rfl ?_
  refine ow_call en31 rfl (part_int b3 _ _ _ (by decide) (by decide) (by decide) (by decide)) rfl ?_
  rintro e W ⟨rfl, hg⟩; replace hP := hP.grown hg; refine ⟨_, rfl, ?_⟩
  refine ow_step (r_move rfl) rfl ?_
  refine ow_copyS (s := r) (o := 0) (m := 100) (c := 512) hP 0 rfl rfl rfl (by omega) (by rw [u8s_length, hL]; omega) Tryd.underlying24 size5 rfl ?_
  clear hP; intro W hg hP; dsimp only [List.set] at hP; rw [cpu] at hP
  replace hL := lens _ 0 (bn r) hL (by rw [bn_length]; omega)
  refine ow_nil ?_
  refine ew_next ?_
  refine cw_seq ?_
  -- region 4 tape.go:119
  refine cw_region ?_
  refine ow_step (r_loads rfl (c := [.int .i64 345, .int .i64 155]) Tryd.underlying60 rfl size60 (gl2 (hl.below hP.old).b0 (hl.below hP.old).b1)) rfl ?_
  refine ow_call en31 rfl (part_int b3 _ _ _ (by decide) (by decide) (by decide) (by decide)) rfl ?_
  rintro e W ⟨rfl, hg⟩; replace hP := hP.grown hg; refine ⟨_, rfl, ?_⟩
  refine ow_step (r_move rfl) rfl ?_
  refine ow_copyS (s := p) (o := 345) (m := 155) (c := 167) hP 0 rfl rfl rfl (by omega) (by rw [u8s_length, hL]; omega) Tryd.underlying24 size5 rfl ?_
  clear hP; intro W hg hP; dsimp only [List.set] at hP; rw [cpu] at hP
  replace hL := lens _ 345 (bn p) hL (by rw [bn_length]; omega)
  refine ow_nil ?_
  refine ew_next ?_
  refine cw_seq ?_
  -- region 5 DRAWS tape.go:120
  refine cw_held (fun w' => ∃ Lx, HP w w' [(b3, Lx, 50), (b2, u8s Z, 50), (b1, [.string f0, .string f1, .string f2, .string f3, .int .i64 f4, .int .i64 f5, .int .i64 f6, .int .i64 f7, .int .i64 f8, .slice A9 l9.length c9], 26)]) (by kernel_rfl) ?_
  replace hP := hP.drew
  refine hw_take 0 rfl rfl rfl (by kernel_rfl) (by kernel_rfl) (by kernel_rfl) mild ⟨_, hP⟩ (fun w' ⟨_, hw⟩ => r_loads rfl (c := [.int .i64 157, .int .i64 100]) Tryd.underlying60 rfl size60 (gl2 (hl.below hw.old).c0 (hl.below hw.old).c1)) rfl ?_
  refine hw_take 2 rfl rfl rfl (by kernel_rfl) (by kernel_rfl) (by kernel_rfl) mild ⟨_, hP⟩ (fun w' ⟨_, hw⟩ => r_fieldAddr rfl fl26_1) rfl ?_
  refine hw_take 3 rfl rfl rfl (by kernel_rfl) (by kernel_rfl) (by kernel_rfl) mild ⟨_, hP⟩ (fun w' ⟨_, hw⟩ => r_load rfl rfl (hw.cell (i := 2) rfl rfl)) rfl ?_
  refine hw_one 1 (by kernel_rfl) (nw_of rfl ?_ lets_then)
  refine ow_call en31 rfl (part_int b3 _ _ _ (by decide) (by decide) (by decide) (by decide)) rfl ?_
  rintro e W ⟨rfl, hg⟩; replace hP := hP.grown hg; refine ⟨_, rfl, ?_⟩
  refine ow_nil (ew_held ⟨_, hP⟩ ?_)
  refine hw_one 4 (by kernel_rfl) (nw_of rfl ?_ lets_then)
  refine ow_copyS (s := f1) (o := 157) (m := 100) (c := 355) hP 0 rfl rfl rfl (by omega) (by rw [u8s_length, hL]; omega) Tryd.underlying24 size5 rfl ?_
  clear hP; intro W hg hP; dsimp only [List.set] at hP; rw [cpu] at hP
  replace hL := lens _ 157 (bn f1) hL (by rw [bn_length]; omega)
  refine ow_nil (ew_held ⟨_, hP⟩ ?_)
  refine hw_done (by kernel_rfl) ?_
  refine ew_next ?_
  refine cw_seq ?_
  -- region 6 DRAWS tape.go:121
  refine cw_held (fun w' => ∃ Lx, HP w w' [(b3, Lx, 50), (b2, u8s Z, 50), (b1, [.string f0, .string f1, .string f2, .string f3, .int .i64 f4, .int .i64 f5, .int .i64 f6, .int .i64 f7, .int .i64 f8, .slice A9 l9.length c9], 26)]) (by kernel_rfl) ?_
  replace hP := hP.drew
  refine hw_take 0 rfl rfl rfl (by kernel_rfl) (by kernel_rfl) (by kernel_rfl) mild ⟨_, hP⟩ (fun w' ⟨_, hw⟩ => r_loads rfl (c := [.int .i64 265, .int .i64 32]) Tryd.underlying60 rfl size60 (gl2 (hl.below hw.old).d0 (hl.below hw.old).d1)) rfl ?_
  refine hw_take 2 rfl rfl rfl (by kernel_rfl) (by kernel_rfl) (by kernel_rfl) mild ⟨_, hP⟩ (fun w' ⟨_, hw⟩ => r_fieldAddr rfl fl26_2) rfl ?_
  refine hw_take 3 rfl rfl rfl (by kernel_rfl) (by kernel_rfl) (by kernel_rfl) mild ⟨_, hP⟩ (fun w' ⟨_, hw⟩ => r_load rfl rfl (hw.cell (i := 2) rfl rfl)) rfl ?_
  refine hw_one 1 (by kernel_rfl) (nw_of rfl ?_ lets_then)
  refine ow_call en31 rfl (part_int b3 _ _ _ (by decide) (by decide) (by decide) (by decide)) rfl ?_
  rintro e W ⟨rfl, hg⟩; replace hP := hP.grown hg; refine ⟨_, rfl, ?_⟩
  refine ow_nil (ew_held ⟨_, hP⟩ ?_)
  refine hw_one 4 (by kernel_rfl) (nw_of rfl ?_ lets_then)
  refine ow_copyS (s := f2) (o := 265) (m := 32) (c := 247) hP 0 rfl rfl rfl (by omega) (by rw [u8s_length, hL]; omega) Tryd.underlying24 size5 rfl ?_
  clear hP; intro W hg hP; dsimp only [List.set] at hP; rw [cpu] at hP
  replace hL := lens _ 265 (bn f2) hL (by rw [bn_length]; omega)
  refine ow_nil (ew_held ⟨_, hP⟩ ?_)
  refine hw_done (by kernel_rfl) ?_
  refine ew_next ?_
  refine cw_seq ?_
  -- region 7 DRAWS tape.go:122
  refine cw_held (fun w' => ∃ Lx, HP w w' [(b3, Lx, 50), (b2, u8s Z, 50), (b1, [.string f0, .string f1, .string f2, .string f3, .int .i64 f4, .int .i64 f5, .int .i64 f6, .int .i64 f7, .int .i64 f8, .slice A9 l9.length c9], 26)]) (by kernel_rfl) ?_
  replace hP := hP.drew
  refine hw_take 0 rfl rfl rfl (by kernel_rfl) (by kernel_rfl) (by kernel_rfl) mild ⟨_, hP⟩ (fun w' ⟨_, hw⟩ => r_loads rfl (c := [.int .i64 297, .int .i64 32]) Tryd.underlying60 rfl size60 (gl2 (hl.below hw.old).e0 (hl.below hw.old).e1)) rfl ?_
  refine hw_take 2 rfl rfl rfl (by kernel_rfl) (by kernel_rfl) (by kernel_rfl) mild ⟨_, hP⟩ (fun w' ⟨_, hw⟩ => r_fieldAddr rfl fl26_3) rfl ?_
  refine hw_take 3 rfl rfl rfl (by kernel_rfl) (by kernel_rfl) (by kernel_rfl) mild ⟨_, hP⟩ (fun w' ⟨_, hw⟩ => r_load rfl rfl (hw.cell (i := 2) rfl rfl)) rfl ?_
  refine hw_one 1 (by kernel_rfl) (nw_of rfl ?_ lets_then)
  refine ow_call en31 rfl (part_int b3 _ _ _ (by decide) (by decide) (by decide) (by decide)) rfl ?_
  rintro e W ⟨rfl, hg⟩; replace hP := hP.grown hg; refine ⟨_, rfl, ?_⟩
  refine ow_nil (ew_held ⟨_, hP⟩ ?_)
  refine hw_one 4 (by kernel_rfl) (nw_of rfl ?_ lets_then)
  refine ow_copyS (s := f3) (o := 297) (m := 32) (c := 215) hP 0 rfl rfl rfl (by omega) (by rw [u8s_length, hL]; omega) Tryd.underlying24 size5 rfl ?_
  clear hP; intro W hg hP; dsimp only [List.set] at hP; rw [cpu] at hP
  replace hL := lens _ 297 (bn f3) hL (by rw [bn_length]; omega)
  refine ow_nil (ew_held ⟨_, hP⟩ ?_)
  refine hw_done (by kernel_rfl) ?_
  refine ew_next ?_
  refine cw_seq ?_
  -- region 8 tape.go:123
  refine cw_region ?_
  refine ow_step (r_loads rfl (c := [.int .i64 257, .int .i64 8]) Tryd.underlying60 rfl size60 (gl2 (hl.below hP.old).f0 (hl.below hP.old).f1)) rfl ?_
  refine ow_call en31 rfl (part_int b3 _ _ _ (by decide) (by decide) (by decide) (by decide)) rfl ?_
  rintro e W ⟨rfl, hg⟩; replace hP := hP.grown hg; refine ⟨_, rfl, ?_⟩
  have hm : magic.size = 8 := rfl
  refine ow_copyS (s := magic) (o := 257) (m := 8) (c := 255) hP 0 rfl rfl rfl (by omega) (by rw [u8s_length, hL]; omega) Tryd.underlying24 size5 rfl ?_
  clear hP; intro W hg hP; dsimp only [List.set] at hP; rw [cpu] at hP
  replace hL := lens _ 257 (bn magic) hL (by rw [bn_length]; omega)
  refine ow_nil ?_
  refine ew_next ?_
  refine cw_seq ?_
  -- region 9 tape.go:124
  refine cw_region ?_
  refine ow_step (r_fieldAddr rfl fl26_4) rfl ?_
  refine ow_step (r_load rfl rfl (hP.cell (i := 2) rfl rfl)) rfl ?_
  refine ow_step (i_add rfl rfl (by omega)) rfl ?_
  refine ow_step (r_conv_in rfl rfl Tryd.underlying5 (IntWalk.u8_in _ (by omega))) rfl ?_
  refine ow_step (r_indexArr rfl rfl Tryd.underlying50 size5 ⟨by decide, by decide⟩ (o' := 156) rfl) rfl ?_
  refine ow_store hP 0 rfl (by rw [u8s_length, hL]; omega) rfl rfl rfl rfl size5 ?_
  clear hP; intro W hg hP; dsimp only [List.set] at hP; rw [u8s_set] at hP
  replace hL := (List.length_set (i := 156) (a := 48 + f4)).trans hL
  refine ow_nil ?_
  refine ew_next ?_
  refine cw_seq ?_
  refine cw_seq ?_
  -- region 10 tape.go:125
  refine cw_region ?_
  refine ow_step (r_fieldAddr rfl fl26_5) rfl ?_
  refine ow_step (r_load rfl rfl (hP.cell (i := 2) rfl rfl)) rfl ?_
  refine ow_step (r_fieldAddr rfl fl26_6) rfl ?_
  refine ow_step (r_load rfl rfl (hP.cell (i := 2) rfl rfl)) rfl ?_
  refine ow_step (r_fieldAddr rfl fl26_7) rfl ?_
  refine ow_step (r_load rfl rfl (hP.cell (i := 2) rfl rfl)) rfl ?_
  refine ow_step (r_fieldAddr rfl fl26_9) rfl ?_
  refine ow_step (r_load rfl rfl (hP.cell (i := 2) rfl rfl)) rfl ?_
  refine ow_step (r_len rfl (by rfl) rfl) rfl ?_
  refine ow_step (r_fieldAddr rfl fl26_8) rfl ?_
  refine ow_step (r_load rfl rfl (hP.cell (i := 2) rfl rfl)) rfl ?_
  refine ow_step (r_build (v := .agg (i64s [f5, f6, f7, (l9.length : Int), f8, 0, 0, 0]).toArray) rfl (fun w => by kernel_rfl)) rfl ?_
  refine ow_step (r_move rfl) rfl ?_
  refine ow_nil ?_
  refine ew_next ?_
  refine cw_block ?_
  obtain ⟨L, hLe⟩ : ∃ L, L = hd1 p r f1 f2 f3 f4 := ⟨_, rfl⟩
  replace hP : HP w W [(b3, u8s L, 50), (b2, u8s Z, 50), (b1, [.string f0, .string f1, .string f2, .string f3, .int .i64 f4, .int .i64 f5, .int .i64 f6, .int .i64 f7, .int .i64 f8, .slice A9 l9.length c9], 26)] := by rw [hLe]; exact hP
  replace hL : L.length = 512 := by rw [hLe]; exact hL
  have hn9 : (0 : Int) ≤ (l9.length : Int) := by omega
  refine cw_loop (fun i => 8 - i) (fun i => [(62, .int .i64 ((i : Nat) : Int)), (61, .agg (i64s [f5, f6, f7, (l9.length : Int), f8, 0, 0, 0]).toArray), (2, .pointer (some ⟨b2, 0, none⟩)), (3, .pointer (some ⟨b3, 0, none⟩))]) (fun i w' => i ≤ 8 ∧ HP w w' [(b3, u8s (hdn L f5 f6 f7 l9.length f8 i), 50), (b2, u8s Z, 50), (b1, [.string f0, .string f1, .string f2, .string f3, .int .i64 f4, .int .i64 f5, .int .i64 f6, .int .i64 f7, .int .i64 f8, .slice A9 l9.length c9], 26)]) 0 ⟨rfl, rfl, rfl, rfl, trivial⟩ ⟨by omega, hP⟩ ?_
  clear hP; rintro i W ⟨hi, hP⟩
  have hLi := hdn_length L f5 f6 f7 l9.length f8 hL i
  · -- round 0
    refine cw_seq ?_
    -- region 11 tape.go:125
    refine cw_region ?_
    refine ow_step (r_lt rfl rfl) rfl ?_
    refine ow_nil ?_
    refine ew_next ?_
    refine cw_seq ?_
    refine cw_cond rfl (fun hb0 => ?_) (fun hb0 => ?_)
    · -- cond 0 yes
      have h0 := hb0; (try simp only [Bool.and_eq_true, Bool.or_eq_true, Bool.and_eq_false_iff, Bool.or_eq_false_iff, Bool.not_eq_true', Bool.not_eq_false', decide_eq_true_eq, decide_eq_false_iff_not, ne_eq, Decidable.not_not, not_true_eq_false, not_false_eq_true] at h0)
      have hi8 : i < 8 := by omega
      obtain ⟨n0, n1, n2, n3⟩ := num_bd i hi8
      refine cw_skip ?_
      refine ew_next ?_
      refine cw_seq ?_
      refine cw_block ?_
      refine cw_seq ?_
      -- region 12 tape.go:125
      refine cw_region ?_
      refine ow_step (r_move rfl) rfl ?_
      refine ow_step (r_indexVal rfl rfl Tryd.underlying73 rfl size3 ⟨by omega, by omega⟩ (i64s_at _ i hi8)) rfl ?_
      refine ow_step (r_assign rfl) rfl ?_
      refine ow_step (r_assign rfl) rfl ?_
      refine ow_nil ?_
      refine ew_next ?_
      refine cw_seq ?_
      -- region 13 tape.go:126
      refine cw_region ?_
      refine ow_step (r_move rfl) rfl ?_
      refine ow_step (r_indexArr rfl rfl Tryd.underlying61 size60 ⟨by omega, by omega⟩ rfl) rfl ?_
      refine ow_step (r_loads rfl (c := [.int .i64 (numA i), .int .i64 (numB i)]) Tryd.underlying60 rfl size60 ((hl.below hP.old).num i hi8)) rfl ?_
      refine ow_call en31 rfl (part_int b3 _ _ _ n0 (by omega) n2 (by omega)) rfl ?_
      rintro e W ⟨rfl, hg⟩; replace hP := hP.grown hg; refine ⟨_, rfl, ?_⟩
      refine ow_step (r_assign rfl) rfl ?_
      refine ow_nil ?_
      refine ew_next ?_
      -- region 14 tape.go:127
      refine cw_region ?_
      refine ow_step (r_move rfl) rfl ?_
      refine ow_step (r_move rfl) rfl ?_
      refine ow_step (r_len rfl (by rfl) rfl) rfl ?_
      refine ow_step (i_sub rfl rfl (by omega)) rfl ?_
      refine ow_step (r_sliceTo rfl rfl Tryd.underlying24 size5 ⟨by omega, by omega⟩) rfl ?_
      refine ow_step (r_move rfl) rfl ?_
      have hx := i64s_bd f5 f6 f7 l9.length f8 h5 h6 h7 h8 ⟨hn9, by omega⟩ i hi8
      refine ow_call en41 rfl (digits_calls b3 _ _ _ _ (hdn L f5 f6 f7 l9.length f8 i) W hLi (by omega) hx.1 hx.2 (hP.blk (i := 0) rfl)) rfl ?_
      rintro e W ⟨rfl, hb, hg⟩; replace hP := hP.mod (i := 0) rfl hg (cs' := u8s (splice (hdn L f5 f6 f7 l9.length f8 i) _ (digs _ _))) hb; refine ⟨_, rfl, ?_⟩; clear hb; dsimp only [List.set] at hP
      refine ow_nil ?_
      refine ew_block ?_
      refine ew_next ?_
      -- region 15 tape.go:125
      refine cw_region ?_
      refine ow_step (i_add rfl rfl (by omega)) rfl ?_
      refine ow_step (r_move rfl) rfl ?_
      refine ow_nil ?_
      refine ew_round (i + 1) ⟨rfl, rfl, rfl, rfl, trivial⟩ ⟨by omega, ?_⟩ (by omega)
      rw [hdn_succ L f5 f6 f7 l9.length f8 i hi8] at hP; exact hP
    · -- cond 0 no
      have h0 := hb0; (try simp only [Bool.and_eq_true, Bool.or_eq_true, Bool.and_eq_false_iff, Bool.or_eq_false_iff, Bool.not_eq_true', Bool.not_eq_false', decide_eq_true_eq, decide_eq_false_iff_not, ne_eq, Decidable.not_not, not_true_eq_false, not_false_eq_true] at h0)
      obtain rfl : i = 8 := by omega
      have hr8 := InR.out (inr2 _ f5 f6 f7 (l9.length : Int) f8 (inr1 p r f1 f2 f3 f4 h4.1 h4.2)); rw [← hLe] at hr8
      refine cw_exit ?_
      refine ew_then_exit ?_
      refine ew_then_exit ?_
      refine ew_block_hit ?_
      refine ew_next ?_
      refine cw_seq ?_
      -- region 16 tape.go:129
      refine cw_region ?_
      refine ow_step (r_indexArr rfl rfl Tryd.underlying61 size60 ⟨by decide, by decide⟩ (o' := 10) rfl) rfl ?_
      refine ow_step (r_loads rfl (c := [.int .i64 148, .int .i64 8]) Tryd.underlying60 rfl size60 (gl2 (hl.below hP.old).n10 (hl.below hP.old).n11)) rfl ?_
      refine ow_call en31 rfl (part_int b3 _ _ _ (by decide) (by decide) (by decide) (by decide)) rfl ?_
      rintro e W ⟨rfl, hg⟩; replace hP := hP.grown hg; refine ⟨_, rfl, ?_⟩
      refine ow_step (r_assign rfl) rfl ?_
      refine ow_nil ?_
      refine ew_next ?_
      refine cw_seq ?_
      -- region 17 tape.go:130
      refine cw_region ?_
      refine ow_call en32 rfl (total_calls b3 _ _ hLi hr8 (hP.blk (i := 0) rfl) (hl.below hP.old).n10 (hl.below hP.old).n11) rfl ?_
      rintro e W ⟨rfl, hg⟩; replace hP := hP.grown hg; refine ⟨_, rfl, ?_⟩
      have ht := tot_range _ hr8 hLi
      refine ow_step (r_assign rfl) rfl ?_
      refine ow_nil ?_
      refine ew_next ?_
      refine cw_seq ?_
      -- region 18 tape.go:131
      refine cw_region ?_
      refine ow_step (r_move rfl) rfl ?_
      refine ow_step (r_sliceTo (i := 6) rfl rfl Tryd.underlying24 size5 ⟨by decide, by decide⟩) rfl ?_
      refine ow_step (r_move rfl) rfl ?_
      refine ow_call en41 rfl (digits_calls b3 _ _ _ _ (hdn L f5 f6 f7 l9.length f8 8) W hLi (by decide) ht.1 ht.2 (hP.blk (i := 0) rfl)) rfl ?_
      rintro e W ⟨rfl, hb, hg⟩; replace hP := hP.mod (i := 0) rfl hg (cs' := u8s (splice (hdn L f5 f6 f7 l9.length f8 8) 148 (digs 6 (tot (hdn L f5 f6 f7 l9.length f8 8) 512)))) hb; refine ⟨_, rfl, ?_⟩; clear hb; dsimp only [List.set] at hP
      replace hL := lens _ 148 (digs 6 (tot (hdn L f5 f6 f7 l9.length f8 8) 512)) hLi (by rw [digs_length]; decide)
      refine ow_nil ?_
      refine ew_next ?_
      refine cw_seq ?_
      -- region 19 tape.go:132
      refine cw_region ?_
      refine ow_step (r_move rfl) rfl ?_
      refine ow_step (r_move rfl) rfl ?_
      refine ow_step (r_indexSl' (g := b3) (o := 148) (m := 8) (c := 364) rfl rfl Tryd.underlying24 size5 ⟨by decide, by decide⟩ (o' := 154) rfl) rfl ?_
      refine ow_store hP 0 rfl (by rw [u8s_length, hL]; omega) rfl rfl rfl rfl size5 ?_
      clear hP; intro W hg hP; dsimp only [List.set] at hP; rw [u8s_set] at hP
      replace hL := (List.length_set (i := 154) (a := 0)).trans hL
      refine ow_step (r_indexSl' (g := b3) (o := 148) (m := 8) (c := 364) rfl rfl Tryd.underlying24 size5 ⟨by decide, by decide⟩ (o' := 155) rfl) rfl ?_
      refine ow_store hP 0 rfl (by rw [u8s_length, hL]; omega) rfl rfl rfl rfl size5 ?_
      clear hP; intro W hg hP; dsimp only [List.set] at hP; rw [u8s_set] at hP
      replace hL := (List.length_set (i := 155) (a := 32)).trans hL
      refine ow_nil ?_
      refine ew_next ?_
      refine cw_seq ?_
      -- region 20 tape.go:133
      refine cw_region ?_
      refine ow_step (r_loads rfl Tryd.underlying50 rfl (by rw [u8s_length, hL]; exact size50) (hP.cells (i := 0) (o := 0) rfl (fun j u hj => by rw [Nat.zero_add]; exact hj))) rfl ?_
      refine ow_stores hP 1 rfl rfl rfl u8s_one (by rw [u8s_length, u8s_length, hL, Z_len]) (by rw [u8s_length, hL]; exact size50) ?_
      clear hP; intro W hg hP; dsimp only [List.set] at hP
      refine ow_nil ?_
      refine ew_next ?_
      refine cw_ret ?_
      refine ew_ret1 rfl (.cell b2 50 _ (0, 0) _ rfl (hP.blk (i := 1) rfl) Tryd.underlying50 rfl (by rw [List.size_toArray, u8s_length, hL]; exact size50) .nil) ?_
      refine ⟨?_, hP.old⟩
      rw [hLe]; rfl
end Go.Proofs.YtlhmbncalonomaaDoor.Head
namespace Go.Proofs.YtlhmbncalonomaaDoor.Snd
open Go.RowKit Go.Proofs.YtlhmbncalonomaaDoor.Q Go.Proofs.YtlhmbncalonomaaDoor.Cpy Go.Proofs.YtlhmbncalonomaaDoor.Hand Go.Proofs.YtlhmbncalonomaaDoor.Arr Go.Proofs.YtlhmbncalonomaaDoor.Sx Go.Proofs.YtlhmbncalonomaaDoor.Head Go.Proofs.YtlhmbncalonomaaDoorW.PrintWords Go.Proofs.YtlhmbncalonomaaDoorW.PrintLast Go.Proofs.YtlhmbncalonomaaDoorW.PrintMore
set_option linter.unusedVariables false
set_option linter.unusedSimpArgs false
def has0 (s : ByteArray) : Bool := decide (0 ≤ Lib.indexByte s.data.toList 0)
theorem contains0 (s : ByteArray) : strings_Contains.f s ⟨#[0]⟩ = some (has0 s) := if_pos (by decide +kernel)
def inM (n : Int) : Bool := decide (0 ≤ n) && decide (n ≤ 2097151)
def sndB (f0 f1 f2 f3 : ByteArray) (f4 f5 f6 f7 f8 : Int) (n9 : Nat) (ok sf : Bool) : Bool :=
  bif ((decide (f4 ≠ 0) && decide (f4 ≠ 2) && decide (f4 ≠ 5)) || has0 (f0 ++ f1 ++ f2 ++ f3)) then false
  else bif (decide (32 ≤ (f2.size : Int)) || decide (32 ≤ (f3.size : Int)) || decide (f8 < 0) || decide (8589934591 < f8)) then false
  else bif !(inM f5 && inM f6 && inM f7) then false
  else bif (!(decide (f4 = 2) == decide (0 < (f1.size : Int))) || decide (100 < (f1.size : Int)) || (decide (f4 ≠ 0) && decide (0 < (n9 : Int)))) then false
  else (ok && (sf == decide (f4 = 5)))
theorem inM_no {f5 f6 f7 : Int} {i : Nat} (hi : i < 3) (h : [f5, f6, f7].getD i 0 < 0 ∨ 2097151 < [f5, f6, f7].getD i 0) : (inM f5 && inM f6 && inM f7) = false := by
  have key : ∀ n : Int, n < 0 ∨ 2097151 < n → inM n = false := fun n h => by unfold inM; simp; omega
  match i, hi with
  | 0, _ => rw [key f5 h]; rfl
  | 1, _ => rw [key f6 h]; simp
  | 2, _ => rw [key f7 h]; simp
theorem inM_yes {n : Int} (h : 0 ≤ n ∧ n ≤ 2097151) : inM n = true := by unfold inM; simp; exact h
theorem en38 : Enters Tryd.prog 38 := fun args w => by kernel_rfl
theorem en40 : Enters Tryd.prog 40 := fun args w => by kernel_rfl
set_option maxRecDepth 100000 in
theorem sound_calls (k : Nat) (f0 f1 f2 f3 : ByteArray) (f4 f5 f6 f7 f8 : Int) (A9 : Option Addr) (n9 c9 : Nat) (p r : ByteArray) (ok sf : Bool) (w : World)
    (hcut : tape_cut.f k f0 = some (p, r, ok)) (hsf : strings_HasSuffix.f f0 ⟨#[47]⟩ = some sf) (hz : f0.size + f1.size + f2.size + f3.size ≤ 1048576) (hn9 : n9 ≤ 1048576) :
    Calls Tryd.prog 21 #[.agg #[.string f0, .string f1, .string f2, .string f3, .int .i64 f4, .int .i64 f5, .int .i64 f6, .int .i64 f7, .int .i64 f8, .slice A9 n9 c9]] w fun e w' => e = .returned (.bool (sndB f0 f1 f2 f3 f4 f5 f6 f7 f8 n9 ok sf)) ∧ Below w.heap.size w w' := by
  have hP := HP.start w
  refine calls_cw Tryd.func21 rfl rfl (by simp) ?_
  refine cw_seq ?_
  -- region 0 tape.go:87
  refine cw_region ?_
  refine ow_box hP rfl rfl rfl ?_
  clear hP; intro b1 W hz hg hP
  refine ow_step (r_assign rfl) rfl ?_
  refine ow_nil ?_
  refine ew_next ?_
  refine cw_seq ?_
  refine cw_seq ?_
  -- region 1 tape.go:88
  refine cw_region ?_
  refine ow_step (r_fieldAddr rfl fl26_4) rfl ?_
  refine ow_step (r_load rfl rfl (hP.cell (i := 0) rfl rfl)) rfl ?_
  refine ow_step (r_ne rfl rfl) rfl ?_
  refine ow_step (r_move rfl) rfl ?_
  apply ow_andP (p := 15) (m := 11) 4 hP rfl
  · intro hg1_3; have hg1_3p := hg1_3; (try simp only [Bool.and_eq_true, Bool.or_eq_true, Bool.and_eq_false_iff, Bool.or_eq_false_iff, Bool.not_eq_true', Bool.not_eq_false', decide_eq_true_eq, decide_eq_false_iff_not, ne_eq, Decidable.not_not, not_true_eq_false, not_false_eq_true] at hg1_3p)
    refine ow_guard rfl rfl rfl (by rw [hg1_3]; rfl) ?_
    refine ow_step (r_fieldAddr rfl fl26_4) rfl ?_
    refine ow_guard rfl rfl rfl (by rw [hg1_3]; rfl) ?_
    refine ow_step (r_load rfl rfl (hP.cell (i := 0) rfl rfl)) rfl ?_
    refine ow_guard rfl rfl rfl (by rw [hg1_3]; rfl) ?_
    refine ow_step (r_ne rfl rfl) rfl ?_
    refine ow_step (r_pickT rfl hg1_3 rfl) rfl ?_
    refine ow_nil (ew_logic rfl (by repeat (first | exact trivial | refine ⟨rfl, ?_⟩)) hP)
  · intro hg1_3
    refine ow_pass rfl rfl rfl (by rw [hg1_3]; rfl) rfl ?_
    refine ow_pass rfl rfl rfl (by rw [hg1_3]; rfl) rfl ?_
    refine ow_pass rfl rfl rfl (by rw [hg1_3]; rfl) rfl ?_
    refine ow_step (r_pickF rfl hg1_3 rfl) rfl ?_
    refine ow_nil (ew_logic rfl (by repeat (first | exact trivial | refine ⟨rfl, ?_⟩)) hP)
  intro W hP
  refine ow_step (r_move rfl) rfl ?_
  apply ow_andP (p := 20) (m := 16) 4 hP rfl
  · intro hg1_8; have hg1_8p := hg1_8; (try simp only [Bool.and_eq_true, Bool.or_eq_true, Bool.and_eq_false_iff, Bool.or_eq_false_iff, Bool.not_eq_true', Bool.not_eq_false', decide_eq_true_eq, decide_eq_false_iff_not, ne_eq, Decidable.not_not, not_true_eq_false, not_false_eq_true] at hg1_8p)
    refine ow_guard rfl rfl rfl (by rw [hg1_8]; rfl) ?_
    refine ow_step (r_fieldAddr rfl fl26_4) rfl ?_
    refine ow_guard rfl rfl rfl (by rw [hg1_8]; rfl) ?_
    refine ow_step (r_load rfl rfl (hP.cell (i := 0) rfl rfl)) rfl ?_
    refine ow_guard rfl rfl rfl (by rw [hg1_8]; rfl) ?_
    refine ow_step (r_ne rfl rfl) rfl ?_
    refine ow_step (r_pickT rfl hg1_8 rfl) rfl ?_
    refine ow_nil (ew_logic rfl (by repeat (first | exact trivial | refine ⟨rfl, ?_⟩)) hP)
  · intro hg1_8
    refine ow_pass rfl rfl rfl (by rw [hg1_8]; rfl) rfl ?_
    refine ow_pass rfl rfl rfl (by rw [hg1_8]; rfl) rfl ?_
    refine ow_pass rfl rfl rfl (by rw [hg1_8]; rfl) rfl ?_
    refine ow_step (r_pickF rfl hg1_8 rfl) rfl ?_
    refine ow_nil (ew_logic rfl (by repeat (first | exact trivial | refine ⟨rfl, ?_⟩)) hP)
  intro W hP
  refine ow_step (r_move rfl) rfl ?_
  apply ow_orP (p := 34) (m := 21) 13 hP rfl
  · intro hg1_13; have hg1_13p := hg1_13; (try simp only [Bool.and_eq_true, Bool.or_eq_true, Bool.and_eq_false_iff, Bool.or_eq_false_iff, Bool.not_eq_true', Bool.not_eq_false', decide_eq_true_eq, decide_eq_false_iff_not, ne_eq, Decidable.not_not, not_true_eq_false, not_false_eq_true] at hg1_13p)
    refine ow_guard rfl rfl rfl (by rw [hg1_13]; rfl) ?_
    refine ow_step (r_fieldAddr rfl fl26_0) rfl ?_
    refine ow_guard rfl rfl rfl (by rw [hg1_13]; rfl) ?_
    refine ow_step (r_load rfl rfl (hP.cell (i := 0) rfl rfl)) rfl ?_
    refine ow_guard rfl rfl rfl (by rw [hg1_13]; rfl) ?_
    refine ow_step (r_fieldAddr rfl fl26_1) rfl ?_
    refine ow_guard rfl rfl rfl (by rw [hg1_13]; rfl) ?_
    refine ow_step (r_load rfl rfl (hP.cell (i := 0) rfl rfl)) rfl ?_
    refine ow_guard rfl rfl rfl (by rw [hg1_13]; rfl) ?_
    refine ow_step (r_sadd rfl rfl (by (try simp only [ByteArray.size_append]); omega)) rfl ?_
    refine ow_guard rfl rfl rfl (by rw [hg1_13]; rfl) ?_
    refine ow_step (r_fieldAddr rfl fl26_2) rfl ?_
    refine ow_guard rfl rfl rfl (by rw [hg1_13]; rfl) ?_
    refine ow_step (r_load rfl rfl (hP.cell (i := 0) rfl rfl)) rfl ?_
    refine ow_guard rfl rfl rfl (by rw [hg1_13]; rfl) ?_
    refine ow_step (r_sadd rfl rfl (by (try simp only [ByteArray.size_append]); omega)) rfl ?_
    refine ow_guard rfl rfl rfl (by rw [hg1_13]; rfl) ?_
    refine ow_step (r_fieldAddr rfl fl26_3) rfl ?_
    refine ow_guard rfl rfl rfl (by rw [hg1_13]; rfl) ?_
    refine ow_step (r_load rfl rfl (hP.cell (i := 0) rfl rfl)) rfl ?_
    refine ow_guard rfl rfl rfl (by rw [hg1_13]; rfl) ?_
    refine ow_step (r_sadd rfl rfl (by (try simp only [ByteArray.size_append]); omega)) rfl ?_
    refine ow_guard rfl rfl rfl (by rw [hg1_13]; rfl) ?_
    refine ow_call en38 rfl (strings_Contains.calls _ _ _ _ (contains0 _)) rfl ?_
    rintro e W ⟨rfl, ⟨m_, rfl⟩⟩; replace hP := hP.drewN m_; refine ⟨_, rfl, ?_⟩
    refine ow_step (r_pickF rfl hg1_13 rfl) rfl ?_
    refine ow_nil (ew_logic rfl (by repeat (first | exact trivial | refine ⟨rfl, ?_⟩)) hP)
  · intro hg1_13
    refine ow_pass rfl rfl rfl (by rw [hg1_13]; rfl) rfl ?_
    refine ow_pass rfl rfl rfl (by rw [hg1_13]; rfl) rfl ?_
    refine ow_pass rfl rfl rfl (by rw [hg1_13]; rfl) rfl ?_
    refine ow_pass rfl rfl rfl (by rw [hg1_13]; rfl) rfl ?_
    refine ow_pass rfl rfl rfl (by rw [hg1_13]; rfl) rfl ?_
    refine ow_pass rfl rfl rfl (by rw [hg1_13]; rfl) rfl ?_
    refine ow_pass rfl rfl rfl (by rw [hg1_13]; rfl) rfl ?_
    refine ow_pass rfl rfl rfl (by rw [hg1_13]; rfl) rfl ?_
    refine ow_pass rfl rfl rfl (by rw [hg1_13]; rfl) rfl ?_
    refine ow_pass rfl rfl rfl (by rw [hg1_13]; rfl) rfl ?_
    refine ow_pass rfl rfl rfl (by rw [hg1_13]; rfl) rfl ?_
    refine ow_pass rfl rfl rfl (by rw [hg1_13]; rfl) rfl ?_
    refine ow_step (r_pickT rfl hg1_13 rfl) rfl ?_
    refine ow_nil (ew_logic rfl (by repeat (first | exact trivial | refine ⟨rfl, ?_⟩)) hP)
  intro W hP
  refine ow_nil ?_
  refine ew_next ?_
  refine cw_cond rfl (fun hb0 => ?_) (fun hb0 => ?_)
  · -- cond 0 yes
    have hc0 := hb0; (try simp only [Bool.and_eq_true, Bool.or_eq_true, Bool.and_eq_false_iff, Bool.or_eq_false_iff, Bool.not_eq_true', Bool.not_eq_false', decide_eq_true_eq, decide_eq_false_iff_not, ne_eq, Decidable.not_not, not_true_eq_false, not_false_eq_true] at hc0)
    refine cw_seq ?_
    -- region 2 tape.go:89
    refine cw_region ?_
    refine ow_step (r_assign rfl) rfl ?_
    refine ow_nil ?_
    refine ew_next ?_
    refine cw_ret ?_
    refine ew_then_ret ?_
    refine ew_ret1 rfl (.tmp rfl .nil) ⟨?_, hP.old⟩
    simp only [sndB, hb0, cond_true]
  · -- cond 0 no
    have hc0 := hb0; (try simp only [Bool.and_eq_true, Bool.or_eq_true, Bool.and_eq_false_iff, Bool.or_eq_false_iff, Bool.not_eq_true', Bool.not_eq_false', decide_eq_true_eq, decide_eq_false_iff_not, ne_eq, Decidable.not_not, not_true_eq_false, not_false_eq_true] at hc0)
    refine cw_skip ?_
    refine ew_next ?_
    refine cw_seq ?_
    refine cw_seq ?_
    -- region 3 tape.go:91
    refine cw_region ?_
    refine ow_step (r_fieldAddr rfl fl26_2) rfl ?_
    refine ow_step (r_load rfl rfl (hP.cell (i := 0) rfl rfl)) rfl ?_
    refine ow_step (r_slen rfl rfl rfl) rfl ?_
    refine ow_step (r_ge rfl rfl) rfl ?_
    refine ow_step (r_move rfl) rfl ?_
    apply ow_orP (p := 44) (m := 39) 5 hP rfl
    · intro hg3_4; have hg3_4p := hg3_4; (try simp only [Bool.and_eq_true, Bool.or_eq_true, Bool.and_eq_false_iff, Bool.or_eq_false_iff, Bool.not_eq_true', Bool.not_eq_false', decide_eq_true_eq, decide_eq_false_iff_not, ne_eq, Decidable.not_not, not_true_eq_false, not_false_eq_true] at hg3_4p)
      refine ow_guard rfl rfl rfl (by rw [hg3_4]; rfl) ?_
      refine ow_step (r_fieldAddr rfl fl26_3) rfl ?_
      refine ow_guard rfl rfl rfl (by rw [hg3_4]; rfl) ?_
      refine ow_step (r_load rfl rfl (hP.cell (i := 0) rfl rfl)) rfl ?_
      refine ow_guard rfl rfl rfl (by rw [hg3_4]; rfl) ?_
      refine ow_step (r_slen rfl rfl rfl) rfl ?_
      refine ow_guard rfl rfl rfl (by rw [hg3_4]; rfl) ?_
      refine ow_step (r_ge rfl rfl) rfl ?_
      refine ow_step (r_pickF rfl hg3_4 rfl) rfl ?_
      refine ow_nil (ew_logic rfl (by repeat (first | exact trivial | refine ⟨rfl, ?_⟩)) hP)
    · intro hg3_4
      refine ow_pass rfl rfl rfl (by rw [hg3_4]; rfl) rfl ?_
      refine ow_pass rfl rfl rfl (by rw [hg3_4]; rfl) rfl ?_
      refine ow_pass rfl rfl rfl (by rw [hg3_4]; rfl) rfl ?_
      refine ow_pass rfl rfl rfl (by rw [hg3_4]; rfl) rfl ?_
      refine ow_step (r_pickT rfl hg3_4 rfl) rfl ?_
      refine ow_nil (ew_logic rfl (by repeat (first | exact trivial | refine ⟨rfl, ?_⟩)) hP)
    intro W hP
    refine ow_step (r_move rfl) rfl ?_
    apply ow_orP (p := 49) (m := 45) 4 hP rfl
    · intro hg3_10; have hg3_10p := hg3_10; (try simp only [Bool.and_eq_true, Bool.or_eq_true, Bool.and_eq_false_iff, Bool.or_eq_false_iff, Bool.not_eq_true', Bool.not_eq_false', decide_eq_true_eq, decide_eq_false_iff_not, ne_eq, Decidable.not_not, not_true_eq_false, not_false_eq_true] at hg3_10p)
      refine ow_guard rfl rfl rfl (by rw [hg3_10]; rfl) ?_
      refine ow_step (r_fieldAddr rfl fl26_8) rfl ?_
      refine ow_guard rfl rfl rfl (by rw [hg3_10]; rfl) ?_
      refine ow_step (r_load rfl rfl (hP.cell (i := 0) rfl rfl)) rfl ?_
      refine ow_guard rfl rfl rfl (by rw [hg3_10]; rfl) ?_
      refine ow_step (r_lt rfl rfl) rfl ?_
      refine ow_step (r_pickF rfl hg3_10 rfl) rfl ?_
      refine ow_nil (ew_logic rfl (by repeat (first | exact trivial | refine ⟨rfl, ?_⟩)) hP)
    · intro hg3_10
      refine ow_pass rfl rfl rfl (by rw [hg3_10]; rfl) rfl ?_
      refine ow_pass rfl rfl rfl (by rw [hg3_10]; rfl) rfl ?_
      refine ow_pass rfl rfl rfl (by rw [hg3_10]; rfl) rfl ?_
      refine ow_step (r_pickT rfl hg3_10 rfl) rfl ?_
      refine ow_nil (ew_logic rfl (by repeat (first | exact trivial | refine ⟨rfl, ?_⟩)) hP)
    intro W hP
    refine ow_step (r_move rfl) rfl ?_
    apply ow_orP (p := 54) (m := 50) 4 hP rfl
    · intro hg3_15; have hg3_15p := hg3_15; (try simp only [Bool.and_eq_true, Bool.or_eq_true, Bool.and_eq_false_iff, Bool.or_eq_false_iff, Bool.not_eq_true', Bool.not_eq_false', decide_eq_true_eq, decide_eq_false_iff_not, ne_eq, Decidable.not_not, not_true_eq_false, not_false_eq_true] at hg3_15p)
      refine ow_guard rfl rfl rfl (by rw [hg3_15]; rfl) ?_
      refine ow_step (r_fieldAddr rfl fl26_8) rfl ?_
      refine ow_guard rfl rfl rfl (by rw [hg3_15]; rfl) ?_
      refine ow_step (r_load rfl rfl (hP.cell (i := 0) rfl rfl)) rfl ?_
      refine ow_guard rfl rfl rfl (by rw [hg3_15]; rfl) ?_
      refine ow_step (r_gt rfl rfl) rfl ?_
      refine ow_step (r_pickF rfl hg3_15 rfl) rfl ?_
      refine ow_nil (ew_logic rfl (by repeat (first | exact trivial | refine ⟨rfl, ?_⟩)) hP)
    · intro hg3_15
      refine ow_pass rfl rfl rfl (by rw [hg3_15]; rfl) rfl ?_
      refine ow_pass rfl rfl rfl (by rw [hg3_15]; rfl) rfl ?_
      refine ow_pass rfl rfl rfl (by rw [hg3_15]; rfl) rfl ?_
      refine ow_step (r_pickT rfl hg3_15 rfl) rfl ?_
      refine ow_nil (ew_logic rfl (by repeat (first | exact trivial | refine ⟨rfl, ?_⟩)) hP)
    intro W hP
    refine ow_nil ?_
    refine ew_next ?_
    refine cw_cond rfl (fun hb1 => ?_) (fun hb1 => ?_)
    · -- cond 1 yes
      have hc1 := hb1; (try simp only [Bool.and_eq_true, Bool.or_eq_true, Bool.and_eq_false_iff, Bool.or_eq_false_iff, Bool.not_eq_true', Bool.not_eq_false', decide_eq_true_eq, decide_eq_false_iff_not, ne_eq, Decidable.not_not, not_true_eq_false, not_false_eq_true] at hc1)
      refine cw_seq ?_
      -- region 4 tape.go:92
      refine cw_region ?_
      refine ow_step (r_assign rfl) rfl ?_
      refine ow_nil ?_
      refine ew_next ?_
      refine cw_ret ?_
      refine ew_then_ret ?_
      refine ew_ret1 rfl (.tmp rfl .nil) ⟨?_, hP.old⟩
      simp only [sndB, hb0, hb1, cond_true, cond_false]
    · -- cond 1 no
      have hc1 := hb1; (try simp only [Bool.and_eq_true, Bool.or_eq_true, Bool.and_eq_false_iff, Bool.or_eq_false_iff, Bool.not_eq_true', Bool.not_eq_false', decide_eq_true_eq, decide_eq_false_iff_not, ne_eq, Decidable.not_not, not_true_eq_false, not_false_eq_true] at hc1)
      refine cw_skip ?_
      refine ew_next ?_
      refine cw_seq ?_
      refine cw_seq ?_
      -- region 5 tape.go:94
      refine cw_region ?_
      refine ow_step (r_fieldAddr rfl fl26_5) rfl ?_
      refine ow_step (r_load rfl rfl (hP.cell (i := 0) rfl rfl)) rfl ?_
      refine ow_step (r_fieldAddr rfl fl26_6) rfl ?_
      refine ow_step (r_load rfl rfl (hP.cell (i := 0) rfl rfl)) rfl ?_
      refine ow_step (r_fieldAddr rfl fl26_7) rfl ?_
      refine ow_step (r_load rfl rfl (hP.cell (i := 0) rfl rfl)) rfl ?_
      refine ow_step (r_build (v := .agg (i64s [f5, f6, f7]).toArray) rfl (fun w => by kernel_rfl)) rfl ?_
      refine ow_step (r_move rfl) rfl ?_
      refine ow_nil ?_
      refine ew_next ?_
      refine cw_block ?_
      refine cw_loop (fun i => 3 - i) (fun i => [(62, .int .i64 ((i : Nat) : Int)), (61, .agg (i64s [f5, f6, f7]).toArray), (1, .pointer (some ⟨b1, 0, none⟩))]) (fun i w' => i ≤ 3 ∧ (∀ j, j < i → 0 ≤ [f5, f6, f7].getD j 0 ∧ [f5, f6, f7].getD j 0 ≤ 2097151) ∧ HP w w' [(b1, (#[.string f0, .string f1, .string f2, .string f3, .int .i64 f4, .int .i64 f5, .int .i64 f6, .int .i64 f7, .int .i64 f8, .slice A9 n9 c9] : Array Value).toList, 26)]) 0 ⟨rfl, rfl, rfl, trivial⟩ ⟨by omega, fun j hj => absurd hj (by omega), hP⟩ ?_
      clear hP; rintro i W ⟨hi, hall, hP⟩
      · -- round 0
        refine cw_seq ?_
        -- region 6 tape.go:94
        refine cw_region ?_
        refine ow_step (r_lt rfl rfl) rfl ?_
        refine ow_nil ?_
        refine ew_next ?_
        refine cw_seq ?_
        refine cw_cond rfl (fun hb2 => ?_) (fun hb2 => ?_)
        · -- cond 2 yes
          have hc2 := hb2; (try simp only [Bool.and_eq_true, Bool.or_eq_true, Bool.and_eq_false_iff, Bool.or_eq_false_iff, Bool.not_eq_true', Bool.not_eq_false', decide_eq_true_eq, decide_eq_false_iff_not, ne_eq, Decidable.not_not, not_true_eq_false, not_false_eq_true] at hc2)
          have hi3 : i < 3 := by omega
          refine cw_skip ?_
          refine ew_next ?_
          refine cw_seq ?_
          refine cw_block ?_
          refine cw_seq ?_
          -- region 7 tape.go:94
          refine cw_region ?_
          refine ow_step (r_indexVal rfl rfl Tryd.underlying70 rfl size3 ⟨by omega, by omega⟩ (i64s_at _ i hi3)) rfl ?_
          refine ow_step (r_assign rfl) rfl ?_
          refine ow_nil ?_
          refine ew_next ?_
          refine cw_seq ?_
          -- region 8 tape.go:95
          refine cw_region ?_
          refine ow_step (r_move rfl) rfl ?_
          refine ow_step (r_lt rfl rfl) rfl ?_
          refine ow_step (r_move rfl) rfl ?_
          apply ow_orP (p := 70) (m := 67) 3 hP rfl
          · intro hg8_2; have hg8_2p := hg8_2; (try simp only [Bool.and_eq_true, Bool.or_eq_true, Bool.and_eq_false_iff, Bool.or_eq_false_iff, Bool.not_eq_true', Bool.not_eq_false', decide_eq_true_eq, decide_eq_false_iff_not, ne_eq, Decidable.not_not, not_true_eq_false, not_false_eq_true] at hg8_2p)
            refine ow_guard rfl rfl rfl (by rw [hg8_2]; rfl) ?_
            refine ow_step (r_move rfl) rfl ?_
            refine ow_guard rfl rfl rfl (by rw [hg8_2]; rfl) ?_
            refine ow_step (r_gt rfl rfl) rfl ?_
            refine ow_step (r_pickF rfl hg8_2 rfl) rfl ?_
            refine ow_nil (ew_logic rfl (by repeat (first | exact trivial | refine ⟨rfl, ?_⟩)) hP)
          · intro hg8_2
            refine ow_pass rfl rfl rfl (by rw [hg8_2]; rfl) rfl ?_
            refine ow_pass rfl rfl rfl (by rw [hg8_2]; rfl) rfl ?_
            refine ow_step (r_pickT rfl hg8_2 rfl) rfl ?_
            refine ow_nil (ew_logic rfl (by repeat (first | exact trivial | refine ⟨rfl, ?_⟩)) hP)
          intro W hP
          refine ow_nil ?_
          refine ew_next ?_
          refine cw_cond rfl (fun hb3 => ?_) (fun hb3 => ?_)
          · -- cond 3 yes
            have hc3 := hb3; (try simp only [Bool.and_eq_true, Bool.or_eq_true, Bool.and_eq_false_iff, Bool.or_eq_false_iff, Bool.not_eq_true', Bool.not_eq_false', decide_eq_true_eq, decide_eq_false_iff_not, ne_eq, Decidable.not_not, not_true_eq_false, not_false_eq_true] at hc3)
            refine cw_seq ?_
            -- region 9 tape.go:96
            refine cw_region ?_
            refine ow_step (r_assign rfl) rfl ?_
            refine ow_nil ?_
            refine ew_next ?_
            refine cw_ret ?_
            refine ew_block_ret ?_
            refine ew_then_ret ?_
            refine ew_then_ret ?_
            refine ew_block_ret ?_
            refine ew_then_ret ?_
            refine ew_ret1 rfl (.tmp rfl .nil) ⟨?_, hP.old⟩
            simp only [sndB, hb0, hb1, inM_no hi3 hc3, Bool.not_false, cond_true, cond_false]
          · -- cond 3 no
            have hc3 := hb3; (try simp only [Bool.and_eq_true, Bool.or_eq_true, Bool.and_eq_false_iff, Bool.or_eq_false_iff, Bool.not_eq_true', Bool.not_eq_false', decide_eq_true_eq, decide_eq_false_iff_not, ne_eq, Decidable.not_not, not_true_eq_false, not_false_eq_true] at hc3)
            refine cw_skip ?_
            refine ew_block ?_
            refine ew_next ?_
            -- region 10 tape.go:94
            refine cw_region ?_
            refine ow_step (i_add rfl rfl (by omega)) rfl ?_
            refine ow_step (r_move rfl) rfl ?_
            refine ow_nil ?_
            refine ew_round (i + 1) ⟨rfl, rfl, rfl, trivial⟩ ⟨by omega, fun j hj => ?_, hP⟩ (by omega)
            rcases Nat.lt_or_ge j i with h | h
            · exact hall j h
            · obtain rfl : j = i := by omega
              omega
        · -- cond 2 no
          have hc2 := hb2; (try simp only [Bool.and_eq_true, Bool.or_eq_true, Bool.and_eq_false_iff, Bool.or_eq_false_iff, Bool.not_eq_true', Bool.not_eq_false', decide_eq_true_eq, decide_eq_false_iff_not, ne_eq, Decidable.not_not, not_true_eq_false, not_false_eq_true] at hc2)
          obtain rfl : i = 3 := by omega
          have g5 := hall 0 (by omega); have g6 := hall 1 (by omega); have g7 := hall 2 (by omega); simp at g5 g6 g7; clear hall
          refine cw_exit ?_
          refine ew_then_exit ?_
          refine ew_then_exit ?_
          refine ew_block_hit ?_
          refine ew_next ?_
          refine cw_seq ?_
          refine cw_seq ?_
          -- region 11 tape.go:99
          refine cw_region ?_
          refine ow_step (r_fieldAddr rfl fl26_4) rfl ?_
          refine ow_step (r_load rfl rfl (hP.cell (i := 0) rfl rfl)) rfl ?_
          refine ow_step (r_eq rfl rfl) rfl ?_
          refine ow_step (r_fieldAddr rfl fl26_1) rfl ?_
          refine ow_step (r_load rfl rfl (hP.cell (i := 0) rfl rfl)) rfl ?_
          refine ow_step (r_slen rfl rfl rfl) rfl ?_
          refine ow_step (r_gt rfl rfl) rfl ?_
          refine ow_step (r_bne rfl rfl rfl) rfl ?_
          refine ow_step (r_move rfl) rfl ?_
          apply ow_orP (p := 85) (m := 80) 5 hP rfl
          · intro hg11_8; have hg11_8p := hg11_8; (try simp only [Bool.and_eq_true, Bool.or_eq_true, Bool.and_eq_false_iff, Bool.or_eq_false_iff, Bool.not_eq_true', Bool.not_eq_false', decide_eq_true_eq, decide_eq_false_iff_not, ne_eq, Decidable.not_not, not_true_eq_false, not_false_eq_true] at hg11_8p)
            refine ow_guard rfl rfl rfl (by rw [hg11_8]; rfl) ?_
            refine ow_step (r_fieldAddr rfl fl26_1) rfl ?_
            refine ow_guard rfl rfl rfl (by rw [hg11_8]; rfl) ?_
            refine ow_step (r_load rfl rfl (hP.cell (i := 0) rfl rfl)) rfl ?_
            refine ow_guard rfl rfl rfl (by rw [hg11_8]; rfl) ?_
            refine ow_step (r_slen rfl rfl rfl) rfl ?_
            refine ow_guard rfl rfl rfl (by rw [hg11_8]; rfl) ?_
            refine ow_step (r_gt rfl rfl) rfl ?_
            refine ow_step (r_pickF rfl hg11_8 rfl) rfl ?_
            refine ow_nil (ew_logic rfl (by repeat (first | exact trivial | refine ⟨rfl, ?_⟩)) hP)
          · intro hg11_8
            refine ow_pass rfl rfl rfl (by rw [hg11_8]; rfl) rfl ?_
            refine ow_pass rfl rfl rfl (by rw [hg11_8]; rfl) rfl ?_
            refine ow_pass rfl rfl rfl (by rw [hg11_8]; rfl) rfl ?_
            refine ow_pass rfl rfl rfl (by rw [hg11_8]; rfl) rfl ?_
            refine ow_step (r_pickT rfl hg11_8 rfl) rfl ?_
            refine ow_nil (ew_logic rfl (by repeat (first | exact trivial | refine ⟨rfl, ?_⟩)) hP)
          intro W hP
          refine ow_step (r_move rfl) rfl ?_
          apply ow_orP (p := 96) (m := 86) 10 hP rfl
          · intro hg11_14; have hg11_14p := hg11_14; (try simp only [Bool.and_eq_true, Bool.or_eq_true, Bool.and_eq_false_iff, Bool.or_eq_false_iff, Bool.not_eq_true', Bool.not_eq_false', decide_eq_true_eq, decide_eq_false_iff_not, ne_eq, Decidable.not_not, not_true_eq_false, not_false_eq_true] at hg11_14p)
            refine ow_guard rfl rfl rfl (by rw [hg11_14]; rfl) ?_
            refine ow_step (r_fieldAddr rfl fl26_4) rfl ?_
            refine ow_guard rfl rfl rfl (by rw [hg11_14]; rfl) ?_
            refine ow_step (r_load rfl rfl (hP.cell (i := 0) rfl rfl)) rfl ?_
            refine ow_guard rfl rfl rfl (by rw [hg11_14]; rfl) ?_
            refine ow_step (r_ne rfl rfl) rfl ?_
            refine ow_guard rfl rfl rfl (by rw [hg11_14]; rfl) ?_
            refine ow_step (r_move rfl) rfl ?_
            apply ow_andP (p := 95) (m := 90) 5 hP rfl
            · intro hg11_18; have hg11_18p := hg11_18; (try simp only [Bool.and_eq_true, Bool.or_eq_true, Bool.and_eq_false_iff, Bool.or_eq_false_iff, Bool.not_eq_true', Bool.not_eq_false', decide_eq_true_eq, decide_eq_false_iff_not, ne_eq, Decidable.not_not, not_true_eq_false, not_false_eq_true] at hg11_18p)
              refine ow_guard rfl rfl rfl (by rw [hg11_18]; rfl) ?_
              refine ow_step (r_fieldAddr rfl fl26_9) rfl ?_
              refine ow_guard rfl rfl rfl (by rw [hg11_18]; rfl) ?_
              refine ow_step (r_load rfl rfl (hP.cell (i := 0) rfl rfl)) rfl ?_
              refine ow_guard rfl rfl rfl (by rw [hg11_18]; rfl) ?_
              refine ow_step (r_len rfl (by rfl) rfl) rfl ?_
              refine ow_guard rfl rfl rfl (by rw [hg11_18]; rfl) ?_
              refine ow_step (r_gt rfl rfl) rfl ?_
              refine ow_guard rfl rfl rfl (by rw [hg11_14]; rfl) ?_
              refine ow_step (r_pickT rfl hg11_18 rfl) rfl ?_
              refine ow_nil (ew_logic rfl (by repeat (first | exact trivial | refine ⟨rfl, ?_⟩)) hP)
            · intro hg11_18
              refine ow_pass rfl rfl rfl (by rw [hg11_18]; rfl) rfl ?_
              refine ow_pass rfl rfl rfl (by rw [hg11_18]; rfl) rfl ?_
              refine ow_pass rfl rfl rfl (by rw [hg11_18]; rfl) rfl ?_
              refine ow_pass rfl rfl rfl (by rw [hg11_18]; rfl) rfl ?_
              refine ow_guard rfl rfl rfl (by rw [hg11_14]; rfl) ?_
              refine ow_step (r_pickF rfl hg11_18 rfl) rfl ?_
              refine ow_nil (ew_logic rfl (by repeat (first | exact trivial | refine ⟨rfl, ?_⟩)) hP)
            intro W hP
            refine ow_step (r_pickF rfl hg11_14 rfl) rfl ?_
            refine ow_nil (ew_logic rfl (by repeat (first | exact trivial | refine ⟨rfl, ?_⟩)) hP)
          · intro hg11_14
            refine ow_pass rfl rfl rfl (by rw [hg11_14]; rfl) rfl ?_
            refine ow_pass rfl rfl rfl (by rw [hg11_14]; rfl) rfl ?_
            refine ow_pass rfl rfl rfl (by rw [hg11_14]; rfl) rfl ?_
            refine ow_pass rfl rfl rfl (by rw [hg11_14]; rfl) rfl ?_
            refine ow_passU rfl rfl rfl rfl ?_
            refine ow_passU rfl rfl rfl rfl ?_
            refine ow_passU rfl rfl rfl rfl ?_
            refine ow_passU rfl rfl rfl rfl ?_
            refine ow_pass rfl rfl rfl (by rw [hg11_14]; rfl) rfl ?_
            refine ow_step (r_pickT rfl hg11_14 rfl) rfl ?_
            refine ow_nil (ew_logic rfl (by repeat (first | exact trivial | refine ⟨rfl, ?_⟩)) hP)
          intro W hP
          refine ow_nil ?_
          refine ew_next ?_
          refine cw_cond rfl (fun hb4 => ?_) (fun hb4 => ?_)
          · -- cond 4 yes
            have hc4 := hb4; (try simp only [Bool.and_eq_true, Bool.or_eq_true, Bool.and_eq_false_iff, Bool.or_eq_false_iff, Bool.not_eq_true', Bool.not_eq_false', decide_eq_true_eq, decide_eq_false_iff_not, ne_eq, Decidable.not_not, not_true_eq_false, not_false_eq_true] at hc4)
            refine cw_seq ?_
            -- region 12 tape.go:100
            refine cw_region ?_
            refine ow_step (r_assign rfl) rfl ?_
            refine ow_nil ?_
            refine ew_next ?_
            refine cw_ret ?_
            refine ew_then_ret ?_
            refine ew_ret1 rfl (.tmp rfl .nil) ⟨?_, hP.old⟩
            simp only [sndB, hb0, hb1, inM_yes g5, inM_yes g6, inM_yes g7, Bool.and_true, Bool.not_true, hb4, cond_true, cond_false]
          · -- cond 4 no
            have hc4 := hb4; (try simp only [Bool.and_eq_true, Bool.or_eq_true, Bool.and_eq_false_iff, Bool.or_eq_false_iff, Bool.not_eq_true', Bool.not_eq_false', decide_eq_true_eq, decide_eq_false_iff_not, ne_eq, Decidable.not_not, not_true_eq_false, not_false_eq_true] at hc4)
            refine cw_skip ?_
            refine ew_next ?_
            refine cw_seq ?_
            -- region 13 tape.go:102
            refine cw_region ?_
            refine ow_step (r_fieldAddr rfl fl26_0) rfl ?_
            refine ow_step (r_load rfl rfl (hP.cell (i := 0) rfl rfl)) rfl ?_
            refine ow_call en39 rfl (tape_cut.calls k f0 p r ok _ hcut) rfl ?_
            rintro e W ⟨rfl, ⟨m_, rfl⟩⟩; replace hP := hP.drewN m_; refine ⟨_, rfl, ?_⟩
            refine ow_step (r_move rfl) rfl ?_
            refine ow_step (r_extract rfl rfl) rfl ?_
            refine ow_step (r_extract rfl rfl) rfl ?_
            refine ow_step (r_extract rfl rfl) rfl ?_
            refine ow_step (r_assign rfl) rfl ?_
            refine ow_step (r_assign rfl) rfl ?_
            refine ow_step (r_assign rfl) rfl ?_
            refine ow_nil ?_
            refine ew_next ?_
            refine cw_seq ?_
            -- region 14 DRAWS tape.go:103
            refine cw_quietP hP (by kernel_rfl) (by kernel_rfl) ?_
            refine qw_step (fun w hw => r_move rfl) rfl ?_
            refine qw_step (fun w hw => r_move rfl) rfl ?_
            apply qw_and (p := 113) (m := 105) 8 rfl
            · intro hg14_1; have hg14_1p := hg14_1; (try simp only [Bool.and_eq_true, Bool.or_eq_true, Bool.and_eq_false_iff, Bool.or_eq_false_iff, Bool.not_eq_true', Bool.not_eq_false', decide_eq_true_eq, decide_eq_false_iff_not, ne_eq, Decidable.not_not, not_true_eq_false, not_false_eq_true] at hg14_1p)
              refine qw_guard rfl rfl rfl (by rw [hg14_1]; rfl) ?_
              refine qw_step (fun w hw => r_fieldAddr rfl fl26_0) rfl ?_
              refine qw_guard rfl rfl rfl (by rw [hg14_1]; rfl) ?_
              refine qw_step (fun w hw => r_load rfl rfl (hw.cell (i := 0) rfl rfl)) rfl ?_
              refine qw_guard rfl rfl rfl (by rw [hg14_1]; rfl) ?_
              refine qw_call en40 rfl (fun w hw => (strings_HasSuffix.calls f0 ⟨#[47]⟩ sf _ hsf).mono (fun e w' ⟨he, m_, hm_⟩ => ⟨he, hm_ ▸ hw.drewN m_⟩)) rfl ?_
              refine qw_guard rfl rfl rfl (by rw [hg14_1]; rfl) ?_
              refine qw_step (fun w hw => r_fieldAddr rfl fl26_4) rfl ?_
              refine qw_guard rfl rfl rfl (by rw [hg14_1]; rfl) ?_
              refine qw_step (fun w hw => r_load rfl rfl (hw.cell (i := 0) rfl rfl)) rfl ?_
              refine qw_guard rfl rfl rfl (by rw [hg14_1]; rfl) ?_
              refine qw_step (fun w hw => r_eq rfl rfl) rfl ?_
              refine qw_guard rfl rfl rfl (by rw [hg14_1]; rfl) ?_
              refine qw_step (fun w hw => r_beq rfl rfl rfl) rfl ?_
              refine qw_step (fun w hw => r_pickT rfl hg14_1 rfl) rfl ?_
              exact qw_end rfl (by repeat (first | exact trivial | refine ⟨rfl, ?_⟩))
            · intro hg14_1
              refine qw_pass rfl rfl rfl (by rw [hg14_1]; rfl) rfl ?_
              refine qw_pass rfl rfl rfl (by rw [hg14_1]; rfl) rfl ?_
              refine qw_pass rfl rfl rfl (by rw [hg14_1]; rfl) rfl ?_
              refine qw_pass rfl rfl rfl (by rw [hg14_1]; rfl) rfl ?_
              refine qw_pass rfl rfl rfl (by rw [hg14_1]; rfl) rfl ?_
              refine qw_pass rfl rfl rfl (by rw [hg14_1]; rfl) rfl ?_
              refine qw_pass rfl rfl rfl (by rw [hg14_1]; rfl) rfl ?_
              refine qw_step (fun w hw => r_pickF rfl hg14_1 rfl) rfl ?_
              exact qw_end rfl (by repeat (first | exact trivial | refine ⟨rfl, ?_⟩))
            refine qw_step (fun w hw => r_assign rfl) rfl ?_
            clear hP; refine qw_nil (fun W hP => ?_)
            refine ew_next ?_
            refine cw_ret ?_
            refine ew_ret1 rfl (.tmp rfl .nil) ⟨?_, hP.old⟩
            simp only [sndB, hb0, hb1, inM_yes g5, inM_yes g6, inM_yes g7, Bool.and_true, Bool.not_true, hb4, cond_true, cond_false]
end Go.Proofs.YtlhmbncalonomaaDoor.Snd
namespace Go.Proofs.YtlhmbncalonomaaDoor.TpB
open Go.RowKit Go.Proofs.YtlhmbncalonomaaDoor.Q Go.Proofs.YtlhmbncalonomaaDoor.Cpy Go.Proofs.YtlhmbncalonomaaDoor.Hand Go.Proofs.YtlhmbncalonomaaDoor.Arr Go.Proofs.YtlhmbncalonomaaDoor.Sx Go.Proofs.YtlhmbncalonomaaDoor.Head Go.Proofs.YtlhmbncalonomaaDoorW.PrintWords Go.Proofs.YtlhmbncalonomaaDoorW.PrintLast Go.Proofs.YtlhmbncalonomaaDoorW.PrintMore
set_option linter.unusedVariables false
set_option linter.unusedSimpArgs false
def padT (n : Nat) : Nat := (n + 511) / 512 * 512
def sumTo (L : List Int) (i : Nat) : Int := (L.take i).sum
theorem bt_bn (s : ByteArray) (i : Nat) (h : i < s.size) : bt s (i : Int) = (bn s).getD i 0 := by
  unfold bt bn
  have h2 : i < s.data.toList.length := by rw [Array.length_toList]; exact h
  simp only [Int.toNat_natCast, h, dif_pos, List.getD_eq_getElem?_getD, List.getElem?_map, List.getElem?_eq_getElem h2]
  rfl
theorem sumTo_succ (L : List Int) (i : Nat) (h : i < L.length) : sumTo L (i + 1) = sumTo L i + L.getD i 0 := by
  unfold sumTo
  rw [List.take_add_one, List.sum_append, List.getD_eq_getElem?_getD, List.getElem?_eq_getElem h]
  simp
theorem sumTo_range (L : List Int) (hL : ∀ x ∈ L, 0 ≤ x ∧ x ≤ 255) (i : Nat) (h : i ≤ L.length) : 0 ≤ sumTo L i ∧ sumTo L i ≤ 255 * (i : Int) := by
  induction i with
  | zero => simp [sumTo]
  | succ i ih =>
    have h1 := ih (by omega)
    have h2 := hL (L.getD i 0) (by rw [List.getD_eq_getElem?_getD, List.getElem?_eq_getElem (by omega)]; exact List.getElem_mem _)
    rw [sumTo_succ L i (by omega)]
    omega
theorem bn_range (s : ByteArray) : ∀ x ∈ bn s, 0 ≤ x ∧ x ≤ 255 := (inrB s).out
set_option maxRecDepth 100000 in
theorem up_calls (n : Nat) (w : World) (h : n ≤ 1099511627776) : Calls Tryd.prog 20 #[.int .i64 (n : Int)] w fun e w' => e = .returned (.int .i64 (padT n : Nat)) ∧ w' = w := by
  refine calls_cw Tryd.func20 rfl rfl (by simp) ?_
  refine cw_seq ?_
  -- region 0 tape.go:71
  refine cw_region ?_
  refine ow_step (r_assign rfl) rfl ?_
  refine ow_nil ?_
  refine ew_next ?_
  refine cw_seq ?_
  -- region 1 tape.go:71
  refine cw_region ?_
  refine ow_step (r_move rfl) rfl ?_
  refine ow_step (i_add rfl rfl (by omega)) rfl ?_
  refine ow_step (i_sub rfl rfl (by omega)) rfl ?_
  refine ow_step (i_quo rfl rfl (by omega)) rfl ?_
  refine ow_step (i_mul rfl rfl (by omega)) rfl ?_
  refine ow_step (r_assign rfl) rfl ?_
  refine ow_nil ?_
  refine ew_next ?_
  refine cw_ret ?_
  refine ew_ret1 rfl (.tmp rfl .nil) ⟨?_, rfl⟩
  congr 2
  unfold padT; omega
end Go.Proofs.YtlhmbncalonomaaDoor.TpB
namespace Go.Proofs.YtlhmbncalonomaaDoor.Spc
open Go.RowKit Go.Proofs.YtlhmbncalonomaaDoor.Q Go.Proofs.YtlhmbncalonomaaDoorW.PrintWords
set_option linter.unusedVariables false
set_option linter.unusedSimpArgs false
theorem w64 {n : Int} (h : -9223372036854775808 ≤ n ∧ n ≤ 9223372036854775807) : wrap64 n = n := by unfold wrap64; omega
theorem ext_size (s : ByteArray) (a b : Nat) (h : a ≤ b) (hb : b ≤ s.size) : (s.extract a b).size = b - a := by
  rw [ByteArray.size_extract]; omega
theorem split_no (s : ByteArray) (hs : s.size ≤ 1048576) : ∀ (d i k : Nat), 1 ≤ i → (155 < i ∨ s.size ≤ i) → s.size - i ≤ d → d < k → valiseref24_split.l0 k s (i : Int) = some (⟨#[]⟩, ⟨#[]⟩, false)
  | d, i, 0, _, _, _, hk => by omega
  | d, i, k + 1, h1, hc, hd, hk => by
    simp only [valiseref24_split.l0]
    by_cases hlt : (i : Int) < (s.size : Int)
    · have e1 : wrap64 ((i : Int) + 1) = ((i + 1 : Nat) : Int) := by rw [w64 (by omega)]; rfl
      have hn : ¬ (i : Int) ≤ 155 := by omega
      have ih := split_no s hs (d - 1) (i + 1) k (by omega) (by omega) (by omega) (by omega)
      rw [if_pos hlt, if_pos (by omega)]
      by_cases h47 : bt s (i : Int) = 47
      · rw [if_pos h47, if_neg hn, e1, ih]
      · rw [if_neg h47, e1, ih]
    · rw [if_neg hlt]
theorem cut_split (s : ByteArray) (hs : s.size ≤ 1048576) : ∀ (d i k : Nat), 1 ≤ i → s.size - i ≤ d → d < k → ∃ p r p' r' ok, tape_cut.l0 k s (i : Int) = some (p, r, ok) ∧ valiseref24_split.l0 k s (i : Int) = some (p', r', ok) ∧
    (ok = true → p = p' ∧ r = r' ∧ p.size ≤ 155 ∧ r.size ≤ 100 ∧ 1 ≤ r.size)
  | d, i, 0, _, _, hk => by omega
  | d, i, k + 1, h1, hd, hk => by
    simp only [valiseref24_split.l0, tape_cut.l0]
    by_cases hlt : (i : Int) < (s.size : Int)
    · have e1 : wrap64 ((i : Int) + 1) = ((i + 1 : Nat) : Int) := by rw [w64 (by omega)]; rfl
      have e2 : wrap64 ((wrap64 ((s.size : Int) - (i : Int))) - 1) = (s.size : Int) - i - 1 := by rw [w64 (n := (s.size : Int) - i) (by omega), w64 (by omega)]
      obtain ⟨p, r, p', r', ok, g1, g2, g3⟩ := cut_split s hs (d - 1) (i + 1) k (by omega) (by omega) (by omega)
      rw [if_pos hlt, if_pos hlt, if_pos (show (0 : Int) ≤ i by omega), if_pos (show (0 : Int) ≤ i by omega), e1, e2]
      by_cases h47 : bt s (i : Int) = 47
      · rw [if_pos h47, if_pos h47]
        by_cases h100 : (s.size : Int) - i - 1 ≤ 100
        · rw [if_pos h100, if_pos (show (i : Int) ≤ (s.size : Int) by omega), if_pos (show (0 : Int) ≤ ((i + 1 : Nat) : Int) by omega), if_pos (show ((i + 1 : Nat) : Int) ≤ (s.size : Int) by omega)]
          by_cases h155 : (i : Int) ≤ 155
          · rw [if_pos h155, if_pos h155]
            by_cases h0 : (s.size : Int) - i - 1 ≥ 1
            · rw [if_pos h0, if_pos h100, if_pos (show (i : Int) ≤ (s.size : Int) by omega), if_pos (show (0 : Int) ≤ ((i + 1 : Nat) : Int) by omega), if_pos (show ((i + 1 : Nat) : Int) ≤ (s.size : Int) by omega)]
              rw [decide_eq_true (show ((s.size : Int) - i - 1 > 0) by omega)]
              refine ⟨_, _, _, _, true, rfl, rfl, fun _ => ⟨rfl, rfl, ?_, ?_, ?_⟩⟩
              · rw [ext_size _ _ _ (by omega) (by omega)]; omega
              · rw [ext_size _ _ _ (by omega) (by omega)]; omega
              · rw [ext_size _ _ _ (by omega) (by omega)]; omega
            · rw [if_neg h0, split_no s hs (d - 1) (i + 1) k (by omega) (by omega) (by omega) (by omega)]
              rw [decide_eq_false (show ¬ ((s.size : Int) - i - 1 > 0) by omega)]
              exact ⟨_, _, _, _, false, rfl, rfl, fun h => by cases h⟩
          · rw [if_neg h155, if_neg h155, split_no s hs (d - 1) (i + 1) k (by omega) (by omega) (by omega) (by omega)]
            exact ⟨_, _, _, _, false, rfl, rfl, fun h => by cases h⟩
        · rw [if_neg h100]
          refine ⟨p, r, p', r', ok, g1, ?_, g3⟩
          by_cases h155 : (i : Int) ≤ 155
          · rw [if_pos h155, if_pos (show (s.size : Int) - i - 1 ≥ 1 by omega), if_neg h100]; exact g2
          · rw [if_neg h155]; exact g2
      · rw [if_neg h47, if_neg h47]
        exact ⟨p, r, p', r', ok, g1, g2, g3⟩
    · rw [if_neg hlt, if_neg hlt]
      exact ⟨_, _, _, _, false, rfl, rfl, fun h => by cases h⟩
def cutP (s : ByteArray) : ByteArray × ByteArray × Bool := (tape_cut.f (s.size + 2) s).getD (⟨#[]⟩, ⟨#[]⟩, false)
def splitP (s : ByteArray) : ByteArray × ByteArray × Bool := (valiseref24_split.f (s.size + 2) s).getD (⟨#[]⟩, ⟨#[]⟩, false)
theorem cuts (s : ByteArray) (hs : s.size ≤ 1048576) : tape_cut.f (s.size + 2) s = some (cutP s) ∧ valiseref24_split.f (s.size + 2) s = some (splitP s) ∧ (cutP s).2.2 = (splitP s).2.2 ∧
    ((cutP s).2.2 = true → cutP s = splitP s ∧ (cutP s).1.size ≤ 155 ∧ (cutP s).2.1.size ≤ 100 ∧ 1 ≤ (cutP s).2.1.size) := by
  by_cases h : (s.size : Int) ≤ 100
  · have e1 : tape_cut.f (s.size + 2) s = some (⟨#[]⟩, s, decide ((s.size : Int) > 0)) := by unfold tape_cut.f; rw [if_pos h]
    have e2 : valiseref24_split.f (s.size + 2) s = some (⟨#[]⟩, s, decide ((s.size : Int) > 0)) := by unfold valiseref24_split.f; rw [if_pos h]
    have c1 : cutP s = (⟨#[]⟩, s, decide ((s.size : Int) > 0)) := by unfold cutP; rw [e1]; rfl
    have c2 : splitP s = (⟨#[]⟩, s, decide ((s.size : Int) > 0)) := by unfold splitP; rw [e2]; rfl
    rw [c1, c2]
    refine ⟨e1, e2, rfl, fun h0 => ⟨rfl, ?_, ?_, ?_⟩⟩
    · show (0 : Nat) ≤ 155
      omega
    · show s.size ≤ 100
      omega
    · have := of_decide_eq_true h0
      show 1 ≤ s.size
      omega
  · obtain ⟨p, r, p', r', ok, g1, g2, g3⟩ := cut_split s hs s.size 1 (s.size + 2) (by omega) (by omega) (by omega)
    have e1 : tape_cut.f (s.size + 2) s = some (p, r, ok) := by unfold tape_cut.f; rw [if_neg h]; exact g1
    have e2 : valiseref24_split.f (s.size + 2) s = some (p', r', ok) := by unfold valiseref24_split.f; rw [if_neg h]; exact g2
    have c1 : cutP s = (p, r, ok) := by unfold cutP; rw [e1]; rfl
    have c2 : splitP s = (p', r', ok) := by unfold splitP; rw [e2]; rfl
    rw [c1, c2]
    refine ⟨e1, e2, rfl, fun h0 => ?_⟩
    obtain ⟨h1, h2, h3, h4, h5⟩ := g3 h0
    exact ⟨by rw [h1, h2], h3, h4, h5⟩
end Go.Proofs.YtlhmbncalonomaaDoor.Spc
namespace Go.Proofs.YtlhmbncalonomaaDoor.Spd
open Go.RowKit Go.Proofs.YtlhmbncalonomaaDoor.Q Go.Proofs.YtlhmbncalonomaaDoor.Snd Go.Proofs.YtlhmbncalonomaaDoor.Spc Go.Proofs.YtlhmbncalonomaaDoorW.PrintWords
set_option linter.unusedVariables false
set_option linter.unusedSimpArgs false
def z0 (s : ByteArray) : Bool := s.data.toList.any (· == 0)
theorem indexByte_pos (l : List UInt8) : decide (0 ≤ Lib.indexByte l 0) = l.any (· == 0) := by
  induction l with
  | nil => rfl
  | cons b r ih =>
    simp only [Lib.indexByte, List.any_cons]
    by_cases hb : b == 0
    · simp [hb]
    · simp only [hb, Bool.false_or, ← ih]
      have := Lib.indexByte_ge r 0
      by_cases h1 : Lib.indexByte r 0 = -1
      · simp [h1]
      · simp [h1]; omega
theorem has0_z0 (s : ByteArray) : has0 s = z0 s := indexByte_pos _
theorem z0_app (a b : ByteArray) : z0 (a ++ b) = (z0 a || z0 b) := by
  unfold z0
  rw [ByteArray.data_append, Array.toList_append, List.any_append]
def sl47 (s : ByteArray) : Bool := decide (1 ≤ s.size) && decide (bt s ((s.size : Int) - 1) = 47)
theorem suffix_eq (s : ByteArray) (hs : s.size ≤ 1048576) : strings_HasSuffix.f s ⟨#[47]⟩ = some (sl47 s) := by
  have e0 : ((⟨#[47]⟩ : ByteArray).size : Int) = 1 := rfl
  unfold strings_HasSuffix.f stringslite_HasSuffix.f sl47
  rw [e0]
  by_cases h : (s.size : Int) ≥ 1
  · have e1 : wrap64 ((s.size : Int) - 1) = (s.size : Int) - 1 := w64 (by omega)
    rw [if_pos h, e1, if_pos (by omega), if_pos (by omega), decide_eq_true (by omega : 1 ≤ s.size)]
    simp only [Option.bind_some, Bool.true_and, Option.some.injEq]
    have hl : s.size - 1 < s.data.toList.length := by rw [Array.length_toList]; exact (by omega : s.size - 1 < s.size)
    have e2 : (s.extract ((s.size : Int) - 1).toNat s.size).toList = [s.data.toList[s.size - 1]] := by
      have e3 : ((s.size : Int) - 1).toNat = s.size - 1 := by omega
      rw [e3]
      have e4 : ∀ t : ByteArray, t.toList = t.data.toList := fun t => by obtain ⟨⟨l⟩⟩ := t; simp
      rw [e4, ByteArray.data_extract, Array.toList_extract, List.extract_eq_take_drop]
      have e5 : s.size - (s.size - 1) = 1 := by omega
      rw [e5, List.drop_eq_getElem_cons hl]
      rfl
    rw [e2]
    have e6 : ((⟨#[47]⟩ : ByteArray)).toList = [47] := by decide +kernel
    rw [e6]
    have e7 : (s.size : Int) - 1 = ((s.size - 1 : Nat) : Int) := by omega
    rw [e7]
    unfold bt
    have e8 : s.size - 1 < s.size := by omega
    simp only [Int.toNat_natCast, e8, dif_pos]
    have e : s[s.size - 1] = s.data.toList[s.size - 1] := rfl
    rw [e]
    generalize s.data.toList[s.size - 1] = c
    by_cases hc : c = 47
    · subst hc; rfl
    · have : ¬ ((c.toNat : Int) = 47) := fun h => hc (UInt8.toNat_inj.1 (by show c.toNat = 47; omega))
      simp [hc, this]
  · rw [if_neg h, decide_eq_false (by omega : ¬ 1 ≤ s.size)]
    rfl
theorem empty_iff (s : ByteArray) : (s.toList = ([] : List UInt8)) ↔ s.size = 0 := by
  have e4 : s.toList = s.data.toList := by obtain ⟨⟨l⟩⟩ := s; simp
  rw [e4]
  constructor
  · intro h
    have : s.data.toList.length = 0 := by rw [h]; rfl
    rw [Array.length_toList] at this
    exact this
  · intro h
    apply List.eq_nil_of_length_eq_zero
    rw [Array.length_toList]
    exact h
def sndF (f0 f1 f2 f3 : ByteArray) (f4 f5 f6 f7 f8 : Int) (n9 : Nat) : Bool := sndB f0 f1 f2 f3 f4 f5 f6 f7 f8 n9 (cutP f0).2.2 (sl47 f0)
end Go.Proofs.YtlhmbncalonomaaDoor.Spd
namespace Go.Proofs.YtlhmbncalonomaaDoor.TpH
open Go.RowKit Go.Proofs.YtlhmbncalonomaaDoor.Q Go.Proofs.YtlhmbncalonomaaDoor.Cpy Go.Proofs.YtlhmbncalonomaaDoor.Hand Go.Proofs.YtlhmbncalonomaaDoor.Arr Go.Proofs.YtlhmbncalonomaaDoor.Sx Go.Proofs.YtlhmbncalonomaaDoor.Head Go.Proofs.YtlhmbncalonomaaDoor.Snd Go.Proofs.YtlhmbncalonomaaDoor.TpB Go.Proofs.YtlhmbncalonomaaDoorW.PrintWords Go.Proofs.YtlhmbncalonomaaDoorW.PrintLast Go.Proofs.YtlhmbncalonomaaDoorW.PrintMore
set_option linter.unusedVariables false
set_option linter.unusedSimpArgs false
def fldL (n : Nat) (l : List Int) : List Int := l ++ List.replicate (n - l.length) 0
def flat : List (Nat × List Int) → List Int
  | [] => []
  | p :: r => fldL p.1 p.2 ++ flat r
def offs (fs : List (Nat × List Int)) (j : Nat) : Nat := ((fs.take j).map (·.1)).sum
def okF (fs : List (Nat × List Int)) : Prop := ∀ p ∈ fs, p.2.length ≤ p.1
theorem fldL_length {n : Nat} {l : List Int} (h : l.length ≤ n) : (fldL n l).length = n := by
  unfold fldL; rw [List.length_append, List.length_replicate]; omega
theorem splice_zero (L l : List Int) : splice L 0 l = l ++ L.drop l.length := by simp [splice]
theorem splice_app (A B l : List Int) (o : Nat) : splice (A ++ B) (A.length + o) l = A ++ splice B o l := by
  unfold splice
  rw [List.take_append, List.drop_append]
  simp [List.take_of_length_le, List.drop_eq_nil_of_le, Nat.add_assoc]
theorem splice_in (A B l : List Int) (h : l.length ≤ A.length) : splice (A ++ B) 0 l = splice A 0 l ++ B := by
  rw [splice_zero, splice_zero, List.drop_append, show l.length - A.length = 0 by omega, List.drop_zero, List.append_assoc]
theorem splice_flat : ∀ (fs : List (Nat × List Int)) (j n : Nat) (l0 l : List Int), okF fs → fs[j]? = some (n, l0) → l.length ≤ n → splice (flat fs) (offs fs j) l = flat (fs.set j (n, splice (fldL n l0) 0 l))
  | [], j, n, l0, l, ho, h, hl => by simp at h
  | p :: r, 0, n, l0, l, ho, h, hl => by
    simp at h; subst h
    have h0 : l0.length ≤ n := ho (n, l0) List.mem_cons_self
    have h1 := fldL_length h0
    show splice (fldL n l0 ++ flat r) 0 l = fldL n (splice (fldL n l0) 0 l) ++ flat r
    rw [splice_in _ _ _ (by omega)]
    congr 1
    have h2 : (splice (fldL n l0) 0 l).length = n := by rw [length_splice _ _ _ (by omega)]; exact h1
    unfold fldL at h2 ⊢
    rw [h2, Nat.sub_self]
    simp
  | p :: r, j + 1, n, l0, l, ho, h, hl => by
    have h0 : p.2.length ≤ p.1 := ho p List.mem_cons_self
    have h1 := fldL_length h0
    have ih := splice_flat r j n l0 l (fun q hq => ho q (List.mem_cons_of_mem _ hq)) (by simpa using h) hl
    show splice (fldL p.1 p.2 ++ flat r) (offs (p :: r) (j + 1)) l = fldL p.1 p.2 ++ flat (r.set j _)
    rw [show offs (p :: r) (j + 1) = (fldL p.1 p.2).length + offs r j by simp [offs, h1], splice_app, ih]
theorem fld_empty (n : Nat) (l : List Int) (h : l.length ≤ n) : fldL n (splice (fldL n []) 0 l) = fldL n l := by
  unfold fldL
  rw [splice_zero]
  simp
  omega
theorem flat_set : ∀ (fs : List (Nat × List Int)) (j n : Nat) (a b : List Int), fldL n a = fldL n b → flat (fs.set j (n, a)) = flat (fs.set j (n, b))
  | [], j, n, a, b, h => rfl
  | p :: r, 0, n, a, b, h => by simp [flat, h]
  | p :: r, j + 1, n, a, b, h => by simp only [List.set_cons_succ, flat]; rw [flat_set r j n a b h]
theorem splice_flat0 (fs : List (Nat × List Int)) (j n off : Nat) (l : List Int) (ho : okF fs) (h : fs[j]? = some (n, [])) (hl : l.length ≤ n) (hoff : offs fs j = off) : splice (flat fs) off l = flat (fs.set j (n, l)) := by
  subst hoff
  rw [splice_flat fs j n [] l ho h hl]
  exact flat_set _ _ _ _ _ (fld_empty n l hl)
theorem okF_set {fs : List (Nat × List Int)} (h : okF fs) (j n : Nat) (l : List Int) (hl : l.length ≤ n) : okF (fs.set j (n, l)) := fun p hp => by
  rcases List.mem_or_eq_of_mem_set hp with hp | rfl
  · exact h p hp
  · exact hl
theorem set_splice (L : List Int) (i : Nat) (v : Int) (h : i < L.length) : L.set i v = splice L i [v] := by
  unfold splice
  rw [List.set_eq_take_append_cons_drop, if_pos h]
  simp
theorem splice_set (L l : List Int) (off : Nat) (v : Int) (h : off + l.length < L.length) : (splice L off l).set (off + l.length) v = splice L off (l ++ [v]) := by
  have hA : (L.take off).length = off := by rw [List.length_take]; omega
  unfold splice
  rw [List.set_append_right _ _ (by omega), hA, Nat.add_sub_cancel_left, List.set_append_right _ _ (Nat.le_refl _), Nat.sub_self, List.drop_eq_getElem_cons h, List.set_cons_zero, List.length_append, List.append_assoc]
  rfl
def fs0 : List (Nat × List Int) := [(100, []), (8, []), (8, []), (8, []), (12, []), (12, []), (8, []), (1, []), (100, []), (8, []), (32, []), (32, []), (8, []), (8, []), (155, []), (12, [])]
theorem Z_flat : Z = flat fs0 := by decide +kernel
def fsH (p r f1 f2 f3 : ByteArray) (f4 f5 f6 f7 n9 f8 : Int) (sum : List Int) : List (Nat × List Int) :=
  [(100, bn r), (8, digs 7 f5), (8, digs 7 f6), (8, digs 7 f7), (12, digs 11 n9), (12, digs 11 f8), (8, sum), (1, [48 + f4]), (100, bn f1), (8, bn magic), (32, bn f2), (32, bn f3), (8, digs 7 0), (8, digs 7 0), (155, bn p), (12, [])]
theorem okF_H (p r f1 f2 f3 : ByteArray) (f4 f5 f6 f7 n9 f8 : Int) (sum : List Int) (hp : p.size ≤ 155) (hr : r.size ≤ 100) (h1 : f1.size ≤ 100) (h2 : f2.size ≤ 32) (h3 : f3.size ≤ 32) (hs : sum.length ≤ 8) : okF (fsH p r f1 f2 f3 f4 f5 f6 f7 n9 f8 sum) := fun q hq => by
  have hm : magic.size = 8 := rfl
  simp only [fsH, List.mem_cons, List.not_mem_nil, or_false] at hq
  rcases hq with rfl | rfl | rfl | rfl | rfl | rfl | rfl | rfl | rfl | rfl | rfl | rfl | rfl | rfl | rfl | rfl <;> simp [bn_length, digs_length, hm] <;> omega
theorem flat_length : ∀ (fs : List (Nat × List Int)), okF fs → (flat fs).length = (fs.map (·.1)).sum
  | [], _ => rfl
  | p :: r, h => by
    simp only [flat, List.length_append, List.map_cons, List.sum_cons]
    rw [fldL_length (h p List.mem_cons_self), flat_length r (fun q hq => h q (List.mem_cons_of_mem _ hq))]
theorem fsH_length (p r f1 f2 f3 : ByteArray) (f4 f5 f6 f7 n9 f8 : Int) (sum : List Int) (hp : p.size ≤ 155) (hr : r.size ≤ 100) (h1 : f1.size ≤ 100) (h2 : f2.size ≤ 32) (h3 : f3.size ≤ 32) (hs : sum.length ≤ 8) : (flat (fsH p r f1 f2 f3 f4 f5 f6 f7 n9 f8 sum)).length = 512 := by
  rw [flat_length _ (okF_H p r f1 f2 f3 f4 f5 f6 f7 n9 f8 sum hp hr h1 h2 h3 hs)]
  simp [fsH]
def Is (L : List Int) (fs : List (Nat × List Int)) : Prop := L = flat fs ∧ okF fs
theorem Is.spl {L : List Int} {fs : List (Nat × List Int)} (h : Is L fs) (j n off : Nat) (l : List Int) (hj : fs[j]? = some (n, [])) (hl : l.length ≤ n) (ho : offs fs j = off) : Is (splice L off l) (fs.set j (n, l)) := by
  obtain ⟨rfl, h2⟩ := h
  exact ⟨splice_flat0 fs j n off l h2 hj hl ho, okF_set h2 j n l hl⟩
theorem Is.put {L : List Int} {fs : List (Nat × List Int)} (h : Is L fs) (j off : Nat) (v : Int) (hj : fs[j]? = some (1, [])) (ho : offs fs j = off) (hlt : Nat.blt off (fs.map (·.1)).sum = true) : Is (L.set off v) (fs.set j (1, [v])) := by
  have hl : off < L.length := by rw [h.1, flat_length _ h.2]; exact Nat.lt_of_succ_le (Nat.le_of_ble_eq_true hlt)
  rw [set_splice L off v hl]
  exact h.spl j 1 off [v] hj (by simp) ho
theorem okF0 : okF fs0 := fun q hq => by
  simp only [fs0, List.mem_cons, List.not_mem_nil, or_false] at hq
  rcases hq with rfl | rfl | rfl | rfl | rfl | rfl | rfl | rfl | rfl | rfl | rfl | rfl | rfl | rfl | rfl | rfl <;> simp
theorem dl7 (n : Int) : (digs 7 n).length ≤ 8 := by rw [digs_length]; omega
theorem dl11 (n : Int) : (digs 11 n).length ≤ 12 := by rw [digs_length]; omega
theorem bl {s : ByteArray} {n : Nat} (h : s.size ≤ n) : (bn s).length ≤ n := by rw [bn_length]; exact h
theorem hd1_is (p r f1 f2 f3 : ByteArray) (f4 : Int) (hp : p.size ≤ 155) (hr : r.size ≤ 100) (h1 : f1.size ≤ 100) (h2 : f2.size ≤ 32) (h3 : f3.size ≤ 32) : Is (hd1 p r f1 f2 f3 f4)
    [(100, bn r), (8, []), (8, []), (8, []), (12, []), (12, []), (8, []), (1, [48 + f4]), (100, bn f1), (8, bn magic), (32, bn f2), (32, bn f3), (8, []), (8, []), (155, bn p), (12, [])] := by
  have s0 : Is Z [(100, []), (8, []), (8, []), (8, []), (12, []), (12, []), (8, []), (1, []), (100, []), (8, []), (32, []), (32, []), (8, []), (8, []), (155, []), (12, [])] := ⟨Z_flat, okF0⟩
  have s1 : Is (splice Z 0 (bn r)) [(100, bn r), (8, []), (8, []), (8, []), (12, []), (12, []), (8, []), (1, []), (100, []), (8, []), (32, []), (32, []), (8, []), (8, []), (155, []), (12, [])] := s0.spl 0 100 0 (bn r) (by simp) (bl hr) (by simp [offs])
  have s2 : Is (splice (splice Z 0 (bn r)) 345 (bn p)) [(100, bn r), (8, []), (8, []), (8, []), (12, []), (12, []), (8, []), (1, []), (100, []), (8, []), (32, []), (32, []), (8, []), (8, []), (155, bn p), (12, [])] := s1.spl 14 155 345 (bn p) (by simp) (bl hp) (by simp [offs])
  have s3 : Is (splice (splice (splice Z 0 (bn r)) 345 (bn p)) 157 (bn f1)) [(100, bn r), (8, []), (8, []), (8, []), (12, []), (12, []), (8, []), (1, []), (100, bn f1), (8, []), (32, []), (32, []), (8, []), (8, []), (155, bn p), (12, [])] := s2.spl 8 100 157 (bn f1) (by simp) (bl h1) (by simp [offs])
  have s4 : Is (splice (splice (splice (splice Z 0 (bn r)) 345 (bn p)) 157 (bn f1)) 265 (bn f2)) [(100, bn r), (8, []), (8, []), (8, []), (12, []), (12, []), (8, []), (1, []), (100, bn f1), (8, []), (32, bn f2), (32, []), (8, []), (8, []), (155, bn p), (12, [])] := s3.spl 10 32 265 (bn f2) (by simp) (bl h2) (by simp [offs])
  have s5 : Is (splice (splice (splice (splice (splice Z 0 (bn r)) 345 (bn p)) 157 (bn f1)) 265 (bn f2)) 297 (bn f3)) [(100, bn r), (8, []), (8, []), (8, []), (12, []), (12, []), (8, []), (1, []), (100, bn f1), (8, []), (32, bn f2), (32, bn f3), (8, []), (8, []), (155, bn p), (12, [])] := s4.spl 11 32 297 (bn f3) (by simp) (bl h3) (by simp [offs])
  have s6 : Is (splice (splice (splice (splice (splice (splice Z 0 (bn r)) 345 (bn p)) 157 (bn f1)) 265 (bn f2)) 297 (bn f3)) 257 (bn magic)) [(100, bn r), (8, []), (8, []), (8, []), (12, []), (12, []), (8, []), (1, []), (100, bn f1), (8, bn magic), (32, bn f2), (32, bn f3), (8, []), (8, []), (155, bn p), (12, [])] := s5.spl 9 8 257 (bn magic) (by simp) (Nat.le_refl 8) (by simp [offs])
  exact s6.put 7 156 (48 + f4) (by simp) (by simp [offs]) (by simp)
theorem hd2_is {L : List Int} {a b c d e f : List Int} {v : Int} (f5 f6 f7 n9 f8 : Int)
    (s0 : Is L [(100, a), (8, []), (8, []), (8, []), (12, []), (12, []), (8, []), (1, [v]), (100, b), (8, c), (32, d), (32, e), (8, []), (8, []), (155, f), (12, [])]) :
    Is (hd2 L f5 f6 f7 n9 f8) [(100, a), (8, digs 7 f5), (8, digs 7 f6), (8, digs 7 f7), (12, digs 11 n9), (12, digs 11 f8), (8, digs 7 0), (1, [v]), (100, b), (8, c), (32, d), (32, e), (8, digs 7 0), (8, digs 7 0), (155, f), (12, [])] := by
  have s1 : Is (splice L 100 (digs 7 f5)) [(100, a), (8, digs 7 f5), (8, []), (8, []), (12, []), (12, []), (8, []), (1, [v]), (100, b), (8, c), (32, d), (32, e), (8, []), (8, []), (155, f), (12, [])] := s0.spl 1 8 100 (digs 7 f5) (by simp) (dl7 _) (by simp [offs])
  have s2 : Is (splice (splice L 100 (digs 7 f5)) 108 (digs 7 f6)) [(100, a), (8, digs 7 f5), (8, digs 7 f6), (8, []), (12, []), (12, []), (8, []), (1, [v]), (100, b), (8, c), (32, d), (32, e), (8, []), (8, []), (155, f), (12, [])] := s1.spl 2 8 108 (digs 7 f6) (by simp) (dl7 _) (by simp [offs])
  have s3 : Is (splice (splice (splice L 100 (digs 7 f5)) 108 (digs 7 f6)) 116 (digs 7 f7)) [(100, a), (8, digs 7 f5), (8, digs 7 f6), (8, digs 7 f7), (12, []), (12, []), (8, []), (1, [v]), (100, b), (8, c), (32, d), (32, e), (8, []), (8, []), (155, f), (12, [])] := s2.spl 3 8 116 (digs 7 f7) (by simp) (dl7 _) (by simp [offs])
  have s4 : Is (splice (splice (splice (splice L 100 (digs 7 f5)) 108 (digs 7 f6)) 116 (digs 7 f7)) 124 (digs 11 n9)) [(100, a), (8, digs 7 f5), (8, digs 7 f6), (8, digs 7 f7), (12, digs 11 n9), (12, []), (8, []), (1, [v]), (100, b), (8, c), (32, d), (32, e), (8, []), (8, []), (155, f), (12, [])] := s3.spl 4 12 124 (digs 11 n9) (by simp) (dl11 _) (by simp [offs])
  have s5 : Is (splice (splice (splice (splice (splice L 100 (digs 7 f5)) 108 (digs 7 f6)) 116 (digs 7 f7)) 124 (digs 11 n9)) 136 (digs 11 f8)) [(100, a), (8, digs 7 f5), (8, digs 7 f6), (8, digs 7 f7), (12, digs 11 n9), (12, digs 11 f8), (8, []), (1, [v]), (100, b), (8, c), (32, d), (32, e), (8, []), (8, []), (155, f), (12, [])] := s4.spl 5 12 136 (digs 11 f8) (by simp) (dl11 _) (by simp [offs])
  have s6 : Is (splice (splice (splice (splice (splice (splice L 100 (digs 7 f5)) 108 (digs 7 f6)) 116 (digs 7 f7)) 124 (digs 11 n9)) 136 (digs 11 f8)) 148 (digs 7 0)) [(100, a), (8, digs 7 f5), (8, digs 7 f6), (8, digs 7 f7), (12, digs 11 n9), (12, digs 11 f8), (8, digs 7 0), (1, [v]), (100, b), (8, c), (32, d), (32, e), (8, []), (8, []), (155, f), (12, [])] := s5.spl 6 8 148 (digs 7 0) (by simp) (dl7 _) (by simp [offs])
  have s7 : Is (splice (splice (splice (splice (splice (splice (splice L 100 (digs 7 f5)) 108 (digs 7 f6)) 116 (digs 7 f7)) 124 (digs 11 n9)) 136 (digs 11 f8)) 148 (digs 7 0)) 329 (digs 7 0)) [(100, a), (8, digs 7 f5), (8, digs 7 f6), (8, digs 7 f7), (12, digs 11 n9), (12, digs 11 f8), (8, digs 7 0), (1, [v]), (100, b), (8, c), (32, d), (32, e), (8, digs 7 0), (8, []), (155, f), (12, [])] := s6.spl 12 8 329 (digs 7 0) (by simp) (dl7 _) (by simp [offs])
  have s8 : Is (splice (splice (splice (splice (splice (splice (splice (splice L 100 (digs 7 f5)) 108 (digs 7 f6)) 116 (digs 7 f7)) 124 (digs 11 n9)) 136 (digs 11 f8)) 148 (digs 7 0)) 329 (digs 7 0)) 337 (digs 7 0)) [(100, a), (8, digs 7 f5), (8, digs 7 f6), (8, digs 7 f7), (12, digs 11 n9), (12, digs 11 f8), (8, digs 7 0), (1, [v]), (100, b), (8, c), (32, d), (32, e), (8, digs 7 0), (8, digs 7 0), (155, f), (12, [])] := s7.spl 13 8 337 (digs 7 0) (by simp) (dl7 _) (by simp [offs])
  unfold hd2 hdn
  simp only [ns8, List.take_succ_cons, List.take_zero, List.foldl_cons, List.foldl_nil]
  exact s8
theorem hd2_flat (p r f1 f2 f3 : ByteArray) (f4 f5 f6 f7 n9 f8 : Int) (hp : p.size ≤ 155) (hr : r.size ≤ 100) (h1 : f1.size ≤ 100) (h2 : f2.size ≤ 32) (h3 : f3.size ≤ 32) : hd2 (hd1 p r f1 f2 f3 f4) f5 f6 f7 n9 f8 = flat (fsH p r f1 f2 f3 f4 f5 f6 f7 n9 f8 (digs 7 0)) :=
  (hd2_is f5 f6 f7 n9 f8 (hd1_is p r f1 f2 f3 f4 hp hr h1 h2 h3)).1
theorem fsH_sum (p r f1 f2 f3 : ByteArray) (f4 f5 f6 f7 n9 f8 : Int) (s0 s : List Int) (hp : p.size ≤ 155) (hr : r.size ≤ 100) (h1 : f1.size ≤ 100) (h2 : f2.size ≤ 32) (h3 : f3.size ≤ 32) (hs0 : s0.length ≤ 8) (hs : s.length = 8) :
    splice (flat (fsH p r f1 f2 f3 f4 f5 f6 f7 n9 f8 s0)) 148 s = flat (fsH p r f1 f2 f3 f4 f5 f6 f7 n9 f8 s) := by
  have e := splice_flat _ 6 8 s0 s (okF_H p r f1 f2 f3 f4 f5 f6 f7 n9 f8 s0 hp hr h1 h2 h3 hs0) rfl (by omega)
  rw [show offs (fsH p r f1 f2 f3 f4 f5 f6 f7 n9 f8 s0) 6 = 148 from rfl] at e
  rw [e]
  have e2 : fldL 8 (splice (fldL 8 s0) 0 s) = fldL 8 s := by
    have : (fldL 8 s0).length = 8 := fldL_length hs0
    rw [splice_zero, List.drop_eq_nil_of_le (by omega), List.append_nil]
  rw [flat_set _ _ _ _ _ e2]
  rfl
theorem tot_sum (L : List Int) (hL : L.length = 512) : tot L 512 = (splice L 148 (List.replicate 8 32)).sum := by
  have hl : (splice L 148 (List.replicate 8 32)).length = 512 := by rw [length_splice _ _ _ (by simp; omega)]; exact hL
  have g : ∀ i, i ≤ 512 → tot L i = sumTo (splice L 148 (List.replicate 8 32)) i := by
    intro i
    induction i with
    | zero => intro _; simp [tot, sumTo]
    | succ i ih =>
      intro hi
      rw [sumTo_succ _ _ (by omega), ← ih (by omega)]
      show tot L i + _ = _
      congr 1
      unfold splice
      rw [List.getD_eq_getElem?_getD (l := List.take 148 L ++ _), List.getElem?_append, List.length_take, Nat.min_eq_left (by omega)]
      by_cases h1 : i < 148
      · rw [if_neg (by omega), if_pos h1, List.getElem?_take, if_pos h1, List.getD_eq_getElem?_getD]
      · rw [if_neg h1, List.getElem?_append, List.length_replicate]
        by_cases h2 : i < 156
        · rw [if_pos (by omega), if_pos (by omega), List.getElem?_replicate, if_pos (by omega)]
          rfl
        · rw [if_neg (by omega), if_neg (by omega), List.getElem?_drop, List.getD_eq_getElem?_getD, show 148 + 8 + (i - 148 - 8) = i by omega]
  rw [g 512 (by omega)]
  unfold sumTo
  rw [List.take_of_length_le (by omega)]
def sumH (p r f1 f2 f3 : ByteArray) (f4 f5 f6 f7 n9 f8 : Int) : Int := (flat (fsH p r f1 f2 f3 f4 f5 f6 f7 n9 f8 (List.replicate 8 32))).sum
def hdL (p r f1 f2 f3 : ByteArray) (f4 f5 f6 f7 n9 f8 : Int) : List Int := flat (fsH p r f1 f2 f3 f4 f5 f6 f7 n9 f8 (digs 6 (sumH p r f1 f2 f3 f4 f5 f6 f7 n9 f8) ++ [0, 32]))
theorem head_flat (p r f1 f2 f3 : ByteArray) (f4 f5 f6 f7 n9 f8 : Int) (hp : p.size ≤ 155) (hr : r.size ≤ 100) (h1 : f1.size ≤ 100) (h2 : f2.size ≤ 32) (h3 : f3.size ≤ 32) :
    hd3 (hd2 (hd1 p r f1 f2 f3 f4) f5 f6 f7 n9 f8) (tot (hd2 (hd1 p r f1 f2 f3 f4) f5 f6 f7 n9 f8) 512) = hdL p r f1 f2 f3 f4 f5 f6 f7 n9 f8 := by
  have h7 : (digs 7 0).length = 7 := digs_length 7 0
  have hl := fsH_length p r f1 f2 f3 f4 f5 f6 f7 n9 f8 (digs 7 0) hp hr h1 h2 h3 (by omega)
  rw [hd2_flat p r f1 f2 f3 f4 f5 f6 f7 n9 f8 hp hr h1 h2 h3, tot_sum _ hl, fsH_sum p r f1 f2 f3 f4 f5 f6 f7 n9 f8 (digs 7 0) _ hp hr h1 h2 h3 (by omega) rfl]
  show hd3 _ (sumH p r f1 f2 f3 f4 f5 f6 f7 n9 f8) = _
  unfold hd3 hdL
  have d6 := digs_length 6 (sumH p r f1 f2 f3 f4 f5 f6 f7 n9 f8)
  have e1 := splice_set (flat (fsH p r f1 f2 f3 f4 f5 f6 f7 n9 f8 (digs 7 0))) (digs 6 (sumH p r f1 f2 f3 f4 f5 f6 f7 n9 f8)) 148 0 (by omega)
  rw [d6] at e1
  rw [show (154 : Nat) = 148 + 6 from rfl, e1]
  have e2 := splice_set (flat (fsH p r f1 f2 f3 f4 f5 f6 f7 n9 f8 (digs 7 0))) (digs 6 (sumH p r f1 f2 f3 f4 f5 f6 f7 n9 f8) ++ [0]) 148 32 (by simp; omega)
  rw [List.length_append, d6] at e2
  rw [show (155 : Nat) = 148 + (6 + [(0 : Int)].length) from rfl, e2, List.append_assoc]
  exact fsH_sum p r f1 f2 f3 f4 f5 f6 f7 n9 f8 (digs 7 0) _ hp hr h1 h2 h3 (by omega) (by simp [d6])
theorem bn_app (a b : ByteArray) : bn (a ++ b) = bn a ++ bn b := by unfold bn; simp
end Go.Proofs.YtlhmbncalonomaaDoor.TpH
namespace Go.Proofs.YtlhmbncalonomaaDoor.RfH
open Go.RowKit Go.Proofs.YtlhmbncalonomaaDoor.Q Go.Proofs.YtlhmbncalonomaaDoor.Cpy Go.Proofs.YtlhmbncalonomaaDoor.Hand Go.Proofs.YtlhmbncalonomaaDoor.Arr Go.Proofs.YtlhmbncalonomaaDoor.Sx Go.Proofs.YtlhmbncalonomaaDoor.Head Go.Proofs.YtlhmbncalonomaaDoor.Snd Go.Proofs.YtlhmbncalonomaaDoor.TpB Go.Proofs.YtlhmbncalonomaaDoor.TpH Go.Proofs.YtlhmbncalonomaaDoorW.PrintWords Go.Proofs.YtlhmbncalonomaaDoorW.PrintLast Go.Proofs.YtlhmbncalonomaaDoorW.PrintMore
set_option linter.unusedVariables false
set_option linter.unusedSimpArgs false
end Go.Proofs.YtlhmbncalonomaaDoor.RfH
namespace Go.Proofs.YtlhmbncalonomaaDoor.Fil
open Go.RowKit Go.Proofs.YtlhmbncalonomaaDoor.Q Go.Proofs.YtlhmbncalonomaaDoor.Cpy Go.Proofs.YtlhmbncalonomaaDoor.Hand Go.Proofs.YtlhmbncalonomaaDoor.Arr Go.Proofs.YtlhmbncalonomaaDoor.Sx Go.Proofs.YtlhmbncalonomaaDoor.Head Go.Proofs.YtlhmbncalonomaaDoor.Snd Go.Proofs.YtlhmbncalonomaaDoor.TpB Go.Proofs.YtlhmbncalonomaaDoor.TpH Go.Proofs.YtlhmbncalonomaaDoor.RfH Go.Proofs.YtlhmbncalonomaaDoor.Spc Go.Proofs.YtlhmbncalonomaaDoor.Spd Go.Proofs.YtlhmbncalonomaaDoorW.PrintWords Go.Proofs.YtlhmbncalonomaaDoorW.PrintLast Go.Proofs.YtlhmbncalonomaaDoorW.PrintMore
set_option linter.unusedVariables false
set_option linter.unusedSimpArgs false
theorem spot_none {w : World} {ad : Addr} {v : Value} (h : w.cell? ad = some v) : ∃ b o, ad = ⟨b, o, none⟩ := by
  obtain ⟨b, o, s⟩ := ad
  cases s with
  | none => exact ⟨b, o, rfl⟩
  | some s =>
    unfold World.cell? at h
    split at h <;> simp at h
def rowF (x : S26) (A9 : Option Addr) (c9 : Nat) : List Value := [.string x.f0, .string x.f1, .string x.f2, .string x.f3, .int .i64 x.f4, .int .i64 x.f5, .int .i64 x.f6, .int .i64 x.f7, .int .i64 x.f8, .slice A9 x.f9.length c9]
def fileAt (xs : List S26) (i : Nat) : S26 := xs.getD i z26
theorem fileAt_mem {xs : List S26} {i : Nat} (h : i < xs.length) : fileAt xs i ∈ xs := by
  unfold fileAt
  rw [List.getD_eq_getElem?_getD, List.getElem?_eq_getElem h]
  exact List.getElem_mem _
theorem files_at {w : World} {A : Option Addr} {xs : List S26} (h : Kd.C k26 w A xs.length xs) (i : Nat) (hi : i < xs.length) :
    ∃ b o A9 c9, A = some ⟨b, o, none⟩ ∧ (∀ j u, (rowF (fileAt xs i) A9 c9)[j]? = some u → w.cell? ⟨b, o + i * 10 + j, none⟩ = some u) ∧ (fileAt xs i).f9.length ≤ c9 ∧ (Kd.int .u8).C w A9 (fileAt xs i).f9.length (fileAt xs i).f9 := by
  obtain ⟨ad, c, e, _, hK, hc0⟩ := Kd.C_get h z26 (0 : Nat) (by omega) (by omega)
  obtain ⟨A0, c0, rfl, _, _⟩ := k26_open hK
  have h0 := hc0 0 _ rfl
  rw [show ((0 : Nat) : Int).toNat * k26.sz + 0 = 0 by simp, Addr.add_zero'] at h0
  obtain ⟨b, o, rfl⟩ := spot_none h0
  obtain ⟨ad2, c2, e2, _, hK2, hc2⟩ := Kd.C_get h z26 (i : Nat) (by omega) (by omega)
  rw [e] at e2
  cases e2
  obtain ⟨A9, c9, rfl, l9, g9⟩ := k26_open hK2
  refine ⟨b, o, A9, c9, e, fun j u hj => ?_, l9, g9⟩
  have := hc2 j u hj
  rw [Addr.add_lit, Int.toNat_natCast, show k26.sz = 10 from rfl, ← Nat.add_assoc] at this
  exact this
theorem takes_u8 {W : World} {A : Option Addr} {l : List Int} {c : Nat} (h : (Kd.int .u8).C W A l.length l) : Takes Tryd.prog 24 (.slice A l.length c) l.length 1 (u8s l) W := by
  rcases Nat.eq_zero_or_pos l.length with h0 | h0
  · have : l = [] := List.eq_nil_of_length_eq_zero h0
    subst this
    exact takes_nil Tryd.underlying24
  · obtain ⟨_, _, h2⟩ := h
    obtain ⟨ad, rfl, hc⟩ := h2 h0
    refine takes_slice Tryd.underlying24 (by rw [u8s_length, Nat.mul_one]) (fun j u hj => ?_) u8s_one
    rw [List.getElem?_map] at hj
    obtain ⟨p, hp, rfl⟩ := Option.map_eq_some_iff.1 hj
    obtain ⟨c, _, rfl, hcell⟩ := hc j p hp
    have := hcell 0 _ rfl
    rwa [show j * (Kd.int .u8).sz + 0 = j from Nat.mul_one j] at this
def okS (x : S26) : Bool := sndF x.f0 x.f1 x.f2 x.f3 x.f4 x.f5 x.f6 x.f7 x.f8 x.f9.length
def recB (x : S26) : List Int := hdL (cutP x.f0).1 (cutP x.f0).2.1 x.f1 x.f2 x.f3 x.f4 x.f5 x.f6 x.f7 x.f9.length x.f8 ++ x.f9 ++ List.replicate (padT x.f9.length - x.f9.length) 0
def putN (xs : List S26) : Nat := 1024 + (xs.map fun x => 512 + padT x.f9.length).sum
def recs (xs : List S26) : List Int := xs.flatMap recB
def putE (xs : List S26) : Int := if 16777216 < putN xs then 1 else if xs.all okS then 0 else 243
def putB (xs : List S26) : List Int := if putE xs = 0 then recs xs ++ List.replicate 1024 0 else []
structure Small (xs : List S26) : Prop where
  len : xs.length ≤ 1048576
  at_ : ∀ x ∈ xs, x.f0.size + x.f1.size + x.f2.size + x.f3.size ≤ 1048576 ∧ x.f9.length ≤ 1048576
theorem take_snocF (xs : List S26) (i : Nat) (h : i < xs.length) : xs.take (i + 1) = xs.take i ++ [fileAt xs i] := by
  rw [List.take_add_one]
  unfold fileAt
  rw [List.getD_eq_getElem?_getD, List.getElem?_eq_getElem h]
  rfl
theorem putN_succ (xs : List S26) (i : Nat) (h : i < xs.length) : putN (xs.take (i + 1)) = putN (xs.take i) + (512 + padT (fileAt xs i).f9.length) := by
  unfold putN
  rw [take_snocF xs i h, List.map_append, List.sum_append]
  simp
  omega
theorem recs_succ (xs : List S26) (i : Nat) (h : i < xs.length) : recs (xs.take (i + 1)) = recs (xs.take i) ++ recB (fileAt xs i) := by
  unfold recs
  rw [take_snocF xs i h, List.flatMap_append]
  simp
theorem pad_bd (n : Nat) : n ≤ padT n ∧ padT n ≤ n + 511 := by unfold padT; omega
theorem putN_bd (xs : List S26) (hs : Small xs) : ∀ i, i ≤ xs.length → 1024 ≤ putN (xs.take i) ∧ putN (xs.take i) ≤ 1024 + i * 1049600 := by
  intro i
  induction i with
  | zero => intro _; simp [putN]
  | succ i ih =>
    intro hi
    have h1 := ih (by omega)
    have h2 := (hs.at_ _ (fileAt_mem (i := i) (by omega))).2
    have h3 := pad_bd (fileAt xs i).f9.length
    rw [putN_succ xs i (by omega)]
    omega
theorem putN_le (xs : List S26) (hs : Small xs) (i : Nat) (h : i ≤ xs.length) : putN (xs.take i) ≤ putN xs := by
  have : ∀ d, i + d ≤ xs.length → putN (xs.take i) ≤ putN (xs.take (i + d)) := by
    intro d
    induction d with
    | zero => intro _; exact Nat.le_refl _
    | succ d ih =>
      intro hd
      rw [show i + (d + 1) = (i + d) + 1 by omega, putN_succ xs (i + d) (by omega)]
      have := ih (by omega)
      omega
  have h2 := this (xs.length - i) (by omega)
  rwa [show i + (xs.length - i) = xs.length by omega, List.take_length] at h2
theorem okS_facts (x : S26) (h0 : x.f0.size ≤ 1048576) (h : okS x = true) : (cutP x.f0).2.2 = true ∧ (cutP x.f0).1.size ≤ 155 ∧ (cutP x.f0).2.1.size ≤ 100 ∧ x.f1.size ≤ 100 ∧ x.f2.size ≤ 32 ∧ x.f3.size ≤ 32 ∧ (0 ≤ x.f4 ∧ x.f4 ≤ 9) ∧ (0 ≤ x.f5 ∧ x.f5 ≤ 2097151) ∧ (0 ≤ x.f6 ∧ x.f6 ≤ 2097151) ∧ (0 ≤ x.f7 ∧ x.f7 ≤ 2097151) ∧ (0 ≤ x.f8 ∧ x.f8 ≤ 8589934591) := by
  unfold okS sndF sndB at h
  simp only [Bool.cond_eq_ite] at h
  split at h
  · cases h
  · rename_i h1
    split at h
    · cases h
    · rename_i h2
      split at h
      · cases h
      · rename_i h3
        split at h
        · cases h
        · rename_i h4
          simp only [Bool.or_eq_true, Bool.and_eq_true, decide_eq_true_eq, not_or, not_and, Bool.not_eq_true, Bool.not_eq_false', inM] at h1 h2 h3 h4 h
          obtain ⟨c1, c2, c3, c4⟩ := (cuts x.f0 h0).2.2.2 h.1
          simp at h1 h2 h3 h4
          refine ⟨h.1, c2, c3, by omega, by omega, by omega, ?_, by omega, by omega, by omega, by omega⟩
          by_cases e0 : x.f4 = 0
          · omega
          · by_cases e2 : x.f4 = 2
            · omega
            · have := h1.1 e0 e2
              omega
theorem recB_length (x : S26) (h0 : x.f0.size ≤ 1048576) (h : okS x = true) : (recB x).length = 512 + padT x.f9.length := by
  obtain ⟨_, hp, hr, h1, h2, h3, _⟩ := okS_facts x h0 h
  have hs := fsH_length (cutP x.f0).1 (cutP x.f0).2.1 x.f1 x.f2 x.f3 x.f4 x.f5 x.f6 x.f7 x.f9.length x.f8 (digs 6 (sumH (cutP x.f0).1 (cutP x.f0).2.1 x.f1 x.f2 x.f3 x.f4 x.f5 x.f6 x.f7 x.f9.length x.f8) ++ [0, 32]) hp hr h1 h2 h3 (by simp [digs_length])
  have := pad_bd x.f9.length
  unfold recB hdL
  rw [List.length_append, List.length_append, hs, List.length_replicate]
  omega
theorem recs_length (xs : List S26) (hs : Small xs) : ∀ i, i ≤ xs.length → (∀ j, j < i → okS (fileAt xs j) = true) → (recs (xs.take i)).length + 1024 = putN (xs.take i) := by
  intro i
  induction i with
  | zero => intro _ _; simp [recs, putN]
  | succ i ih =>
    intro hi hok
    have h1 := ih (by omega) (fun j hj => hok j (by omega))
    have h2 := (hs.at_ _ (fileAt_mem (i := i) (by omega))).1
    rw [recs_succ xs i (by omega), putN_succ xs i (by omega), List.length_append, recB_length _ (by omega) (hok i (by omega))]
    omega
theorem all_of (xs : List S26) (h : ∀ j, j < xs.length → okS (fileAt xs j) = true) : xs.all okS = true := by
  rw [List.all_eq_true]
  intro x hx
  obtain ⟨j, hj, e⟩ := List.mem_iff_getElem.1 hx
  have := h j hj
  unfold fileAt at this
  rw [List.getD_eq_getElem?_getD, List.getElem?_eq_getElem hj] at this
  rw [← e]
  exact this
theorem not_all (xs : List S26) (j : Nat) (hj : j < xs.length) (h : okS (fileAt xs j) = false) : xs.all okS = false := by
  cases ha : xs.all okS with
  | false => rfl
  | true =>
    rw [List.all_eq_true] at ha
    rw [ha _ (fileAt_mem hj)] at h
    cases h
theorem putE1 {xs : List S26} (h : 16777216 < putN xs) : putE xs = 1 ∧ putB xs = [] := by
  have : putE xs = 1 := by unfold putE; rw [if_pos h]
  exact ⟨this, by unfold putB; rw [this, if_neg (by decide)]⟩
theorem putE2 {xs : List S26} (h : ¬ 16777216 < putN xs) (ha : xs.all okS = false) : putE xs = 243 ∧ putB xs = [] := by
  have : putE xs = 243 := by unfold putE; rw [if_neg h, ha]; rfl
  exact ⟨this, by unfold putB; rw [this, if_neg (by decide)]⟩
theorem putE0 {xs : List S26} (h : ¬ 16777216 < putN xs) (ha : xs.all okS = true) : putE xs = 0 ∧ putB xs = recs xs ++ List.replicate 1024 0 := by
  have : putE xs = 0 := by unfold putE; rw [if_neg h, ha]; rfl
  exact ⟨this, by unfold putB; rw [this, if_pos rfl]⟩
end Go.Proofs.YtlhmbncalonomaaDoor.Fil
namespace Go.Proofs.YtlhmbncalonomaaDoor.Fil2
open Go.RowKit Go.Proofs.YtlhmbncalonomaaDoor.Q Go.Proofs.YtlhmbncalonomaaDoor.Cpy Go.Proofs.YtlhmbncalonomaaDoor.Hand Go.Proofs.YtlhmbncalonomaaDoor.Arr Go.Proofs.YtlhmbncalonomaaDoor.Sx Go.Proofs.YtlhmbncalonomaaDoor.Head Go.Proofs.YtlhmbncalonomaaDoor.Snd Go.Proofs.YtlhmbncalonomaaDoor.TpB Go.Proofs.YtlhmbncalonomaaDoor.TpH Go.Proofs.YtlhmbncalonomaaDoor.RfH Go.Proofs.YtlhmbncalonomaaDoor.Spc Go.Proofs.YtlhmbncalonomaaDoor.Spd Go.Proofs.YtlhmbncalonomaaDoor.Fil Go.Proofs.YtlhmbncalonomaaDoorW.PrintWords Go.Proofs.YtlhmbncalonomaaDoorW.PrintLast Go.Proofs.YtlhmbncalonomaaDoorW.PrintMore
set_option linter.unusedVariables false
set_option linter.unusedSimpArgs false
theorem size26 : (Tryd.prog.info? 26).map (·.size) = some 10 := by kernel_rfl
theorem info5s : (Tryd.prog.info? 5).map (fun j => (j.zero, j.size, j.bytes)) = some (some (.int .u8 0), 1, 1) := by kernel_rfl
theorem u8s_app (a b : List Int) : u8s a ++ u8s b = u8s (a ++ b) := by simp [u8s]
theorem _root_.Go.Proofs.YtlhmbncalonomaaDoor.Sx.Grow.var {W0 W W' : World} {bs : List (Nat × List Value × Nat)} {v : Value} {n e sz g t : Nat} {cells cs : List Value} (h : Grow W0 W bs v n cells e sz) (hz : W.heap.size = g) (hg : W.grownBy W' none) (hb : W'.heap[g]? = some (.cells cs.toArray t (0, 0))) : Grow W0 W' ((g, cs, t) :: bs) v n cells e sz :=
  h.push ((Below.refl _ _).grown hg (Nat.le_refl _) (fun k hk => by cases hk)) (Nat.le_of_eq hz) hb
section
variable {Q : Exit → Act → World → Prop} {N : Nat} {sl : List (Nat × Value)} {W0 W : World} {ops : Array Oper} {rest : List Oper} {d : Nat} {ty : TypeId} {pos : String} {aft : Array Edge} {x y : Operand} {bs : List (Nat × List Value × Nat)} {v : Value} {L : List Int}
theorem ow_appB {A : Option Addr} {l : List Int} {c : Nat} (hG : Grow W0 W bs v L.length (u8s L) 5 1) (hC : (Kd.int .u8).C W A l.length l) (hx : sv sl x = some v) (hy : sv sl y = some (.slice A l.length c)) (hb : L.length + l.length ≤ 140737488355328) (hd : Nat.blt d N = true)
    (h : ∀ v' W', W.grownBy W' v.ownBlock → Grow W0 W' bs v' (L ++ l).length (u8s (L ++ l)) 5 1 → OW Tryd.prog ops Q rest N ((d, v') :: sl) W') : OW Tryd.prog ops Q (⟨some d, .call ⟨.builtin .append, #[x, y], #[24, 24]⟩, ty, pos, aft, none⟩ :: rest) N sl W := by
  refine ow_append hG hx hy Tryd.underlying24 info5s rfl (takes_u8 hC) (by omega) (by omega) hd (fun v' W' hg hG' => h v' W' hg ?_)
  rw [u8s_app] at hG'
  rw [List.length_append]
  exact hG'
theorem ow_appZ {m : Nat} {mi : Int} (hG : Grow W0 W bs v L.length (u8s L) 5 1) (hx : sv sl x = some v) (hmi : mi = (m : Int)) (hy : sv sl y = some (.int .i64 mi)) (hb : L.length + m ≤ 140737488355328) (hd : Nat.blt d N = true)
    (h : ∀ v' W', W.grownBy W' v.ownBlock → Grow W0 W' bs v' (L ++ List.replicate m 0).length (u8s (L ++ List.replicate m 0)) 5 1 → OW Tryd.prog ops Q rest N ((d, v') :: sl) W') : OW Tryd.prog ops Q (⟨some d, .call ⟨.builtin .append, #[x, y], #[24, 3]⟩, ty, pos, aft, none⟩ :: rest) N sl W := by
  have hn : (Builtin.zeroCells (Value.int .u8 0).cells m).toList = u8s (List.replicate m 0) := by rw [zeroCells_one _ rfl, u8s, List.map_replicate]
  refine ow_appendZ hG hx hmi hy Tryd.underlying24 Tryd.underlying3 info5s rfl hn (by rw [u8s_length, List.length_replicate, Nat.mul_one]) u8s_one (by omega) (by omega) hd (fun v' W' hg hG' => h v' W' hg ?_)
  rw [u8s_app] at hG'
  rw [List.length_append, List.length_replicate]
  exact hG'
end
end Go.Proofs.YtlhmbncalonomaaDoor.Fil2
namespace Go.Proofs.YtlhmbncalonomaaDoor.Alk
open Go.RowKit Go.Proofs.YtlhmbncalonomaaDoor.Q Go.Proofs.YtlhmbncalonomaaDoor.Cpy Go.Proofs.YtlhmbncalonomaaDoor.Hand Go.Proofs.YtlhmbncalonomaaDoor.Arr Go.Proofs.YtlhmbncalonomaaDoor.Sx Go.Proofs.YtlhmbncalonomaaDoor.Head Go.Proofs.YtlhmbncalonomaaDoor.Snd Go.Proofs.YtlhmbncalonomaaDoor.TpB Go.Proofs.YtlhmbncalonomaaDoor.TpH Go.Proofs.YtlhmbncalonomaaDoor.RfH Go.Proofs.YtlhmbncalonomaaDoor.Spc Go.Proofs.YtlhmbncalonomaaDoor.Spd Go.Proofs.YtlhmbncalonomaaDoor.Fil Go.Proofs.YtlhmbncalonomaaDoor.Fil2 Go.Proofs.YtlhmbncalonomaaDoorW.PrintWords Go.Proofs.YtlhmbncalonomaaDoorW.PrintLast Go.Proofs.YtlhmbncalonomaaDoorW.PrintMore
set_option linter.unusedVariables false
set_option linter.unusedSimpArgs false
theorem same_ref (l : List Int) (hl : l.length ≤ 1099511627776) : ∀ (d i k : Nat), l.length - i ≤ d → d < k → valiselaw24_same.l0 k l l (i : Int) = some true := by
  intro d
  induction d with
  | zero =>
    intro i k hd hk
    obtain ⟨m, rfl⟩ : ∃ m, k = m + 1 := ⟨k - 1, by omega⟩
    simp only [valiselaw24_same.l0]
    rw [if_neg (by omega)]
  | succ d ih =>
    intro i k hd hk
    obtain ⟨m, rfl⟩ : ∃ m, k = m + 1 := ⟨k - 1, by omega⟩
    simp only [valiselaw24_same.l0]
    by_cases h : (i : Int) < (l.length : Int)
    · rw [if_pos h, if_pos (by omega), if_pos h, if_pos trivial, w64 (by omega)]
      have := ih (i + 1) m (by omega) (by omega)
      rwa [Int.natCast_add] at this
    · rw [if_neg h]
theorem same_f (l : List Int) (hl : l.length ≤ 1099511627776) : valiselaw24_same.f (l.length + 1) l l = some true := by
  unfold valiselaw24_same.f
  rw [if_pos rfl]
  exact same_ref l hl l.length 0 _ (by omega) (by omega)
theorem same_calls (A B : Option Addr) (c d : Nat) (l : List Int) (w : World) (hA : Kd.C (Kd.int .u8) w A l.length l) (hB : Kd.C (Kd.int .u8) w B l.length l) (hc : l.length ≤ c) (hd : l.length ≤ d) (hl : l.length ≤ 1099511627776) :
    Calls Tryd.prog 14 #[.slice A l.length c, .slice B l.length d] w fun e w' => e = .returned (.bool true) ∧ Below w.heap.size w w' :=
  (valiselaw24_same.calls (l.length + 1) A c l B d l true w hA hc hB hd (same_f l hl)).mono (fun e w' ⟨he, m, hm⟩ => ⟨he, by rw [hm]; exact (HP.start w).drewN m |>.old⟩)
section
variable {P : Program} {n : Nat} {sl : List (Nat × Value)} {w : World} {dst : Option Tmp} {ty t t2 : TypeId} {pos : String} {aft : Array Edge} {g : Option (Nat × Bool)} {x y : Operand}
theorem r_sneS {s : ByteArray} (hx : sv sl x = some (.string s)) (hy : sv sl y = some (.string s)) : Runs P ⟨dst, .binOp .neq t x y t2, ty, pos, aft, g⟩ n sl w (.bool false) w := by
  have h := r_sne (P := P) (n := n) (w := w) (dst := dst) (ty := ty) (t := t) (t2 := t2) (pos := pos) (aft := aft) (g := g) hx hy
  simpa using h
theorem r_neS {k : IntKind} {a : Int} (hx : sv sl x = some (.int k a)) (hy : sv sl y = some (.int k a)) : Runs P ⟨dst, .binOp .neq t x y t2, ty, pos, aft, g⟩ n sl w (.bool false) w := by
  have h := r_ne (P := P) (n := n) (w := w) (dst := dst) (ty := ty) (t := t) (t2 := t2) (pos := pos) (aft := aft) (g := g) hx hy
  simpa using h
theorem r_eqS {k : IntKind} {a : Int} (hx : sv sl x = some (.int k a)) (hy : sv sl y = some (.int k a)) : Runs P ⟨dst, .binOp .eql t x y t2, ty, pos, aft, g⟩ n sl w (.bool true) w := by
  have h := r_eq (P := P) (n := n) (w := w) (dst := dst) (ty := ty) (t := t) (t2 := t2) (pos := pos) (aft := aft) (g := g) hx hy
  simpa using h
end
theorem en14 : Enters Tryd.prog 14 := fun args w => by kernel_rfl
set_option maxRecDepth 100000 in
theorem alike_calls (A B : Option Addr) (c d : Nat) (xs : List S26) (w : World) (hA : Kd.C k26 w A xs.length xs) (hB : Kd.C k26 w B xs.length xs) (hs : Small xs) :
    Calls Tryd.prog 15 #[.slice A xs.length c, .slice B xs.length d] w fun e w' => e = .returned (.bool true) ∧ Below w.heap.size w w' := by
  have hP := HP.start w
  have hlen := hs.len
  refine calls_cw Tryd.func15 rfl rfl (by simp) ?_
  refine cw_seq ?_
  -- region 0 tape.go:45
  refine cw_region ?_
  refine ow_step (r_assign rfl) rfl ?_
  refine ow_nil ?_
  refine ew_next ?_
  refine cw_seq ?_
  refine cw_seq ?_
  -- region 1 tape.go:46
  refine cw_region ?_
  refine ow_step (r_move rfl) rfl ?_
  refine ow_step (r_len rfl (by rfl) rfl) rfl ?_
  refine ow_step (r_move rfl) rfl ?_
  refine ow_step (r_len rfl (by rfl) rfl) rfl ?_
  refine ow_step (r_neS rfl rfl) rfl ?_
  refine ow_nil ?_
  refine ew_next ?_
  refine cw_false rfl ?_
  refine cw_skip ?_
  refine ew_next ?_
  refine cw_seq ?_
  refine cw_seq ?_
  -- region 3 tape.go:49
  refine cw_region ?_
  refine ow_step (r_assign rfl) rfl ?_
  refine ow_nil ?_
  refine ew_next ?_
  refine cw_block ?_
  refine cw_loop (fun i : Nat => xs.length - i) (fun i : Nat => [(0, .slice A xs.length c), (1, .slice B xs.length d), (5, .int .i64 ((i : Nat) : Int))]) (fun (i : Nat) w' => i ≤ xs.length ∧ HP w w' []) 0 ⟨rfl, rfl, rfl, trivial⟩ ⟨Nat.zero_le _, hP⟩ ?_
  clear hP; rintro i W ⟨hi, hP⟩
  · -- round 0
    refine cw_seq ?_
    refine cw_seq ?_
    -- region 4 tape.go:49
    refine cw_region ?_
    refine ow_step (r_move rfl) rfl ?_
    refine ow_step (r_move rfl) rfl ?_
    refine ow_step (r_len rfl (by rfl) rfl) rfl ?_
    refine ow_step (r_lt rfl rfl) rfl ?_
    refine ow_nil ?_
    refine ew_next ?_
    refine cw_cond rfl (fun hb1 => ?_) (fun hb1 => ?_)
    · -- cond 1 yes
      have hc1 := hb1; (try simp only [Bool.and_eq_true, Bool.or_eq_true, Bool.and_eq_false_iff, Bool.or_eq_false_iff, Bool.not_eq_true', Bool.not_eq_false', decide_eq_true_eq, decide_eq_false_iff_not, ne_eq, Decidable.not_not, not_true_eq_false, not_false_eq_true] at hc1)
      have hi' : i < xs.length := by omega
      obtain ⟨b, o, A9, c9, hA', hcells, hc9, hC9⟩ := files_at hA i hi'
      obtain ⟨b2, o2, B9, d9, hB', hcells2, hd9, hD9⟩ := files_at hB i hi'
      have hsx := hs.at_ _ (fileAt_mem hi')
      subst hA'; subst hB'
      have hcW : ∀ j u, (rowF (fileAt xs i) A9 c9)[j]? = some u → W.cell? ((⟨b, o + i * 10, none⟩ : Addr).add j) = some u := fun j u hj => by rw [Addr.add_mid]; exact pw_cell_below hP.old (hcells j u hj)
      have hcW2 : ∀ W', Below w.heap.size w W' → ∀ j u, (rowF (fileAt xs i) B9 d9)[j]? = some u → W'.cell? ((⟨b2, o2 + i * 10, none⟩ : Addr).add j) = some u := fun W' hP j u hj => by rw [Addr.add_mid]; exact pw_cell_below hP (hcells2 j u hj)
      refine cw_skip ?_
      refine ew_next ?_
      refine cw_seq ?_
      refine cw_block ?_
      refine cw_seq ?_
      -- region 6 tape.go:50
      refine cw_region ?_
      refine ow_step (r_move rfl) rfl ?_
      refine ow_step (r_move rfl) rfl ?_
      refine ow_step (r_indexSl' (o' := o + i * 10) rfl rfl Tryd.underlying22 size26 ⟨by omega, by omega⟩ (by rw [Int.toNat_natCast])) rfl ?_
      refine ow_step (r_loads (c := rowF (fileAt xs i) A9 c9) rfl Tryd.underlying26 rfl size26 hcW) rfl ?_
      refine ow_var (ws := rowF (fileAt xs i) A9 c9) hP rfl (by kernel_rfl) (by simp [rowF, Value.oneCell']) rfl ?_
      clear hP; intro b6 W hz hg hP; clear hz hg
      refine ow_nil ?_
      refine ew_next ?_
      refine cw_seq ?_
      -- region 7 tape.go:51
      refine cw_region ?_
      refine ow_step (r_move rfl) rfl ?_
      refine ow_step (r_move rfl) rfl ?_
      refine ow_step (r_indexSl' (o' := o2 + i * 10) rfl rfl Tryd.underlying22 size26 ⟨by omega, by omega⟩ (by rw [Int.toNat_natCast])) rfl ?_
      refine ow_step (r_loads (c := rowF (fileAt xs i) B9 d9) rfl Tryd.underlying26 rfl size26 (hcW2 _ hP.old)) rfl ?_
      refine ow_var (ws := rowF (fileAt xs i) B9 d9) hP rfl (by kernel_rfl) (by simp [rowF, Value.oneCell']) rfl ?_
      clear hP; intro b7 W hz hg hP; clear hz hg
      refine ow_nil ?_
      refine ew_next ?_
      refine cw_seq ?_
      refine cw_seq ?_
      -- region 8 tape.go:52
      refine cw_region ?_
      refine ow_step (r_fieldAddr rfl fl26_0) rfl ?_
      refine ow_step (r_load rfl rfl (hP.cell (i := 1) rfl rfl)) rfl ?_
      refine ow_step (r_fieldAddr rfl fl26_0) rfl ?_
      refine ow_step (r_load rfl rfl (hP.cell (i := 0) rfl rfl)) rfl ?_
      refine ow_step (r_sneS rfl rfl) rfl ?_
      refine ow_step (r_move rfl) rfl ?_
      first | (refine ow_pass rfl rfl rfl (by rfl) rfl ?_) | (refine ow_guard rfl rfl rfl (by rfl) ?_; refine ow_step (r_fieldAddr rfl fl26_1) rfl ?_)
      first | (refine ow_pass rfl rfl rfl (by rfl) rfl ?_) | (refine ow_guard rfl rfl rfl (by rfl) ?_; refine ow_step (r_load rfl rfl (hP.cell (i := 1) rfl rfl)) rfl ?_)
      first | (refine ow_pass rfl rfl rfl (by rfl) rfl ?_) | (refine ow_guard rfl rfl rfl (by rfl) ?_; refine ow_step (r_fieldAddr rfl fl26_1) rfl ?_)
      first | (refine ow_pass rfl rfl rfl (by rfl) rfl ?_) | (refine ow_guard rfl rfl rfl (by rfl) ?_; refine ow_step (r_load rfl rfl (hP.cell (i := 0) rfl rfl)) rfl ?_)
      first | (refine ow_pass rfl rfl rfl (by rfl) rfl ?_) | (refine ow_guard rfl rfl rfl (by rfl) ?_; refine ow_step (r_sneS rfl rfl) rfl ?_)
      refine ow_step (r_pick rfl rfl rfl) rfl ?_
      refine ow_step (r_move rfl) rfl ?_
      first | (refine ow_pass rfl rfl rfl (by rfl) rfl ?_) | (refine ow_guard rfl rfl rfl (by rfl) ?_; refine ow_step (r_fieldAddr rfl fl26_2) rfl ?_)
      first | (refine ow_pass rfl rfl rfl (by rfl) rfl ?_) | (refine ow_guard rfl rfl rfl (by rfl) ?_; refine ow_step (r_load rfl rfl (hP.cell (i := 1) rfl rfl)) rfl ?_)
      first | (refine ow_pass rfl rfl rfl (by rfl) rfl ?_) | (refine ow_guard rfl rfl rfl (by rfl) ?_; refine ow_step (r_fieldAddr rfl fl26_2) rfl ?_)
      first | (refine ow_pass rfl rfl rfl (by rfl) rfl ?_) | (refine ow_guard rfl rfl rfl (by rfl) ?_; refine ow_step (r_load rfl rfl (hP.cell (i := 0) rfl rfl)) rfl ?_)
      first | (refine ow_pass rfl rfl rfl (by rfl) rfl ?_) | (refine ow_guard rfl rfl rfl (by rfl) ?_; refine ow_step (r_sneS rfl rfl) rfl ?_)
      refine ow_step (r_pick rfl rfl rfl) rfl ?_
      refine ow_step (r_move rfl) rfl ?_
      first | (refine ow_pass rfl rfl rfl (by rfl) rfl ?_) | (refine ow_guard rfl rfl rfl (by rfl) ?_; refine ow_step (r_fieldAddr rfl fl26_3) rfl ?_)
      first | (refine ow_pass rfl rfl rfl (by rfl) rfl ?_) | (refine ow_guard rfl rfl rfl (by rfl) ?_; refine ow_step (r_load rfl rfl (hP.cell (i := 1) rfl rfl)) rfl ?_)
      first | (refine ow_pass rfl rfl rfl (by rfl) rfl ?_) | (refine ow_guard rfl rfl rfl (by rfl) ?_; refine ow_step (r_fieldAddr rfl fl26_3) rfl ?_)
      first | (refine ow_pass rfl rfl rfl (by rfl) rfl ?_) | (refine ow_guard rfl rfl rfl (by rfl) ?_; refine ow_step (r_load rfl rfl (hP.cell (i := 0) rfl rfl)) rfl ?_)
      first | (refine ow_pass rfl rfl rfl (by rfl) rfl ?_) | (refine ow_guard rfl rfl rfl (by rfl) ?_; refine ow_step (r_sneS rfl rfl) rfl ?_)
      refine ow_step (r_pick rfl rfl rfl) rfl ?_
      refine ow_step (r_move rfl) rfl ?_
      first | (refine ow_pass rfl rfl rfl (by rfl) rfl ?_) | (refine ow_guard rfl rfl rfl (by rfl) ?_; refine ow_step (r_fieldAddr rfl fl26_4) rfl ?_)
      first | (refine ow_pass rfl rfl rfl (by rfl) rfl ?_) | (refine ow_guard rfl rfl rfl (by rfl) ?_; refine ow_step (r_load rfl rfl (hP.cell (i := 1) rfl rfl)) rfl ?_)
      first | (refine ow_pass rfl rfl rfl (by rfl) rfl ?_) | (refine ow_guard rfl rfl rfl (by rfl) ?_; refine ow_step (r_fieldAddr rfl fl26_4) rfl ?_)
      first | (refine ow_pass rfl rfl rfl (by rfl) rfl ?_) | (refine ow_guard rfl rfl rfl (by rfl) ?_; refine ow_step (r_load rfl rfl (hP.cell (i := 0) rfl rfl)) rfl ?_)
      first | (refine ow_pass rfl rfl rfl (by rfl) rfl ?_) | (refine ow_guard rfl rfl rfl (by rfl) ?_; refine ow_step (r_neS rfl rfl) rfl ?_)
      refine ow_step (r_pick rfl rfl rfl) rfl ?_
      refine ow_nil ?_
      refine ew_next ?_
      refine cw_false rfl ?_
      refine cw_skip ?_
      refine ew_next ?_
      refine cw_seq ?_
      -- region 10 tape.go:55
      refine cw_region ?_
      refine ow_step (r_fieldAddr rfl fl26_5) rfl ?_
      refine ow_step (r_load rfl rfl (hP.cell (i := 1) rfl rfl)) rfl ?_
      refine ow_step (r_fieldAddr rfl fl26_5) rfl ?_
      refine ow_step (r_load rfl rfl (hP.cell (i := 0) rfl rfl)) rfl ?_
      refine ow_step (r_neS rfl rfl) rfl ?_
      refine ow_step (r_move rfl) rfl ?_
      first | (refine ow_pass rfl rfl rfl (by rfl) rfl ?_) | (refine ow_guard rfl rfl rfl (by rfl) ?_; refine ow_step (r_fieldAddr rfl fl26_6) rfl ?_)
      first | (refine ow_pass rfl rfl rfl (by rfl) rfl ?_) | (refine ow_guard rfl rfl rfl (by rfl) ?_; refine ow_step (r_load rfl rfl (hP.cell (i := 1) rfl rfl)) rfl ?_)
      first | (refine ow_pass rfl rfl rfl (by rfl) rfl ?_) | (refine ow_guard rfl rfl rfl (by rfl) ?_; refine ow_step (r_fieldAddr rfl fl26_6) rfl ?_)
      first | (refine ow_pass rfl rfl rfl (by rfl) rfl ?_) | (refine ow_guard rfl rfl rfl (by rfl) ?_; refine ow_step (r_load rfl rfl (hP.cell (i := 0) rfl rfl)) rfl ?_)
      first | (refine ow_pass rfl rfl rfl (by rfl) rfl ?_) | (refine ow_guard rfl rfl rfl (by rfl) ?_; refine ow_step (r_neS rfl rfl) rfl ?_)
      refine ow_step (r_pick rfl rfl rfl) rfl ?_
      refine ow_step (r_move rfl) rfl ?_
      first | (refine ow_pass rfl rfl rfl (by rfl) rfl ?_) | (refine ow_guard rfl rfl rfl (by rfl) ?_; refine ow_step (r_fieldAddr rfl fl26_7) rfl ?_)
      first | (refine ow_pass rfl rfl rfl (by rfl) rfl ?_) | (refine ow_guard rfl rfl rfl (by rfl) ?_; refine ow_step (r_load rfl rfl (hP.cell (i := 1) rfl rfl)) rfl ?_)
      first | (refine ow_pass rfl rfl rfl (by rfl) rfl ?_) | (refine ow_guard rfl rfl rfl (by rfl) ?_; refine ow_step (r_fieldAddr rfl fl26_7) rfl ?_)
      first | (refine ow_pass rfl rfl rfl (by rfl) rfl ?_) | (refine ow_guard rfl rfl rfl (by rfl) ?_; refine ow_step (r_load rfl rfl (hP.cell (i := 0) rfl rfl)) rfl ?_)
      first | (refine ow_pass rfl rfl rfl (by rfl) rfl ?_) | (refine ow_guard rfl rfl rfl (by rfl) ?_; refine ow_step (r_neS rfl rfl) rfl ?_)
      refine ow_step (r_pick rfl rfl rfl) rfl ?_
      refine ow_step (r_move rfl) rfl ?_
      first | (refine ow_pass rfl rfl rfl (by rfl) rfl ?_) | (refine ow_guard rfl rfl rfl (by rfl) ?_; refine ow_step (r_fieldAddr rfl fl26_8) rfl ?_)
      first | (refine ow_pass rfl rfl rfl (by rfl) rfl ?_) | (refine ow_guard rfl rfl rfl (by rfl) ?_; refine ow_step (r_load rfl rfl (hP.cell (i := 1) rfl rfl)) rfl ?_)
      first | (refine ow_pass rfl rfl rfl (by rfl) rfl ?_) | (refine ow_guard rfl rfl rfl (by rfl) ?_; refine ow_step (r_fieldAddr rfl fl26_8) rfl ?_)
      first | (refine ow_pass rfl rfl rfl (by rfl) rfl ?_) | (refine ow_guard rfl rfl rfl (by rfl) ?_; refine ow_step (r_load rfl rfl (hP.cell (i := 0) rfl rfl)) rfl ?_)
      first | (refine ow_pass rfl rfl rfl (by rfl) rfl ?_) | (refine ow_guard rfl rfl rfl (by rfl) ?_; refine ow_step (r_neS rfl rfl) rfl ?_)
      refine ow_step (r_pick rfl rfl rfl) rfl ?_
      refine ow_step (r_move rfl) rfl ?_
      first | (refine ow_pass rfl rfl rfl (by rfl) rfl ?_) | (refine ow_guard rfl rfl rfl (by rfl) ?_; refine ow_step (r_fieldAddr rfl fl26_9) rfl ?_)
      first | (refine ow_pass rfl rfl rfl (by rfl) rfl ?_) | (refine ow_guard rfl rfl rfl (by rfl) ?_; refine ow_step (r_load rfl rfl (hP.cell (i := 1) rfl rfl)) rfl ?_)
      first | (refine ow_pass rfl rfl rfl (by rfl) rfl ?_) | (refine ow_guard rfl rfl rfl (by rfl) ?_; refine ow_step (r_fieldAddr rfl fl26_9) rfl ?_)
      first | (refine ow_pass rfl rfl rfl (by rfl) rfl ?_) | (refine ow_guard rfl rfl rfl (by rfl) ?_; refine ow_step (r_load rfl rfl (hP.cell (i := 0) rfl rfl)) rfl ?_)
      refine ow_guard rfl rfl rfl (by rfl) ?_
      refine ow_call en14 rfl (same_calls A9 B9 c9 d9 (fileAt xs i).f9 _ (Kd.C_below hC9 hP.old) (Kd.C_below hD9 hP.old) hc9 hd9 (by omega)) rfl ?_
      rintro e W ⟨rfl, hb⟩; replace hP := hP.below hb; clear hb; refine ⟨_, rfl, ?_⟩
      first | (refine ow_pass rfl rfl rfl (by rfl) rfl ?_) | (refine ow_guard rfl rfl rfl (by rfl) ?_; refine ow_step (r_not rfl) rfl ?_)
      refine ow_step (r_pick rfl rfl rfl) rfl ?_
      refine ow_nil ?_
      refine ew_next ?_
      refine cw_false rfl ?_
      refine cw_skip ?_
      refine ew_block ?_
      refine ew_next ?_
      -- region 5 tape.go:49
      refine cw_region ?_
      refine ow_step (r_move rfl) rfl ?_
      refine ow_step (i_add rfl rfl (by omega)) rfl ?_
      refine ow_step (r_assign rfl) rfl ?_
      refine ow_nil ?_
      refine ew_round (m := (fun i : Nat => xs.length - i)) (S := (fun i : Nat => [(0, .slice (some ⟨b, o, none⟩) xs.length c), (1, .slice (some ⟨b2, o2, none⟩) xs.length d), (5, .int .i64 ((i : Nat) : Int))])) (I := (fun (i : Nat) w' => i ≤ xs.length ∧ HP w w' [])) (u := i) (i + 1) ⟨rfl, rfl, rfl, trivial⟩ ⟨by omega, hP.sub (List.nil_sublist _)⟩ (by omega)
    · -- cond 1 no
      have hc1 := hb1; (try simp only [Bool.and_eq_true, Bool.or_eq_true, Bool.and_eq_false_iff, Bool.or_eq_false_iff, Bool.not_eq_true', Bool.not_eq_false', decide_eq_true_eq, decide_eq_false_iff_not, ne_eq, Decidable.not_not, not_true_eq_false, not_false_eq_true] at hc1)
      refine cw_exit ?_
      refine ew_then_exit ?_
      refine ew_then_exit ?_
      refine ew_block_hit ?_
      refine ew_next ?_
      refine cw_seq ?_
      -- region 12 tape.go:59
      refine cw_region ?_
      refine ow_step (r_assign rfl) rfl ?_
      refine ow_nil ?_
      refine ew_next ?_
      refine cw_ret ?_
      refine ew_ret1 rfl (.tmp rfl .nil) ⟨rfl, hP.old⟩
end Go.Proofs.YtlhmbncalonomaaDoor.Alk
namespace Go.Proofs.YtlhmbncalonomaaDoor.Twn
open Go.RowKit Go.Proofs.YtlhmbncalonomaaDoor.Q Go.Proofs.YtlhmbncalonomaaDoor.Cpy Go.Proofs.YtlhmbncalonomaaDoor.Hand Go.Proofs.YtlhmbncalonomaaDoor.Arr Go.Proofs.YtlhmbncalonomaaDoor.Sx Go.Proofs.YtlhmbncalonomaaDoor.Head Go.Proofs.YtlhmbncalonomaaDoor.Snd Go.Proofs.YtlhmbncalonomaaDoor.TpB Go.Proofs.YtlhmbncalonomaaDoor.TpH Go.Proofs.YtlhmbncalonomaaDoor.RfH Go.Proofs.YtlhmbncalonomaaDoor.Spc Go.Proofs.YtlhmbncalonomaaDoor.Spd Go.Proofs.YtlhmbncalonomaaDoor.Fil Go.Proofs.YtlhmbncalonomaaDoor.Fil2 Go.Proofs.YtlhmbncalonomaaDoor.Alk Go.Proofs.YtlhmbncalonomaaDoorW.PrintWords Go.Proofs.YtlhmbncalonomaaDoorW.PrintLast Go.Proofs.YtlhmbncalonomaaDoorW.PrintMore
set_option linter.unusedVariables false
set_option linter.unusedSimpArgs false
def rowV (x : S26) (v : Value) : List Value := [.string x.f0, .string x.f1, .string x.f2, .string x.f3, .int .i64 x.f4, .int .i64 x.f5, .int .i64 x.f6, .int .i64 x.f7, .int .i64 x.f8, v]
def rowsF (xs : List S26) (f : Nat → Value) : List Value := (List.range (xs.length * 10)).map fun m => (rowV (fileAt xs (m / 10)) (f (m / 10))).getD (m % 10) undef
theorem rowsF_length (xs : List S26) (f : Nat → Value) : (rowsF xs f).length = xs.length * 10 := by simp [rowsF]
theorem rowsF_at (xs : List S26) (f : Nat → Value) (i k : Nat) (hi : i < xs.length) (hk : k < 10) : (rowsF xs f)[i * 10 + k]? = some ((rowV (fileAt xs i) (f i)).getD k undef) := by
  unfold rowsF
  rw [List.getElem?_map, List.getElem?_range (by omega)]
  simp only [Option.map_some, show (i * 10 + k) / 10 = i by omega, show (i * 10 + k) % 10 = k by omega]
theorem rowV_get (x : S26) (v : Value) (k : Nat) (hk : k < 10) : (rowV x v)[k]? = some ((rowV x v).getD k undef) := by
  rw [List.getD_eq_getElem?_getD, List.getElem?_eq_getElem (by simp [rowV]; exact hk)]
  rfl
theorem rowV_low (x : S26) (v v' : Value) (k : Nat) (hk : k < 9) : (rowV x v).getD k undef = (rowV x v').getD k undef := by
  match k, hk with
  | 0, _ | 1, _ | 2, _ | 3, _ | 4, _ | 5, _ | 6, _ | 7, _ | 8, _ => rfl
theorem rowsF_set (xs : List S26) (f : Nat → Value) (i : Nat) (v : Value) (hi : i < xs.length) : (rowsF xs f).set (i * 10 + 9) v = rowsF xs (fun j => if j = i then v else f j) := by
  apply List.ext_getElem?
  intro m
  rw [List.getElem?_set]
  by_cases hm : m < xs.length * 10
  · have e : m = (m / 10) * 10 + m % 10 := by omega
    have e2 : ∀ f, (rowsF xs f)[m]? = some ((rowV (fileAt xs (m / 10)) (f (m / 10))).getD (m % 10) undef) := fun f => by
      have := rowsF_at xs f (m / 10) (m % 10) (by omega) (by omega)
      rwa [← e] at this
    rw [e2, e2]
    by_cases h9 : i * 10 + 9 = m
    · rw [if_pos h9, if_pos (by rw [rowsF_length]; omega)]
      simp only [show m / 10 = i by omega, show m % 10 = 9 by omega, if_true]
      rfl
    · rw [if_neg h9]
      by_cases hj : m / 10 = i
      · have : m % 10 < 9 := by omega
        rw [rowV_low _ _ _ _ this]
      · simp only [hj, if_false]
  · rw [List.getElem?_eq_none (by rw [rowsF_length]; omega), List.getElem?_eq_none (by rw [rowsF_length]; omega), if_neg (by omega)]
theorem rowsF_congr (xs : List S26) (f g : Nat → Value) (h : ∀ i, i < xs.length → f i = g i) : rowsF xs f = rowsF xs g := by
  unfold rowsF
  apply List.map_congr_left
  intro m hm
  have := List.mem_range.1 hm
  rw [h (m / 10) (by omega)]
theorem rowsF_one (xs : List S26) (f : Nat → Value) (h : ∀ i, i < xs.length → (f i).oneCell' = true) : ∀ u ∈ rowsF xs f, u.oneCell' = true := fun u hu => by
  unfold rowsF at hu
  obtain ⟨m, hm, rfl⟩ := List.mem_map.1 hu
  have hm := List.mem_range.1 hm
  have hv := h (m / 10) (by omega)
  have : m % 10 < 10 := Nat.mod_lt _ (by omega)
  revert this
  generalize m % 10 = k
  intro hk
  match k, hk with
  | 0, _ | 1, _ | 2, _ | 3, _ | 4, _ | 5, _ | 6, _ | 7, _ | 8, _ => rfl
  | 9, _ => exact hv
def DataAt (W : World) (l : List Int) (v : Value) : Prop := ∃ A9 c9, v = .slice A9 l.length c9 ∧ l.length ≤ c9 ∧ (Kd.int .u8).C W A9 l.length l
theorem DataAt.below {W W' : World} {l : List Int} {v : Value} (h : DataAt W l v) (hb : Below W.heap.size W W') : DataAt W' l v := by
  obtain ⟨A9, c9, h1, h2, h3⟩ := h
  exact ⟨A9, c9, h1, h2, Kd.C_below h3 hb⟩
theorem u8_C {W : World} {g t : Nat} {l : List Int} {cs : List Value} (hl : l.length ≤ 9223372036854775807) (h : W.heap[g]? = some (.cells cs.toArray t (0, 0))) (hc : ∀ (j : Nat) u, (u8s l)[j]? = some u → cs[j]? = some u) : (Kd.int .u8).C W (some ⟨g, 0, none⟩) l.length l :=
  ⟨rfl, hl, fun _ => ⟨_, rfl, fun j p hj => ⟨[.int .u8 p], rfl, rfl, fun i u hu => by
    match i, hu with
    | 0, hu =>
      cases hu
      rw [Addr.add_mid, show 0 + (j * (Kd.int .u8).sz + 0) = j by show 0 + (j * 1 + 0) = j; omega]
      have := hc j (.int .u8 p) (by rw [List.getElem?_map, hj]; rfl)
      simp [World.cell?, h, this]⟩⟩⟩
theorem dataAt_own {W : World} {g t k : Nat} {l : List Int} {cs : List Value} (hl : l.length ≤ 9223372036854775807) (h : W.heap[g]? = some (.cells cs.toArray t (0, 0))) (hc : ∀ (j : Nat) u, (u8s l)[j]? = some u → cs[j]? = some u) (hk : l.length ≤ k) : DataAt W l (.slice (some ⟨g, 0, none⟩) l.length k) := ⟨_, _, rfl, hk, u8_C hl h hc⟩
theorem kdC_rows {W : World} {g : Nat} {xs : List S26} {f : Nat → Value} (hn : xs.length ≤ 9223372036854775807) (hc : ∀ m u, (rowsF xs f)[m]? = some u → W.cell? ⟨g, m, none⟩ = some u) (hf : ∀ i, i < xs.length → DataAt W (fileAt xs i).f9 (f i)) : Kd.C k26 W (some ⟨g, 0, none⟩) xs.length xs :=
  ⟨rfl, hn, fun _ => ⟨_, rfl, fun j p hj => by
    obtain ⟨hlt, hp⟩ := List.getElem?_eq_some_iff.1 hj
    have hp' : fileAt xs j = p := by unfold fileAt; rw [List.getD_eq_getElem?_getD, hj]; rfl
    obtain ⟨A9, c9, e, h1, h2⟩ := hf j hlt
    rw [hp'] at e h1 h2
    refine ⟨rowF p A9 c9, rfl, k26_mk W p h1 h2, fun i u hu => ?_⟩
    have hi : i < 10 := (List.getElem?_eq_some_iff.1 hu).1
    rw [Addr.add_mid, Nat.zero_add]
    refine hc _ _ ?_
    rw [show k26.sz = 10 from rfl, rowsF_at xs f j i hlt hi, hp', e, ← rowV_get _ _ _ hi]
    exact hu⟩⟩
theorem files_rows {w : World} {A : Option Addr} {xs : List S26} (h : Kd.C k26 w A xs.length xs) : ∃ f : Nat → Value, (∀ i, i < xs.length → DataAt w (fileAt xs i).f9 (f i)) ∧ ∀ b o, A = some ⟨b, o, none⟩ → ∀ m u, (rowsF xs f)[m]? = some u → w.cell? ⟨b, o + m, none⟩ = some u := by
  have key : ∀ i, ∃ v, i < xs.length → DataAt w (fileAt xs i).f9 v ∧ ∀ b o, A = some ⟨b, o, none⟩ → ∀ k u, (rowV (fileAt xs i) v)[k]? = some u → w.cell? ⟨b, o + i * 10 + k, none⟩ = some u := fun i => by
    by_cases hi : i < xs.length
    · obtain ⟨b, o, A9, c9, hA, hcells, hc9, hC9⟩ := files_at h i hi
      refine ⟨_, fun _ => ⟨⟨A9, c9, rfl, hc9, hC9⟩, fun b' o' hA' k u hk => ?_⟩⟩
      rw [hA] at hA'
      cases hA'
      exact hcells k u hk
    · exact ⟨undef, fun hi' => absurd hi' hi⟩
  obtain ⟨f, hf⟩ := Classical.skolem.1 key
  refine ⟨f, fun i hi => (hf i hi).1, fun b o hA m u hm => ?_⟩
  have hlt : m < xs.length * 10 := by have := (List.getElem?_eq_some_iff.1 hm).1; rwa [rowsF_length] at this
  have e : m = (m / 10) * 10 + m % 10 := by omega
  have h1 := rowsF_at xs f (m / 10) (m % 10) (by omega) (by omega)
  rw [← e, hm, ← rowV_get _ _ _ (by omega)] at h1
  have := (hf (m / 10) (by omega)).2 b o hA (m % 10) u h1.symm
  rwa [Nat.add_assoc, ← e] at this
theorem ow_copyU {Q : Exit → Act → World → Prop} {N : Nat} {sl : List (Nat × Value)} {W0 W : World} {ops : Array Oper} {rest : List Oper} {d m c c2 g : Nat} {ty : TypeId} {pos : String} {aft : Array Edge} {x y : Operand} {bs : List (Nat × List Value × Nat)} {A : Option Addr} {l : List Int} {cs : List Value}
    (hP : HP W0 W bs) (q : Nat) (hq : bs[q]? = some (g, cs, 5)) (hx : sv sl x = some (.slice (some ⟨g, 0, none⟩) m c)) (hy : sv sl y = some (.slice A l.length c2)) (hC : (Kd.int .u8).C W A l.length l) (hm : m = l.length) (hcs : cs.length = l.length) (hd : Nat.blt d N = true)
    (h : ∀ v W', HP W0 W' (bs.set q (g, u8s l, 5)) → OW Tryd.prog ops Q rest N ((d, v) :: sl) W') : OW Tryd.prog ops Q (⟨some d, .call ⟨.builtin .copy, #[x, y], #[24, 24]⟩, ty, pos, aft, none⟩ :: rest) N sl W := by
  subst hm
  rcases Nat.eq_zero_or_pos l.length with h0 | h0
  · have hl : l = [] := List.eq_nil_of_length_eq_zero h0
    subst hl
    have hcs0 : cs = [] := List.eq_nil_of_length_eq_zero (by simpa using hcs)
    subst hcs0
    refine ow_copy0 (sz := 1) hx hy Tryd.underlying24 size5 (by simp) hd (h _ _ ?_)
    have : bs.set q (g, u8s [], 5) = bs := by
      apply List.ext_getElem?
      intro j
      rw [List.getElem?_set]
      by_cases hj : q = j
      · subst hj
        obtain ⟨hlt, e⟩ := List.getElem?_eq_some_iff.1 hq
        rw [if_pos rfl, if_pos hlt, List.getElem?_eq_getElem hlt, e]
        rfl
      · rw [if_neg hj]
    rw [this]
    exact hP
  · obtain ⟨_, _, h2⟩ := hC
    obtain ⟨ad, rfl, hc⟩ := h2 h0
    refine ow_copy (ws := u8s l) (sz := 1) (o := 0) hP q hq hx hy Tryd.underlying24 size5 (by rw [u8s_length]; simp) (fun j u hj => ?_) u8s_one (by rw [u8s_length]; omega) hd (fun W' hg hP' => h _ _ ?_)
    · rw [List.getElem?_map] at hj
      obtain ⟨p, hp, rfl⟩ := Option.map_eq_some_iff.1 hj
      obtain ⟨c, _, rfl, hcell⟩ := hc j p hp
      have := hcell 0 _ rfl
      rwa [show j * (Kd.int .u8).sz + 0 = j from Nat.mul_one j] at this
    · rw [List.take_zero, List.nil_append, u8s_length, List.drop_eq_nil_of_le (by omega), List.append_nil] at hP'
      exact hP'
set_option maxRecDepth 100000 in
theorem clone_ex (A : Option Addr) (c : Nat) (l : List Int) (w : World) (hC : (Kd.int .u8).C w A l.length l) (hl : l.length ≤ 1099511627776) :
    Calls Tryd.prog 10 #[.slice A l.length c] w fun e w' => ∃ g, e = .returned (.slice (some ⟨g, 0, none⟩) l.length l.length) ∧ HP w w' [(g, u8s l, 5)] := by
  have hP := HP.start w
  refine calls_cw Tryd.func10 rfl rfl (by simp) ?_
  refine cw_seq ?_
  -- region 0 tape.go:28
  refine cw_region ?_
  refine ow_step (r_assign rfl) rfl ?_
  refine ow_nil ?_
  refine ew_next ?_
  refine cw_seq ?_
  -- region 1 tape.go:29
  refine cw_region ?_
  refine ow_step (r_move rfl) rfl ?_
  refine ow_step (r_len rfl (by rfl) rfl) rfl ?_
  refine ow_make1 (N := l.length) (M := l.length) (z := .int .u8 0) (m := 1) hP rfl rfl Tryd.underlying24 info5s rfl ⟨by omega, by omega, by omega, by omega⟩ (Int.toNat_natCast _) (Int.toNat_natCast _) rfl ?_
  clear hP; intro g W hz hg hP
  refine ow_step (r_assign rfl) rfl ?_
  refine ow_nil ?_
  refine ew_next ?_
  refine cw_seq ?_
  -- region 2 tape.go:30
  refine cw_region ?_
  refine ow_step (r_move rfl) rfl ?_
  refine ow_step (r_move rfl) rfl ?_
  refine ow_copyU hP 0 rfl rfl rfl (Kd.C_below hC hP.old) rfl (by rw [List.length_replicate]) rfl ?_
  clear hP; intro v W hP; dsimp only [List.set] at hP
  refine ow_nil ?_
  refine ew_next ?_
  refine cw_seq ?_
  -- region 3 tape.go:31
  refine cw_region ?_
  refine ow_step (r_move rfl) rfl ?_
  refine ow_step (r_assign rfl) rfl ?_
  refine ow_nil ?_
  refine ew_next ?_
  refine cw_ret ?_
  refine ew_ret1 rfl (.tmp rfl .nil) ⟨g, rfl, hP⟩
theorem ow_copyF {Q : Exit → Act → World → Prop} {N : Nat} {sl : List (Nat × Value)} {w W : World} {ops : Array Oper} {rest : List Oper} {d m c c2 g : Nat} {ty : TypeId} {pos : String} {aft : Array Edge} {x y : Operand} {bs : List (Nat × List Value × Nat)} {A : Option Addr} {xs : List S26} {cs : List Value} {f0 : Nat → Value}
    (hP : HP w W bs) (q : Nat) (hq : bs[q]? = some (g, cs, 26)) (hx : sv sl x = some (.slice (some ⟨g, 0, none⟩) m c)) (hy : sv sl y = some (.slice A xs.length c2)) (hf : ∀ i, i < xs.length → DataAt w (fileAt xs i).f9 (f0 i)) (hfc : ∀ b o, A = some ⟨b, o, none⟩ → ∀ m u, (rowsF xs f0)[m]? = some u → w.cell? ⟨b, o + m, none⟩ = some u) (hC : Kd.C k26 W A xs.length xs) (hm : m = xs.length) (hcs : cs.length = xs.length * 10) (h1 : ∀ u ∈ rowsF xs f0, u.oneCell' = true) (hd : Nat.blt d N = true)
    (h : ∀ v W', HP w W' (bs.set q (g, rowsF xs f0, 26)) → OW Tryd.prog ops Q rest N ((d, v) :: sl) W') : OW Tryd.prog ops Q (⟨some d, .call ⟨.builtin .copy, #[x, y], #[22, 22]⟩, ty, pos, aft, none⟩ :: rest) N sl W := by
  subst hm
  rcases Nat.eq_zero_or_pos xs.length with h0 | h0
  · have hcs0 : cs = [] := List.eq_nil_of_length_eq_zero (by omega)
    have hr0 : rowsF xs f0 = [] := List.eq_nil_of_length_eq_zero (by rw [rowsF_length]; omega)
    refine ow_copy0 (sz := 10) hx hy Tryd.underlying22 size26 (by rw [h0]; rfl) hd (h _ _ ?_)
    have : bs.set q (g, rowsF xs f0, 26) = bs := by
      rw [hr0, ← hcs0]
      apply List.ext_getElem?
      intro j
      rw [List.getElem?_set]
      by_cases hj : q = j
      · subst hj
        obtain ⟨hlt, e⟩ := List.getElem?_eq_some_iff.1 hq
        rw [if_pos rfl, if_pos hlt, List.getElem?_eq_getElem hlt, e]
      · rw [if_neg hj]
    rw [this]
    exact hP
  · obtain ⟨b, o, _, _, hA, _⟩ := files_at hC 0 h0
    subst hA
    refine ow_copy (ws := rowsF xs f0) (sz := 10) (o := 0) hP q hq hx hy Tryd.underlying22 size26 (by rw [rowsF_length]; simp) (fun j u hj => ?_) h1 (by rw [rowsF_length]; omega) hd (fun W' hg hP' => h _ _ ?_)
    · rw [Addr.add_mid]
      exact pw_cell_below hP.old (hfc b o rfl j u hj)
    · rw [List.take_zero, List.nil_append, rowsF_length, List.drop_eq_nil_of_le (by omega), List.append_nil] at hP'
      exact hP'
theorem en10 : Enters Tryd.prog 10 := fun args w => by kernel_rfl
set_option maxRecDepth 100000 in
theorem twin_calls (A : Option Addr) (c : Nat) (xs : List S26) (w : World) (hC : Kd.C k26 w A xs.length xs) (hs : Small xs) :
    Calls Tryd.prog 9 #[.slice A xs.length c] w fun e w' => ∃ (g : Nat) (G : Nat → Nat), e = .returned (.slice (some ⟨g, 0, none⟩) xs.length xs.length) ∧
      HP w w' ((g, rowsF xs (fun j => .slice (some ⟨G j, 0, none⟩) (fileAt xs j).f9.length (fileAt xs j).f9.length), 26) :: ((List.range xs.length).map fun j => (G j, u8s (fileAt xs j).f9, 5))) := by
  have hP := HP.start w
  have hlen := hs.len
  obtain ⟨f0, hf0, hfc⟩ := files_rows hC
  obtain ⟨j26, hj26, hj0⟩ := Option.map_eq_some_iff.1 info26
  simp only [Prod.mk.injEq] at hj0
  obtain ⟨hj1, hj2, hj3⟩ := hj0
  refine calls_cw Tryd.func9 rfl rfl (by simp) ?_
  refine cw_seq ?_
  -- region 0 tape.go:35
  refine cw_region ?_
  refine ow_step (r_assign rfl) rfl ?_
  refine ow_nil ?_
  refine ew_next ?_
  refine cw_seq ?_
  -- region 1 tape.go:36
  refine cw_region ?_
  refine ow_step (r_move rfl) rfl ?_
  refine ow_step (r_len rfl (by rfl) rfl) rfl ?_
  refine ow_make (z := .agg #[(.string ⟨#[]⟩), (.string ⟨#[]⟩), (.string ⟨#[]⟩), (.string ⟨#[]⟩), (.int .i64 0), (.int .i64 0), (.int .i64 0), (.int .i64 0), (.int .i64 0), (.slice none 0 0)]) hP rfl rfl Tryd.underlying22 hj26 hj1 ⟨by omega, by omega, by omega, by rw [hj3]; omega⟩ rfl ?_
  clear hP; intro g W hz hg hP
  rw [hj2, Int.toNat_natCast] at hP
  refine ow_step (r_assign rfl) rfl ?_
  refine ow_nil ?_
  refine ew_next ?_
  refine cw_seq ?_
  -- region 2 tape.go:37
  refine cw_region ?_
  refine ow_step (r_move rfl) rfl ?_
  refine ow_step (r_move rfl) rfl ?_
  refine ow_copyF hP 0 rfl rfl rfl hf0 hfc (Kd.C_below hC hP.old) rfl (by rw [Array.length_toList, size_madeCells]) (rowsF_one xs f0 (fun i hi => by obtain ⟨A9, c9, e, _⟩ := hf0 i hi; rw [e]; rfl)) rfl ?_
  clear hP; intro v W hP; dsimp only [List.set] at hP
  refine ow_nil ?_
  refine ew_next ?_
  refine cw_seq ?_
  refine cw_seq ?_
  -- region 3 tape.go:38
  refine cw_region ?_
  refine ow_step (r_assign rfl) rfl ?_
  refine ow_nil ?_
  refine ew_next ?_
  refine cw_block ?_
  refine cw_loop (α := Nat × (Nat → Nat)) (fun u : Nat × (Nat → Nat) => xs.length - u.1) (fun u : Nat × (Nat → Nat) => [(0, .slice A xs.length c), (3, .slice (some ⟨g, 0, none⟩) xs.length xs.length), (4, .int .i64 ((u.1 : Nat) : Int))]) (fun (u : Nat × (Nat → Nat)) w' => u.1 ≤ xs.length ∧ HP w w' ((g, rowsF xs (fun j => if j < u.1 then .slice (some ⟨u.2 j, 0, none⟩) (fileAt xs j).f9.length (fileAt xs j).f9.length else f0 j), 26) :: ((List.range u.1).map fun j => (u.2 j, u8s (fileAt xs j).f9, 5)))) (0, fun _ => 0) ⟨rfl, rfl, rfl, trivial⟩ ⟨Nat.zero_le _, ?_⟩ ?_
  · have : rowsF xs f0 = rowsF xs (fun j => if j < 0 then .slice (some ⟨(fun _ => 0) j, 0, none⟩) (fileAt xs j).f9.length (fileAt xs j).f9.length else f0 j) := rowsF_congr _ _ _ (fun i hi => by simp)
    rw [this] at hP
    exact hP
  clear hP; rintro ⟨i, G⟩ W ⟨hi, hP⟩; dsimp only at hi hP ⊢
  · -- round 0
    refine cw_seq ?_
    refine cw_seq ?_
    -- region 4 tape.go:38
    refine cw_region ?_
    refine ow_step (r_move rfl) rfl ?_
    refine ow_step (r_move rfl) rfl ?_
    refine ow_step (r_len rfl (by rfl) rfl) rfl ?_
    refine ow_step (r_lt rfl rfl) rfl ?_
    refine ow_nil ?_
    refine ew_next ?_
    refine cw_cond rfl (fun hb0 => ?_) (fun hb0 => ?_)
    · -- cond 0 yes
      have hc0 := hb0; (try simp only [Bool.and_eq_true, Bool.or_eq_true, Bool.and_eq_false_iff, Bool.or_eq_false_iff, Bool.not_eq_true', Bool.not_eq_false', decide_eq_true_eq, decide_eq_false_iff_not, ne_eq, Decidable.not_not, not_true_eq_false, not_false_eq_true] at hc0)
      have hi' : i < xs.length := by omega
      obtain ⟨b, o, A9, c9, hA, hcells, hc9, hC9⟩ := files_at hC i hi'
      have hsx := hs.at_ _ (fileAt_mem hi')
      subst hA
      refine cw_skip ?_
      refine ew_next ?_
      refine cw_seq ?_
      refine cw_block ?_
      -- region 6 tape.go:39
      refine cw_region ?_
      refine ow_step (r_move rfl) rfl ?_
      refine ow_step (r_move rfl) rfl ?_
      refine ow_step (r_move rfl) rfl ?_
      refine ow_step (r_move rfl) rfl ?_
      refine ow_step (r_indexSl' (o' := o + i * 10) rfl rfl Tryd.underlying22 size26 ⟨by omega, by omega⟩ (by rw [Int.toNat_natCast])) rfl ?_
      refine ow_step (r_fieldAddr rfl fl26_9) rfl ?_
      refine ow_step (r_load rfl rfl (pw_cell_below hP.old (hcells 9 _ rfl))) rfl ?_
      refine ow_call en10 rfl (clone_ex A9 c9 (fileAt xs i).f9 _ (Kd.C_below hC9 hP.old) (by omega)) rfl ?_
      rintro e W ⟨gc, rfl, hJ⟩; replace hP := hP.push hJ.old (hJ.ge (i := 0) rfl) (hJ.blk (i := 0) rfl); clear hJ; refine ⟨_, rfl, ?_⟩
      refine ow_step (r_indexSl' (o' := i * 10) rfl rfl Tryd.underlying22 size26 ⟨by omega, by omega⟩ (by rw [Int.toNat_natCast, Nat.zero_add])) rfl ?_
      refine ow_step (r_fieldAddr rfl fl26_9) rfl ?_
      refine ow_store hP 1 rfl (by rw [rowsF_length]; omega) rfl rfl rfl rfl rfl ?_
      clear hP; intro W hg hP; dsimp only [List.set] at hP; rw [rowsF_set _ _ _ _ hi'] at hP
      refine ow_nil ?_
      refine ew_block ?_
      refine ew_next ?_
      -- region 5 tape.go:38
      refine cw_region ?_
      refine ow_step (r_move rfl) rfl ?_
      refine ow_step (i_add rfl rfl (by omega)) rfl ?_
      refine ow_step (r_assign rfl) rfl ?_
      refine ow_nil ?_
      refine ew_round (α := Nat × (Nat → Nat)) (m := (fun u : Nat × (Nat → Nat) => xs.length - u.1)) (S := (fun u : Nat × (Nat → Nat) => [(0, .slice (some ⟨b, o, none⟩) xs.length c), (3, .slice (some ⟨g, 0, none⟩) xs.length xs.length), (4, .int .i64 ((u.1 : Nat) : Int))])) (I := (fun (u : Nat × (Nat → Nat)) w' => u.1 ≤ xs.length ∧ HP w w' ((g, rowsF xs (fun j => if j < u.1 then .slice (some ⟨u.2 j, 0, none⟩) (fileAt xs j).f9.length (fileAt xs j).f9.length else f0 j), 26) :: ((List.range u.1).map fun j => (u.2 j, u8s (fileAt xs j).f9, 5))))) (u := (i, G)) (i + 1, fun j => if j = i then gc else G j) ⟨rfl, rfl, rfl, trivial⟩ ⟨by dsimp only; omega, ?_⟩ (by dsimp only; omega)
      dsimp only
      have e1 : ((List.range (i + 1)).map fun j => ((fun j => if j = i then gc else G j) j, u8s (fileAt xs j).f9, 5)) = ((List.range i).map fun j => (G j, u8s (fileAt xs j).f9, 5)) ++ [(gc, u8s (fileAt xs i).f9, 5)] := by
        rw [List.range_succ, List.map_append]
        congr 1
        · apply List.map_congr_left
          intro j hj
          have := List.mem_range.1 hj
          dsimp only
          rw [if_neg (by omega)]
        · simp
      rw [e1]
      have e2 := rowsF_congr xs (fun j => if j = i then Value.slice (some ⟨gc, 0, none⟩) (fileAt xs i).f9.length (fileAt xs i).f9.length else (fun j => if j < i then .slice (some ⟨G j, 0, none⟩) (fileAt xs j).f9.length (fileAt xs j).f9.length else f0 j) j) (fun j => if j < i + 1 then .slice (some ⟨(fun j => if j = i then gc else G j) j, 0, none⟩) (fileAt xs j).f9.length (fileAt xs j).f9.length else f0 j) (fun j hj => by
        by_cases h1 : j = i
        · subst h1; simp
        · by_cases h2 : j < i
          · simp [h1, h2, show j < i + 1 by omega]
          · simp [h1, h2, show ¬ j < i + 1 by omega])
      rw [e2] at hP
      exact hP.perm ((List.Perm.cons _ List.perm_append_comm).trans (List.Perm.swap _ _ _))
    · -- cond 0 no
      have hc0 := hb0; (try simp only [Bool.and_eq_true, Bool.or_eq_true, Bool.and_eq_false_iff, Bool.or_eq_false_iff, Bool.not_eq_true', Bool.not_eq_false', decide_eq_true_eq, decide_eq_false_iff_not, ne_eq, Decidable.not_not, not_true_eq_false, not_false_eq_true] at hc0)
      obtain rfl : i = xs.length := by omega
      refine cw_exit ?_
      refine ew_then_exit ?_
      refine ew_then_exit ?_
      refine ew_block_hit ?_
      refine ew_next ?_
      refine cw_seq ?_
      -- region 7 tape.go:41
      refine cw_region ?_
      refine ow_step (r_move rfl) rfl ?_
      refine ow_step (r_assign rfl) rfl ?_
      refine ow_nil ?_
      refine ew_next ?_
      refine cw_ret ?_
      have e3 := rowsF_congr xs (fun j => if j < xs.length then .slice (some ⟨G j, 0, none⟩) (fileAt xs j).f9.length (fileAt xs j).f9.length else f0 j) (fun j => .slice (some ⟨G j, 0, none⟩) (fileAt xs j).f9.length (fileAt xs j).f9.length) (fun j hj => by simp [hj])
      rw [e3] at hP
      refine ew_ret1 rfl (.tmp rfl .nil) ⟨g, G, rfl, hP⟩
end Go.Proofs.YtlhmbncalonomaaDoor.Twn
namespace Go.Proofs.YtlhmbncalonomaaDoor.Opn
open Go.ChangeShapes Go.WideShapes Go.ChangeAt Go.RowKit Go.Proofs.YtlhmbncalonomaaDoorW.PrintWords
set_option linter.unusedVariables false
def Opens (P : Program) (T : TypeId) {α : Type} (kd : Kd α) (bk : α → Nat) (ok : α → Prop) : Prop :=
  ∀ {H : Type} {enc : TypeId × Value → H} {w : World} {fuel : Nat} {cs : List Value} {d : DataW H} {ps : List MemPlace},
    DataW.trod enc P w 0 (fun _ => true) true fuel T cs = some (d, ps) → ∃ x, kd.K w x cs ∧ bk x ≤ Rows.uptoBulk d ∧ ok x
variable {P : Program} {T : TypeId}
def okInt (k : IntKind) (x : Int) : Prop := (Lit.int k x).wf = true
theorem opens_int {k : IntKind} (h : P.underlying T = some (.int k)) : Opens P T (Kd.int k) (fun _ => 1) (okInt k) := by
  intro H enc w fuel cs d ps ht
  obtain ⟨x, rfl, e, hw⟩ := DataW.trod_int h ht
  obtain ⟨rfl, _⟩ := Prod.mk.inj e
  exact ⟨x, rfl, by simp [Rows.uptoBulk], hw⟩
def bkAll {α : Type} (bk : α → Nat) : List α → Nat
  | [] => 0
  | x :: r => bk x + bkAll bk r
theorem bulkAll_range {H α : Type} (bk : α → Nat) (D : Nat → DataW H) (X : Nat → α) (n : Nat) (h : ∀ i, i < n → bk (X i) ≤ Rows.uptoBulk (D i)) :
    bkAll bk ((List.range n).map X) ≤ Rows.uptoBulkAll ((List.range n).map D) := by
  have g : ∀ l : List Nat, (∀ i ∈ l, i < n) → bkAll bk (l.map X) ≤ Rows.uptoBulkAll (l.map D) := by
    intro l
    induction l with
    | nil => intro _; simp [bkAll, Rows.uptoBulkAll]
    | cons i r ih =>
      intro hl
      have h1 := h i (hl i (by simp))
      have h2 := ih (fun j hj => hl j (by simp [hj]))
      simp only [List.map_cons, bkAll, Rows.uptoBulkAll]
      omega
  exact g _ (fun i hi => List.mem_range.1 hi)
theorem opens_slice {E : TypeId} {α : Type} {kd : Kd α} {bk : α → Nat} {ok : α → Prop} (dflt : α) (h : P.underlying T = some (.slice E)) (hc : P.cellsOf E = kd.sz) (he : Opens P E kd bk ok) :
    Opens P T (Kd.slice E kd) (fun xs => bkAll bk xs + 1) (fun xs => xs.length ≤ maxLen ∧ ∀ x ∈ xs, ok x) := by
  intro H enc w fuel cs d ps ht
  rcases Deep.open_slice h ht with ⟨rfl, hx⟩ | ⟨a, len, cap, m, n, D, Pl, rfl, _, hl, hm, hmm, hx, hcell⟩
  · refine ⟨[], ⟨none, 0, rfl, Nat.le_refl _, rfl, by simp, fun h0 => absurd h0 (by simp)⟩, ?_, by simp, by simp⟩
    obtain ⟨rfl, _⟩ := Prod.mk.inj hx
    simp [bkAll, Rows.uptoBulk]
  · have hlm : len ≤ m := by rw [hmm]; simp [hl]
    haveI : Inhabited α := ⟨dflt⟩
    obtain ⟨X, hX⟩ := Deep.choose_lt (α := α) (n := len) (p := fun i x => ∃ c, c.length = kd.sz ∧ kd.K w x c ∧ (∀ j u, c[j]? = some u → w.cell? (a.add (i * kd.sz + j)) = some u) ∧ bk x ≤ Rows.uptoBulk (D i) ∧ ok x) (by
      intro i hi
      obtain ⟨cs', h1, h2⟩ := hcell i (by omega)
      obtain ⟨x, hk, hb, ho⟩ := he h2
      rw [hc] at h1
      obtain ⟨_, hlen, hcs⟩ := World.cells?_some h1
      refine ⟨x, cs', hlen, hk, fun j u hj => ?_, hb, ho⟩
      have hj' : j < kd.sz := by
        have := (List.getElem?_eq_some_iff.1 hj).1
        omega
      rw [← Deep.add_add, hcs j hj', hj])
    obtain ⟨rfl, _⟩ := Prod.mk.inj hx
    have hmx : maxLen = 9223372036854775807 := rfl
    refine ⟨(List.range len).map X, ⟨some a, cap, by simp, by simpa using hl, by simp, by simp; omega, fun _ => ⟨a, rfl, ?_⟩⟩, ?_, by simp; omega, ?_⟩
    · intro j p hj
      rw [List.getElem?_map] at hj
      obtain ⟨i, hi, rfl⟩ := Option.map_eq_some_iff.1 hj
      obtain ⟨hlt, rfl⟩ := List.getElem?_eq_some_iff.1 hi
      have hlt' : j < len := by simpa using hlt
      simp only [List.getElem_range]
      obtain ⟨c, h1, h2, h3, _⟩ := hX j hlt'
      exact ⟨c, h1, h2, h3⟩
    · have := bulkAll_range bk D X len (fun i hi => by obtain ⟨_, _, _, _, h4, _⟩ := hX i hi; exact h4)
      simp only [Rows.uptoBulk]
      omega
    · intro x hx
      obtain ⟨i, hi, rfl⟩ := List.mem_map.1 hx
      obtain ⟨_, _, _, _, _, h5⟩ := hX i (List.mem_range.1 hi)
      exact h5
theorem Opens.imp {α : Type} {kd : Kd α} {bk bk' : α → Nat} {ok ok' : α → Prop} (h : Opens P T kd bk ok) (hb : ∀ x, bk' x ≤ bk x) (ho : ∀ x, ok x → ok' x) : Opens P T kd bk' ok' := by
  intro H enc w fuel cs d ps ht
  obtain ⟨x, hk, hb', ho'⟩ := h ht
  exact ⟨x, hk, Nat.le_trans (hb x) hb', ho x ho'⟩
theorem Opens.one {α : Type} {kd : Kd α} {bk : α → Nat} {ok : α → Prop} (ho : Opens P T kd bk ok) {H : Type} {enc : TypeId × Value → H} {w : World} {v : Value} {d : DataW H} {ps : List MemPlace} (hv : v.cells = #[v])
    (h : DataW.Trod enc P w 0 (fun _ => true) true T v d ps) : ∃ x, kd.K w x [v] ∧ bk x ≤ Rows.uptoBulk d ∧ ok x := by
  obtain ⟨fuel, hf⟩ := h
  rw [hv] at hf
  exact ho hf
theorem Opens.sl {E : TypeId} {α : Type} {kd : Kd α} {bk : List α → Nat} {ok : List α → Prop} (ho : Opens P T (Kd.slice E kd) bk ok) {H : Type} {enc : TypeId × Value → H} {w : World} {r : Reach} {b0 : Nat} {v : Value} {d : DataW H} {ps : List MemPlace}
    (hu : P.underlying T = some (.slice E)) (hv : Value.okWide P w r b0 T v) (h : DataW.Trod enc P w 0 (fun _ => true) true T v d ps) :
    ∃ A c xs, v = .slice A xs.length c ∧ xs.length ≤ c ∧ kd.C w A xs.length xs ∧ bk xs ≤ Rows.uptoBulk d ∧ ok xs := by
  obtain ⟨a, len, cap, rfl⟩ := okWide_slice hu hv
  obtain ⟨xs, ⟨A, c, e, hl, hC⟩, hb, hok⟩ := ho.one rfl h
  injection e with e _
  exact ⟨A, c, xs, e, hl, hC, hb, hok⟩
theorem Opens.num {k : IntKind} {bk : Int → Nat} {ok : Int → Prop} (ho : Opens P T (Kd.int k) bk ok) {H : Type} {enc : TypeId × Value → H} {w : World} {r : Reach} {b0 : Nat} {v : Value} {d : DataW H} {ps : List MemPlace}
    (hu : P.underlying T = some (.int k)) (hv : Value.okWide P w r b0 T v) (h : DataW.Trod enc P w 0 (fun _ => true) true T v d ps) :
    ∃ n, v = .int k n ∧ bk n ≤ Rows.uptoBulk d ∧ ok n := by
  obtain ⟨s, rfl, rfl, rfl, hs⟩ := open_int hu hv h
  obtain ⟨x, hx, hb, hok⟩ := ho.one rfl h
  cases (hx : [Value.int k s] = [Value.int k x])
  exact ⟨s, rfl, hb, hok⟩
theorem Opens.agg {fs : Array Field} {α : Type} {kd : Kd α} {bk : α → Nat} {ok : α → Prop} (ho : Opens P T kd bk ok) {H : Type} {enc : TypeId × Value → H} {w : World} {r : Reach} {b0 : Nat} {v : Value} {d : DataW H} {ps : List MemPlace}
    (hu : P.underlying T = some (.struct fs)) (hv : Value.okWide P w r b0 T v) (h : DataW.Trod enc P w 0 (fun _ => true) true T v d ps) :
    ∃ x cs, v = .agg cs ∧ kd.K w x cs.toList ∧ bk x ≤ Rows.uptoBulk d ∧ ok x := by
  obtain ⟨cs, rfl, hsz⟩ := okWide_struct hu hv
  obtain ⟨fuel, hf⟩ := h
  obtain ⟨x, hk, hb, hok⟩ := ho hf
  exact ⟨x, cs, rfl, hk, hb, hok⟩
theorem trodAll_below {H : Type} {enc : TypeId × Value → H} (hl : laidOutB P = true) {W W' : World} (hb : Below W.heap.size W W') : ∀ {ts : List TypeId} {vs : List Value} {ds : List (DataW H)} {ps : List MemPlace},
    (ts.all (fun t => P.readableRec t && decide (t < P.types.size)) = true) → DataW.TrodAll enc P W 0 (fun _ => true) true ts vs ds ps → DataW.TrodAll enc P W' 0 (fun b => decide (b < W.heap.size)) true ts vs ds ps
  | [], [], [], ps, _, h => h
  | t :: ts, v :: vs, d :: ds, ps, hr, h => by
    obtain ⟨p, q, h0, h1, rfl⟩ := h
    simp only [List.all_cons, Bool.and_eq_true, decide_eq_true_eq] at hr
    refine ⟨p, q, Below.trod hl hr.1.1 hr.1.2 h0 hb ?_, trodAll_below hl hb hr.2 h1, rfl⟩
    obtain ⟨m, hm⟩ := h0
    exact DataW.trod_lt m _ _ _ hm
  | [], _ :: _, _, _, _, h => h.elim
  | [], [], _ :: _, _, _, h => h.elim
  | _ :: _, [], _, _, _, h => h.elim
  | _ :: _, _ :: _, [], _, _, h => h.elim
theorem bk_length {α : Type} (xs : List α) : xs.length = bkAll (fun _ => 1) xs := by
  induction xs with
  | nil => rfl
  | cons x r ih => simp only [List.length_cons, bkAll, ih]; omega
end Go.Proofs.YtlhmbncalonomaaDoor.Opn
namespace Go.Proofs.YtlhmbncalonomaaDoor.Ld
open Go.RowKit Go.Proofs.YtlhmbncalonomaaDoor.Q Go.Proofs.YtlhmbncalonomaaDoor.Cpy Go.Proofs.YtlhmbncalonomaaDoor.Hand Go.Proofs.YtlhmbncalonomaaDoor.Arr Go.Proofs.YtlhmbncalonomaaDoor.Sx Go.Proofs.YtlhmbncalonomaaDoor.Head Go.Proofs.YtlhmbncalonomaaDoor.Fil Go.Proofs.YtlhmbncalonomaaDoor.Opn Go.Proofs.YtlhmbncalonomaaDoorW.PrintWords Go.Proofs.YtlhmbncalonomaaDoorW.PrintLast Go.Proofs.YtlhmbncalonomaaDoorW.PrintMore
set_option linter.unusedVariables false
set_option linter.unusedSimpArgs false
section
variable {H : Type} {enc : TypeId × Value → H} {P : Program} {w : World} {base : Nat} {sp : Nat → Bool} {held : Bool} {fuel : Nat} {t e : TypeId} {cs : List Value} {p : List MemPlace}
theorem two_ints {f0 f1 : Field} {a b : Int} (ht : P.underlying t = some (.struct #[f0, f1])) (h0 : f0.offset = 0 ∧ f1.offset = 1 ∧ f0.type = e ∧ f1.type = e) (he : P.underlying e = some (.int .i64)) (hce : P.cellsOf e = 1)
    (h : DataW.trod enc P w base sp held fuel t cs = some (.agg [.lit (.int .i64 a), .lit (.int .i64 b)], p)) : cs[0]? = some (.int .i64 a) ∧ cs[1]? = some (.int .i64 b) := by
  obtain ⟨xs, n, rfl, hx, hlen, hsz, hi⟩ := DataW.trod_struct ht h
  have hxs : xs.map (·.1) = [.lit (.int .i64 a), .lit (.int .i64 b)] := by
    have h := congrArg Prod.fst hx
    exact (DataW.agg.inj h).symm
  have g0 := hi 0 f0 rfl
  have g1 := hi 1 f1 rfl
  rw [h0.1, h0.2.2.1, hce] at g0
  rw [h0.2.1, h0.2.2.2, hce] at g1
  have hl : xs.length = 2 := by simpa using congrArg List.length hxs
  obtain ⟨y0, y1, rfl⟩ : ∃ y0 y1, xs = [y0, y1] := by
    match xs, hl with
    | [y0, y1], _ => exact ⟨y0, y1, rfl⟩
  have e0 := congrArg (·[0]?) hxs
  have e1 := congrArg (·[1]?) hxs
  simp only [List.map_cons, List.getElem?_cons_zero, List.getElem?_cons_succ, Option.some.injEq] at e0 e1
  obtain ⟨z0, hc0, hz0, _⟩ := DataW.trod_int he (show DataW.trod enc P w base sp held n e ((cs.drop 0).take 1) = some y0 from g0)
  obtain ⟨z1, hc1, hz1, _⟩ := DataW.trod_int he (show DataW.trod enc P w base sp held n e ((cs.drop 1).take 1) = some y1 from g1)
  rw [hz0] at e0
  rw [hz1] at e1
  simp only [DataW.lit.injEq, Lit.int.injEq, true_and] at e0 e1
  subst e0; subst e1
  have k0 := congrArg (·[0]?) hc0
  have k1 := congrArg (·[0]?) hc1
  simp only [List.getElem?_take, List.getElem?_drop] at k0 k1
  exact ⟨by simpa using k0, by simpa using k1⟩
theorem tab_at {n : Nat} {ds : List (DataW H)} (ht : P.underlying t = some (.array n e)) (hce : P.cellsOf e = 2) (h : DataW.trod enc P w base sp held fuel t cs = some (.agg ds, p)) (i : Nat) (hi : i < n) (d : DataW H) (hd : ds[i]? = some d) :
    ∃ m q, DataW.trod enc P w base sp held m e ((cs.drop (i * 2)).take 2) = some (d, q) := by
  cases fuel with
  | zero => simp [DataW.trod] at h
  | succ fuel =>
    simp only [DataW.trod, ht, hce] at h
    split at h
    · obtain ⟨xs, hm, hx⟩ := Option.map_eq_some_iff.1 h
      have hxs : xs.map (·.1) = ds := by
        have := congrArg Prod.fst hx
        simpa using this
      obtain ⟨b, hb, hf⟩ := Lib.mapM_at hm i i (by simp [hi])
      rw [← hxs, List.getElem?_map, hb] at hd
      have hd' : b.1 = d := by simpa using hd
      exact ⟨fuel, b.2, by rw [hf, ← hd']⟩
    · cases h
end
theorem laidVar {P : Program} {w : World} : ∀ {laid : List (String × DataW Unit)} {ps : List MemPlace}, DataW.LaidVars P w laid ps → ∀ x ∈ laid, ∃ g t cs fuel p, P.globalNamed x.1 = some g ∧ (P.globals[g]?).map (·.type) = some t ∧ w.var? P x.1 = some cs ∧ DataW.trod (fun _ => ()) P w 0 (fun _ => true) false fuel t cs.toList = some (x.2, p)
  | [], _, _, x, hx => by cases hx
  | (n, d) :: r, ps, h, x, hx => by
    obtain ⟨g, t, cs, fuel, p, q, h1, h2, h3, h4, h5, _⟩ := h
    rcases List.mem_cons.1 hx with rfl | hx
    · exact ⟨g, t, cs, fuel, p, h1, h2, h3, h4⟩
    · exact laidVar h5 x hx
theorem cells60 : Tryd.prog.cellsOf 60 = 2 := by kernel_rfl
theorem cells3 : Tryd.prog.cellsOf 3 = 1 := by kernel_rfl
theorem span_at {W : World} {name : String} {a b : Int} {g : Nat} {laid : List (String × DataW Unit)} {ps : List MemPlace} (h : DataW.LaidVars Tryd.prog W laid ps) (hm : (name, DataW.agg [.lit (.int .i64 a), .lit (.int .i64 b)]) ∈ laid) (hg : Tryd.prog.globalNamed name = some g) (ht : (Tryd.prog.globals[g]?).map (·.type) = some 60) :
    W.cell? ⟨g, 0, none⟩ = some (.int .i64 a) ∧ W.cell? ⟨g, 1, none⟩ = some (.int .i64 b) := by
  obtain ⟨g', t, cs, fuel, p, h1, h2, h3, h4⟩ := laidVar h _ hm
  obtain rfl := Option.some.inj (hg.symm.trans h1)
  obtain rfl := Option.some.inj (ht.symm.trans h2)
  obtain ⟨k0, k1⟩ := two_ints Tryd.underlying60 ⟨rfl, rfl, rfl, rfl⟩ Tryd.underlying3 cells3 h4
  rw [World.var?_cell hg h3, World.var?_cell hg h3]
  exact ⟨by simpa using k0, by simpa using k1⟩
theorem spans_at {W : World} {name : String} {ds : List (DataW Unit)} {g : Nat} {laid : List (String × DataW Unit)} {ps : List MemPlace} (h : DataW.LaidVars Tryd.prog W laid ps) (hm : (name, DataW.agg ds) ∈ laid) (hg : Tryd.prog.globalNamed name = some g) (ht : (Tryd.prog.globals[g]?).map (·.type) = some 61)
    (i : Nat) (a b : Int) (hi : i < 8) (hd : ds[i]? = some (.agg [.lit (.int .i64 a), .lit (.int .i64 b)])) : W.cell? ⟨g, i * 2, none⟩ = some (.int .i64 a) ∧ W.cell? ⟨g, i * 2 + 1, none⟩ = some (.int .i64 b) := by
  obtain ⟨g', t, cs, fuel, p, h1, h2, h3, h4⟩ := laidVar h _ hm
  obtain rfl := Option.some.inj (hg.symm.trans h1)
  obtain rfl := Option.some.inj (ht.symm.trans h2)
  obtain ⟨m, q, h5⟩ := tab_at Tryd.underlying61 cells60 h4 i hi _ hd
  obtain ⟨k0, k1⟩ := two_ints Tryd.underlying60 ⟨rfl, rfl, rfl, rfl⟩ Tryd.underlying3 cells3 h5
  rw [World.var?_cell hg h3, World.var?_cell hg h3]
  simp only [List.getElem?_take, List.getElem?_drop] at k0 k1
  exact ⟨by simpa using k0, by simpa using k1⟩
def tabs : List (String × DataW Unit) := [("valise/tape.numbers", Rows.laid_valise_tape_numbers), ("valise/tape.name", Rows.laid_valise_tape_name), ("valise/tape.link", Rows.laid_valise_tape_link), ("valise/tape.user", Rows.laid_valise_tape_user), ("valise/tape.team", Rows.laid_valise_tape_team), ("valise/tape.prefix", Rows.laid_valise_tape_prefix), ("valise/tape.marks", Rows.laid_valise_tape_marks)]
theorem laid_of {W : World} (h : laidMet Tryd.prog tabs W) : Laid W := by
  obtain ⟨ps, hv, _⟩ := h
  have N : ∀ (i : Nat) (a b : Int), i < 8 → _ → _ := fun i a b hi hd => spans_at (name := "valise/tape.numbers") (g := 0) hv (List.mem_cons_self) (by kernel_rfl) (by kernel_rfl) i a b hi hd
  have A := span_at (name := "valise/tape.name") (g := 1) (a := 0) (b := 100) hv (by simp [tabs, Rows.laid_valise_tape_name]) (by kernel_rfl) (by kernel_rfl)
  have B := span_at (name := "valise/tape.prefix") (g := 2) (a := 345) (b := 155) hv (by simp [tabs, Rows.laid_valise_tape_prefix]) (by kernel_rfl) (by kernel_rfl)
  have C := span_at (name := "valise/tape.link") (g := 3) (a := 157) (b := 100) hv (by simp [tabs, Rows.laid_valise_tape_link]) (by kernel_rfl) (by kernel_rfl)
  have D := span_at (name := "valise/tape.user") (g := 4) (a := 265) (b := 32) hv (by simp [tabs, Rows.laid_valise_tape_user]) (by kernel_rfl) (by kernel_rfl)
  have E := span_at (name := "valise/tape.team") (g := 5) (a := 297) (b := 32) hv (by simp [tabs, Rows.laid_valise_tape_team]) (by kernel_rfl) (by kernel_rfl)
  have F := span_at (name := "valise/tape.marks") (g := 6) (a := 257) (b := 8) hv (by simp [tabs, Rows.laid_valise_tape_marks]) (by kernel_rfl) (by kernel_rfl)
  have N0 := N 0 100 8 (by decide) rfl
  have N1 := N 1 108 8 (by decide) rfl
  have N2 := N 2 116 8 (by decide) rfl
  have N3 := N 3 124 12 (by decide) rfl
  have N4 := N 4 136 12 (by decide) rfl
  have N5 := N 5 148 8 (by decide) rfl
  have N6 := N 6 329 8 (by decide) rfl
  have N7 := N 7 337 8 (by decide) rfl
  exact ⟨N0.1, N0.2, N1.1, N1.2, N2.1, N2.2, N3.1, N3.2, N4.1, N4.2, N5.1, N5.2, N6.1, N6.2, N7.1, N7.2, A.1, A.2, B.1, B.2, C.1, C.2, D.1, D.2, E.1, E.2, F.1, F.2⟩
end Go.Proofs.YtlhmbncalonomaaDoor.Ld
