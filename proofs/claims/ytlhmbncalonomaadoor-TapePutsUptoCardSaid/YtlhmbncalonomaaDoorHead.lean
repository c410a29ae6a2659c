/- Own walk: head, a file's header. -/
import Derived.Test.YtlhmbncalonomaaDoorArr
import Derived.Test.YtlhmbncalonomaaDoorQ1
import Derived.Test.YtlhmbncalonomaaDoorSx
namespace Go.Proofs.YtlhmbncalonomaaDoor.Head
open Go.RowKit Go.Proofs.YtlhmbncalonomaaDoor.Q Go.Proofs.YtlhmbncalonomaaDoor.Cpy Go.Proofs.YtlhmbncalonomaaDoor.Hand Go.Proofs.YtlhmbncalonomaaDoor.Arr Go.Proofs.YtlhmbncalonomaaDoor.Sx Go.Proofs.YtlhmbncalonomaaDoorW.PrintWords Go.Proofs.YtlhmbncalonomaaDoorW.PrintLast Go.Proofs.YtlhmbncalonomaaDoorW.PrintMore
attribute [local go_sem] max2_int min2_int max_two min_two max_three min_three max_four min_four
set_option linter.unusedVariables false
set_option linter.unusedSimpArgs false

/-- The package's tables as they were laid. -/
structure Laid (w : World) : Prop where
  n0 : w.cell? ⟨0, 0, none⟩ = some (.int .i64 100)
  n1 : w.cell? ⟨0, 1, none⟩ = some (.int .i64 8)
  n2 : w.cell? ⟨0, 2, none⟩ = some (.int .i64 108)
  n3 : w.cell? ⟨0, 3, none⟩ = some (.int .i64 8)
  n4 : w.cell? ⟨0, 4, none⟩ = some (.int .i64 116)
  n5 : w.cell? ⟨0, 5, none⟩ = some (.int .i64 8)
  n6 : w.cell? ⟨0, 6, none⟩ = some (.int .i64 124)
  n7 : w.cell? ⟨0, 7, none⟩ = some (.int .i64 12)
  n8 : w.cell? ⟨0, 8, none⟩ = some (.int .i64 136)
  n9 : w.cell? ⟨0, 9, none⟩ = some (.int .i64 12)
  n10 : w.cell? ⟨0, 10, none⟩ = some (.int .i64 148)
  n11 : w.cell? ⟨0, 11, none⟩ = some (.int .i64 8)
  n12 : w.cell? ⟨0, 12, none⟩ = some (.int .i64 329)
  n13 : w.cell? ⟨0, 13, none⟩ = some (.int .i64 8)
  n14 : w.cell? ⟨0, 14, none⟩ = some (.int .i64 337)
  n15 : w.cell? ⟨0, 15, none⟩ = some (.int .i64 8)
  a0 : w.cell? ⟨1, 0, none⟩ = some (.int .i64 0)
  a1 : w.cell? ⟨1, 1, none⟩ = some (.int .i64 100)
  b0 : w.cell? ⟨2, 0, none⟩ = some (.int .i64 345)
  b1 : w.cell? ⟨2, 1, none⟩ = some (.int .i64 155)
  c0 : w.cell? ⟨3, 0, none⟩ = some (.int .i64 157)
  c1 : w.cell? ⟨3, 1, none⟩ = some (.int .i64 100)
  d0 : w.cell? ⟨4, 0, none⟩ = some (.int .i64 265)
  d1 : w.cell? ⟨4, 1, none⟩ = some (.int .i64 32)
  e0 : w.cell? ⟨5, 0, none⟩ = some (.int .i64 297)
  e1 : w.cell? ⟨5, 1, none⟩ = some (.int .i64 32)
  f0 : w.cell? ⟨6, 0, none⟩ = some (.int .i64 257)
  f1 : w.cell? ⟨6, 1, none⟩ = some (.int .i64 8)
theorem Laid.size {w : World} (h : Laid w) : 7 ≤ w.heap.size := by
  rcases Nat.lt_or_ge 6 w.heap.size with h2 | h2
  · exact h2
  · have := h.f0
    simp [World.cell?, Array.getElem?_eq_none h2] at this
theorem Laid.grown {w w' : World} {row : Option Nat} (h : Laid w) (hg : w.grownBy w' row) (hr : ∀ g, row = some g → 7 ≤ g) : Laid w' := by
  have k : ∀ {b off : Nat} {v : Value}, b < 7 → w.cell? ⟨b, off, none⟩ = some v → w'.cell? ⟨b, off, none⟩ = some v := fun hb hc => kept hg hc (fun g hg2 e => by have := hr g hg2; omega)
  exact ⟨k (by omega) h.n0, k (by omega) h.n1, k (by omega) h.n2, k (by omega) h.n3, k (by omega) h.n4, k (by omega) h.n5, k (by omega) h.n6, k (by omega) h.n7, k (by omega) h.n8, k (by omega) h.n9, k (by omega) h.n10, k (by omega) h.n11, k (by omega) h.n12, k (by omega) h.n13, k (by omega) h.n14, k (by omega) h.n15, k (by omega) h.a0, k (by omega) h.a1, k (by omega) h.b0, k (by omega) h.b1, k (by omega) h.c0, k (by omega) h.c1, k (by omega) h.d0, k (by omega) h.d1, k (by omega) h.e0, k (by omega) h.e1, k (by omega) h.f0, k (by omega) h.f1⟩
theorem Laid.below {w w' : World} (h : Laid w) (hg : Below w.heap.size w w') : Laid w' := by
  have hz := h.size
  have k : ∀ {b off : Nat} {v : Value}, b < 7 → w.cell? ⟨b, off, none⟩ = some v → w'.cell? ⟨b, off, none⟩ = some v := fun {b off v} hb hc => by
    simp only [World.cell?, hg.block b (by omega)] at hc ⊢
    exact hc
  exact ⟨k (by omega) h.n0, k (by omega) h.n1, k (by omega) h.n2, k (by omega) h.n3, k (by omega) h.n4, k (by omega) h.n5, k (by omega) h.n6, k (by omega) h.n7, k (by omega) h.n8, k (by omega) h.n9, k (by omega) h.n10, k (by omega) h.n11, k (by omega) h.n12, k (by omega) h.n13, k (by omega) h.n14, k (by omega) h.n15, k (by omega) h.a0, k (by omega) h.a1, k (by omega) h.b0, k (by omega) h.b1, k (by omega) h.c0, k (by omega) h.c1, k (by omega) h.d0, k (by omega) h.d1, k (by omega) h.e0, k (by omega) h.e1, k (by omega) h.f0, k (by omega) h.f1⟩

theorem part_int (g : Nat) (x y : Int) (w : World) (h0 : 0 ≤ x) (h1 : 0 ≤ y) (h5 : x < 512) (hn : x + y ≤ 512) :
    Calls Tryd.prog 31 #[.pointer (some ⟨g, 0, none⟩), .agg #[.int .i64 x, .int .i64 y]] w fun e w' => e = .returned (.slice (some ⟨g, x.toNat, none⟩) y.toNat (512 - x.toNat)) ∧ w.grownBy w' none := by
  obtain ⟨m, rfl⟩ := Int.eq_ofNat_of_zero_le h0
  obtain ⟨n, rfl⟩ := Int.eq_ofNat_of_zero_le h1
  exact part_calls g m n w (by omega) (by omega)
/-- 512 zero bytes. -/
def Z : List Int := List.replicate 512 0
theorem Z_len : Z.length = 512 := List.length_replicate
def magic : ByteArray := ⟨#[117, 115, 116, 97, 114, 0, 48, 48]⟩
/-- The header as the program lays it, ahead of its sum. -/
def hd1 (p r f1 f2 f3 : ByteArray) (f4 : Int) : List Int :=
  (splice (splice (splice (splice (splice (splice Z 0 (bn r)) 345 (bn p)) 157 (bn f1)) 265 (bn f2)) 297 (bn f3)) 257 (bn magic)).set 156 (48 + f4)
def ns8 (f5 f6 f7 n9 f8 : Int) : List (Nat × Nat × Int) := [(100, 7, f5), (108, 7, f6), (116, 7, f7), (124, 11, n9), (136, 11, f8), (148, 7, 0), (329, 7, 0), (337, 7, 0)]
def hdn (L : List Int) (f5 f6 f7 n9 f8 : Int) (i : Nat) : List Int := ((ns8 f5 f6 f7 n9 f8).take i).foldl (fun L t => splice L t.1 (digs t.2.1 t.2.2)) L
def hd2 (L : List Int) (f5 f6 f7 n9 f8 : Int) : List Int := hdn L f5 f6 f7 n9 f8 8
def hd3 (L : List Int) (n : Int) : List Int := ((splice L 148 (digs 6 n)).set 154 0).set 155 32

theorem size50 : (Tryd.prog.info? 50).map (·.size) = some 512 := by kernel_rfl
/-- All are bytes. -/
structure InR (L : List Int) : Prop where
  out : ∀ x ∈ L, 0 ≤ x ∧ x ≤ 255
theorem InR.spl {L l : List Int} {off : Nat} (h : InR L) (k : InR l) : InR (splice L off l) := ⟨fun x hx => by
  unfold splice at hx
  simp only [List.mem_append] at hx
  rcases hx with hx | hx | hx
  · exact h.out x (List.mem_of_mem_take hx)
  · exact k.out x hx
  · exact h.out x (List.mem_of_mem_drop hx)⟩
theorem InR.set {L : List Int} (h : InR L) (i : Nat) (v : Int) (hv : 0 ≤ v ∧ v ≤ 255) : InR (L.set i v) := ⟨fun x hx => by
  rcases List.mem_or_eq_of_mem_set hx with hx | rfl
  · exact h.out x hx
  · exact hv⟩
theorem inrZ : InR Z := ⟨fun x hx => by
  obtain rfl := List.eq_of_mem_replicate hx
  omega⟩
theorem inrB (s : ByteArray) : InR (bn s) := ⟨fun x hx => by
  obtain ⟨b, _, rfl⟩ := List.mem_map.1 hx
  have := b.toNat_lt
  omega⟩
theorem inrD (m : Nat) : ∀ n : Int, InR (digs m n) := by
  induction m with
  | zero => intro n; exact ⟨fun x hx => by cases hx⟩
  | succ m ih =>
    intro n
    refine ⟨fun x hx => ?_⟩
    rcases List.mem_append.1 hx with hx | hx
    · exact (ih _).out x hx
    · obtain rfl := List.mem_singleton.1 hx
      omega
theorem inr1 (p r f1 f2 f3 : ByteArray) (f4 : Int) (h0 : 0 ≤ f4) (h1 : f4 ≤ 9) : InR (hd1 p r f1 f2 f3 f4) :=
  InR.set (InR.spl (InR.spl (InR.spl (InR.spl (InR.spl (InR.spl inrZ (inrB _)) (inrB _)) (inrB _)) (inrB _)) (inrB _)) (inrB _)) 156 _ (by omega)
theorem inr2 (L : List Int) (f5 f6 f7 n9 f8 : Int) (h : InR L) : InR (hdn L f5 f6 f7 n9 f8 8) :=
  InR.spl (InR.spl (InR.spl (InR.spl (InR.spl (InR.spl (InR.spl (InR.spl h (inrD _ _)) (inrD _ _)) (inrD _ _)) (inrD _ _)) (inrD _ _)) (inrD _ _)) (inrD _ _)) (inrD _ _)
theorem tot_range (L : List Int) (h : ∀ x ∈ L, 0 ≤ x ∧ x ≤ 255) (hl : L.length = 512) : 0 ≤ tot L 512 ∧ tot L 512 ≤ 9223372036854775807 := by
  have g : ∀ i, i ≤ 512 → 0 ≤ tot L i ∧ tot L i ≤ 255 * (i : Int) := by
    intro i
    induction i with
    | zero => intro _; simp [tot]
    | succ i ih =>
      intro hi
      have h1 := ih (by omega)
      have hd : L.getD i 0 = L[i]'(by omega) := by rw [List.getD_eq_getElem?_getD, List.getElem?_eq_getElem (by omega)]; rfl
      have h2 := h (L[i]'(by omega)) (List.getElem_mem _)
      simp only [tot]
      split
      · omega
      · rw [hd]
        omega
  have := g 512 (by omega)
  omega
theorem lens (L : List Int) (off : Nat) (l : List Int) (h : L.length = 512) (h2 : off + l.length ≤ 512) : (splice L off l).length = 512 := by rw [length_splice _ _ _ (by omega)]; exact h
theorem zero50 : Tryd.zeroCells50 = (Z.map (fun x => Value.int .u8 x)).toArray := by
  kernel_rfl


abbrev u8s (L : List Int) : List Value := L.map (fun x => Value.int .u8 x)
abbrev i64s (L : List Int) : List Value := L.map (fun x => Value.int .i64 x)
theorem u8s_length (L : List Int) : (u8s L).length = L.length := List.length_map _
theorem u8s_one {L : List Int} : ∀ v ∈ u8s L, v.oneCell' = true := fun v hv => by obtain ⟨x, _, rfl⟩ := List.mem_map.1 hv; rfl
theorem u8s_set (L : List Int) (i : Nat) (x : Int) : (u8s L).set i (.int .u8 x) = u8s (L.set i x) := by simp [u8s, List.map_set]
theorem cpu (L : List Int) (o : Nat) (s : ByteArray) : (u8s L).take o ++ Lib.byteCells s.data.toList ++ (u8s L).drop (o + s.size) = u8s (splice L o (bn s)) := by
  rw [bn_cells]
  simp [u8s, splice, List.map_take, List.map_drop, bn_length]
theorem size60 : (Tryd.prog.info? 60).map (·.size) = some 2 := by kernel_rfl
theorem size3 : (Tryd.prog.info? 3).map (·.size) = some 1 := by kernel_rfl
theorem zero50i : (Tryd.prog.info? 50).map (fun j => j.zero.map Value.cells) = some (some (u8s Z).toArray) := by kernel_rfl
theorem gl2 {W : World} {g o : Nat} {u v : Value} (h0 : W.cell? ⟨g, o, none⟩ = some u) (h1 : W.cell? ⟨g, o + 1, none⟩ = some v) : ∀ j x, [u, v][j]? = some x → W.cell? ((⟨g, o, none⟩ : Addr).add j) = some x := fun j x hj => by
  rw [Addr.add_mid]
  match j, hj with
  | 0, hj => cases hj; exact h0
  | 1, hj => cases hj; exact h1
theorem mild {P : Program} {fn : Func} {K : Act → World → Prop} {R : Ending → World → Prop} : Mild (Exit.then K (bodyPost P fn R)) := mild_then mild_body
/-- The table of the number fields. -/
def numA (i : Nat) : Int := [100, 108, 116, 124, 136, 148, 329, 337].getD i 0
def numB (i : Nat) : Int := [8, 8, 8, 12, 12, 8, 8, 8].getD i 0
theorem num_bd (i : Nat) (h : i < 8) : 0 ≤ numA i ∧ 8 ≤ numB i ∧ numA i < 512 ∧ numA i + numB i ≤ 512 := by
  match i, h with
  | 0, _ | 1, _ | 2, _ | 3, _ | 4, _ | 5, _ | 6, _ | 7, _ => decide
theorem Laid.num {W : World} (h : Laid W) (i : Nat) (hi : i < 8) : ∀ j u, [Value.int .i64 (numA i), Value.int .i64 (numB i)][j]? = some u → W.cell? ((⟨0, 0 + ((i : Nat) : Int).toNat * 2, none⟩ : Addr).add j) = some u := fun j u hj => by
  rw [Addr.add_mid, Nat.zero_add, Int.toNat_natCast]
  match i, hi, j, hj with
  | 0, _, 0, hj => cases hj; exact h.n0
  | 0, _, 1, hj => cases hj; exact h.n1
  | 1, _, 0, hj => cases hj; exact h.n2
  | 1, _, 1, hj => cases hj; exact h.n3
  | 2, _, 0, hj => cases hj; exact h.n4
  | 2, _, 1, hj => cases hj; exact h.n5
  | 3, _, 0, hj => cases hj; exact h.n6
  | 3, _, 1, hj => cases hj; exact h.n7
  | 4, _, 0, hj => cases hj; exact h.n8
  | 4, _, 1, hj => cases hj; exact h.n9
  | 5, _, 0, hj => cases hj; exact h.n10
  | 5, _, 1, hj => cases hj; exact h.n11
  | 6, _, 0, hj => cases hj; exact h.n12
  | 6, _, 1, hj => cases hj; exact h.n13
  | 7, _, 0, hj => cases hj; exact h.n14
  | 7, _, 1, hj => cases hj; exact h.n15
theorem hdn_length (L : List Int) (f5 f6 f7 n9 f8 : Int) (hL : L.length = 512) : ∀ i, (hdn L f5 f6 f7 n9 f8 i).length = 512 := by
  have key : ∀ l : List (Nat × Nat × Int), (∀ t ∈ l, t.1 + t.2.1 ≤ 512) → ∀ L : List Int, L.length = 512 → (l.foldl (fun L t => splice L t.1 (digs t.2.1 t.2.2)) L).length = 512 := by
    intro l
    induction l with
    | nil => intro _ L h; exact h
    | cons t r ih =>
      intro hl L h
      exact ih (fun t ht => hl t (List.mem_cons_of_mem _ ht)) _ (lens L t.1 _ h (by rw [digs_length]; exact hl t List.mem_cons_self))
  intro i
  refine key _ (fun t ht => ?_) L hL
  have := List.mem_of_mem_take ht
  simp only [ns8, List.mem_cons, List.not_mem_nil, or_false] at this
  rcases this with rfl | rfl | rfl | rfl | rfl | rfl | rfl | rfl <;> simp
theorem i64s_at (l : List Int) (i : Nat) (h : i < l.length) : (i64s l)[((i : Nat) : Int).toNat]? = some (.int .i64 (l.getD i 0)) := by
  rw [Int.toNat_natCast, List.getElem?_map, List.getElem?_eq_getElem h, List.getD_eq_getElem?_getD, List.getElem?_eq_getElem h]; rfl
theorem i64s_bd (f5 f6 f7 n9 f8 : Int) (h5 : 0 ≤ f5 ∧ f5 ≤ 2097151) (h6 : 0 ≤ f6 ∧ f6 ≤ 2097151) (h7 : 0 ≤ f7 ∧ f7 ≤ 2097151) (h8 : 0 ≤ f8 ∧ f8 ≤ 8589934591) (h9 : 0 ≤ n9 ∧ n9 ≤ 16777216) (i : Nat) (hi : i < 8) : 0 ≤ [f5, f6, f7, n9, f8, 0, 0, 0].getD i 0 ∧ [f5, f6, f7, n9, f8, 0, 0, 0].getD i 0 ≤ 9223372036854775807 := by
  match i, hi with
  | 0, _ | 1, _ | 2, _ | 3, _ | 4, _ | 5, _ | 6, _ | 7, _ => simp; try omega
theorem hdn_succ (L : List Int) (f5 f6 f7 n9 f8 : Int) (i : Nat) (hi : i < 8) : splice (hdn L f5 f6 f7 n9 f8 i) (numA i).toNat (digs ((((numB i).toNat : Nat) : Int) - 1).toNat ([f5, f6, f7, n9, f8, 0, 0, 0].getD i 0)) = hdn L f5 f6 f7 n9 f8 (i + 1) := by
  match i, hi with
  | 0, _ | 1, _ | 2, _ | 3, _ | 4, _ | 5, _ | 6, _ | 7, _ => rfl
theorem fl26_0 : fld Tryd.prog 26 0 = some (0, 9, 1) := by kernel_rfl
theorem fl26_1 : fld Tryd.prog 26 1 = some (1, 9, 1) := by kernel_rfl
theorem fl26_2 : fld Tryd.prog 26 2 = some (2, 9, 1) := by kernel_rfl
theorem fl26_3 : fld Tryd.prog 26 3 = some (3, 9, 1) := by kernel_rfl
theorem fl26_4 : fld Tryd.prog 26 4 = some (4, 3, 1) := by kernel_rfl
theorem fl26_5 : fld Tryd.prog 26 5 = some (5, 3, 1) := by kernel_rfl
theorem fl26_6 : fld Tryd.prog 26 6 = some (6, 3, 1) := by kernel_rfl
theorem fl26_7 : fld Tryd.prog 26 7 = some (7, 3, 1) := by kernel_rfl
theorem fl26_8 : fld Tryd.prog 26 8 = some (8, 3, 1) := by kernel_rfl
theorem fl26_9 : fld Tryd.prog 26 9 = some (9, 24, 1) := by kernel_rfl
theorem en31 : Enters Tryd.prog 31 := fun args w => by kernel_rfl
theorem en32 : Enters Tryd.prog 32 := fun args w => by kernel_rfl
theorem en39 : Enters Tryd.prog 39 := fun args w => by kernel_rfl
theorem en41 : Enters Tryd.prog 41 := fun args w => by kernel_rfl

set_option maxRecDepth 100000 in
theorem head_calls (k : Nat) (f0 f1 f2 f3 : ByteArray) (f4 f5 f6 f7 f8 : Int) (A9 : Option Addr) (c9 : Nat) (l9 : List Int) (p r : ByteArray) (ok : Bool) (w : World) (hl : Laid w)
    (hcut : tape_cut.f k f0 = some (p, r, ok)) (hp : p.size ≤ 155) (hr : r.size ≤ 100) (h1 : f1.size ≤ 100) (h2 : f2.size ≤ 32) (h3 : f3.size ≤ 32) (h4 : 0 ≤ f4 ∧ f4 ≤ 9) (h5 : 0 ≤ f5 ∧ f5 ≤ 2097151) (h6 : 0 ≤ f6 ∧ f6 ≤ 2097151) (h7 : 0 ≤ f7 ∧ f7 ≤ 2097151) (h8 : 0 ≤ f8 ∧ f8 ≤ 8589934591) (h9 : l9.length ≤ 16777216) :
    Calls Tryd.prog 22 #[.agg #[.string f0, .string f1, .string f2, .string f3, .int .i64 f4, .int .i64 f5, .int .i64 f6, .int .i64 f7, .int .i64 f8, .slice A9 l9.length c9]] w fun e w' =>
      e = .returned (.agg (u8s (hd3 (hd2 (hd1 p r f1 f2 f3 f4) f5 f6 f7 l9.length f8) (tot (hd2 (hd1 p r f1 f2 f3 f4) f5 f6 f7 l9.length f8) 512))).toArray) ∧ Below w.heap.size w w' := by
  have hP := HP.start w
  refine calls_cw Tryd.func22 rfl rfl (by simp) ?_
  refine cw_seq ?_
  -- region 0 tape.go:115
  refine cw_region ?_
  refine ow_box hP rfl rfl rfl ?_
  clear hP; intro b1 W hz hg hP
  refine ow_alloc hP (ws := u8s Z) zero50i rfl ?_
  clear hP; intro b2 W hz hg hP
  refine ow_nil ?_
  refine ew_next ?_
  refine cw_seq ?_
  -- region 1 tape.go:116
  refine cw_region ?_
  refine ow_alloc hP (ws := u8s Z) zero50i rfl ?_
  clear hP; intro b3 W hz hg hP
  have hL : Z.length = 512 := Z_len
  refine ow_nil ?_
  refine ew_next ?_
  refine cw_seq ?_
  -- region 2 tape.go:117
  refine cw_region ?_
  refine ow_step (r_fieldAddr rfl fl26_0) rfl ?_
  refine ow_step (r_load rfl rfl (hP.cell (i := 2) rfl rfl)) rfl ?_
  refine ow_call en39 rfl (tape_cut.calls k f0 p r ok _ hcut) rfl ?_
  rintro e W ⟨rfl, ⟨m1, rfl⟩⟩; replace hP := hP.drewN m1; refine ⟨_, rfl, ?_⟩
  refine ow_step (r_move rfl) rfl ?_
  refine ow_step (r_extract rfl rfl) rfl ?_
  refine ow_step (r_extract rfl rfl) rfl ?_
  refine ow_step (r_extract rfl rfl) rfl ?_
  refine ow_step (r_assign rfl) rfl ?_
  refine ow_step (r_assign rfl) rfl ?_
  refine ow_step (r_assign rfl) rfl ?_
  refine ow_nil ?_
  refine ew_next ?_
  refine cw_seq ?_
  -- region 3 tape.go:118
  refine cw_region ?_
  refine ow_step (r_loads rfl (c := [.int .i64 0, .int .i64 100]) Tryd.underlying60 rfl size60 (gl2 (hl.below hP.old).a0 (hl.below hP.old).a1)) rfl ?_
  refine ow_call en31 rfl (part_int b3 _ _ _ (by decide) (by decide) (by decide) (by decide)) rfl ?_
  rintro e W ⟨rfl, hg⟩; replace hP := hP.grown hg; refine ⟨_, rfl, ?_⟩
  refine ow_step (r_move rfl) rfl ?_
  refine ow_copyS (s := r) (o := 0) (m := 100) (c := 512) hP 0 rfl rfl rfl (by omega) (by rw [u8s_length, hL]; omega) Tryd.underlying24 size5 rfl ?_
  clear hP; intro W hg hP; dsimp only [List.set] at hP; rw [cpu] at hP
  replace hL := lens _ 0 (bn r) hL (by rw [bn_length]; omega)
  refine ow_nil ?_
  refine ew_next ?_
  refine cw_seq ?_
  -- region 4 tape.go:119
  refine cw_region ?_
  refine ow_step (r_loads rfl (c := [.int .i64 345, .int .i64 155]) Tryd.underlying60 rfl size60 (gl2 (hl.below hP.old).b0 (hl.below hP.old).b1)) rfl ?_
  refine ow_call en31 rfl (part_int b3 _ _ _ (by decide) (by decide) (by decide) (by decide)) rfl ?_
  rintro e W ⟨rfl, hg⟩; replace hP := hP.grown hg; refine ⟨_, rfl, ?_⟩
  refine ow_step (r_move rfl) rfl ?_
  refine ow_copyS (s := p) (o := 345) (m := 155) (c := 167) hP 0 rfl rfl rfl (by omega) (by rw [u8s_length, hL]; omega) Tryd.underlying24 size5 rfl ?_
  clear hP; intro W hg hP; dsimp only [List.set] at hP; rw [cpu] at hP
  replace hL := lens _ 345 (bn p) hL (by rw [bn_length]; omega)
  refine ow_nil ?_
  refine ew_next ?_
  refine cw_seq ?_
  -- region 5 DRAWS tape.go:120
  refine cw_held (fun w' => ∃ Lx, HP w w' [(b3, Lx, 50), (b2, u8s Z, 50), (b1, [.string f0, .string f1, .string f2, .string f3, .int .i64 f4, .int .i64 f5, .int .i64 f6, .int .i64 f7, .int .i64 f8, .slice A9 l9.length c9], 26)]) (by kernel_rfl) ?_
  replace hP := hP.drew
  refine hw_take 0 rfl rfl rfl (by kernel_rfl) (by kernel_rfl) (by kernel_rfl) mild ⟨_, hP⟩ (fun w' ⟨_, hw⟩ => r_loads rfl (c := [.int .i64 157, .int .i64 100]) Tryd.underlying60 rfl size60 (gl2 (hl.below hw.old).c0 (hl.below hw.old).c1)) rfl ?_
  refine hw_take 2 rfl rfl rfl (by kernel_rfl) (by kernel_rfl) (by kernel_rfl) mild ⟨_, hP⟩ (fun w' ⟨_, hw⟩ => r_fieldAddr rfl fl26_1) rfl ?_
  refine hw_take 3 rfl rfl rfl (by kernel_rfl) (by kernel_rfl) (by kernel_rfl) mild ⟨_, hP⟩ (fun w' ⟨_, hw⟩ => r_load rfl rfl (hw.cell (i := 2) rfl rfl)) rfl ?_
  refine hw_one 1 (by kernel_rfl) (nw_of rfl ?_ lets_then)
  refine ow_call en31 rfl (part_int b3 _ _ _ (by decide) (by decide) (by decide) (by decide)) rfl ?_
  rintro e W ⟨rfl, hg⟩; replace hP := hP.grown hg; refine ⟨_, rfl, ?_⟩
  refine ow_nil (ew_held ⟨_, hP⟩ ?_)
  refine hw_one 4 (by kernel_rfl) (nw_of rfl ?_ lets_then)
  refine ow_copyS (s := f1) (o := 157) (m := 100) (c := 355) hP 0 rfl rfl rfl (by omega) (by rw [u8s_length, hL]; omega) Tryd.underlying24 size5 rfl ?_
  clear hP; intro W hg hP; dsimp only [List.set] at hP; rw [cpu] at hP
  replace hL := lens _ 157 (bn f1) hL (by rw [bn_length]; omega)
  refine ow_nil (ew_held ⟨_, hP⟩ ?_)
  refine hw_done (by kernel_rfl) ?_
  refine ew_next ?_
  refine cw_seq ?_
  -- region 6 DRAWS tape.go:121
  refine cw_held (fun w' => ∃ Lx, HP w w' [(b3, Lx, 50), (b2, u8s Z, 50), (b1, [.string f0, .string f1, .string f2, .string f3, .int .i64 f4, .int .i64 f5, .int .i64 f6, .int .i64 f7, .int .i64 f8, .slice A9 l9.length c9], 26)]) (by kernel_rfl) ?_
  replace hP := hP.drew
  refine hw_take 0 rfl rfl rfl (by kernel_rfl) (by kernel_rfl) (by kernel_rfl) mild ⟨_, hP⟩ (fun w' ⟨_, hw⟩ => r_loads rfl (c := [.int .i64 265, .int .i64 32]) Tryd.underlying60 rfl size60 (gl2 (hl.below hw.old).d0 (hl.below hw.old).d1)) rfl ?_
  refine hw_take 2 rfl rfl rfl (by kernel_rfl) (by kernel_rfl) (by kernel_rfl) mild ⟨_, hP⟩ (fun w' ⟨_, hw⟩ => r_fieldAddr rfl fl26_2) rfl ?_
  refine hw_take 3 rfl rfl rfl (by kernel_rfl) (by kernel_rfl) (by kernel_rfl) mild ⟨_, hP⟩ (fun w' ⟨_, hw⟩ => r_load rfl rfl (hw.cell (i := 2) rfl rfl)) rfl ?_
  refine hw_one 1 (by kernel_rfl) (nw_of rfl ?_ lets_then)
  refine ow_call en31 rfl (part_int b3 _ _ _ (by decide) (by decide) (by decide) (by decide)) rfl ?_
  rintro e W ⟨rfl, hg⟩; replace hP := hP.grown hg; refine ⟨_, rfl, ?_⟩
  refine ow_nil (ew_held ⟨_, hP⟩ ?_)
  refine hw_one 4 (by kernel_rfl) (nw_of rfl ?_ lets_then)
  refine ow_copyS (s := f2) (o := 265) (m := 32) (c := 247) hP 0 rfl rfl rfl (by omega) (by rw [u8s_length, hL]; omega) Tryd.underlying24 size5 rfl ?_
  clear hP; intro W hg hP; dsimp only [List.set] at hP; rw [cpu] at hP
  replace hL := lens _ 265 (bn f2) hL (by rw [bn_length]; omega)
  refine ow_nil (ew_held ⟨_, hP⟩ ?_)
  refine hw_done (by kernel_rfl) ?_
  refine ew_next ?_
  refine cw_seq ?_
  -- region 7 DRAWS tape.go:122
  refine cw_held (fun w' => ∃ Lx, HP w w' [(b3, Lx, 50), (b2, u8s Z, 50), (b1, [.string f0, .string f1, .string f2, .string f3, .int .i64 f4, .int .i64 f5, .int .i64 f6, .int .i64 f7, .int .i64 f8, .slice A9 l9.length c9], 26)]) (by kernel_rfl) ?_
  replace hP := hP.drew
  refine hw_take 0 rfl rfl rfl (by kernel_rfl) (by kernel_rfl) (by kernel_rfl) mild ⟨_, hP⟩ (fun w' ⟨_, hw⟩ => r_loads rfl (c := [.int .i64 297, .int .i64 32]) Tryd.underlying60 rfl size60 (gl2 (hl.below hw.old).e0 (hl.below hw.old).e1)) rfl ?_
  refine hw_take 2 rfl rfl rfl (by kernel_rfl) (by kernel_rfl) (by kernel_rfl) mild ⟨_, hP⟩ (fun w' ⟨_, hw⟩ => r_fieldAddr rfl fl26_3) rfl ?_
  refine hw_take 3 rfl rfl rfl (by kernel_rfl) (by kernel_rfl) (by kernel_rfl) mild ⟨_, hP⟩ (fun w' ⟨_, hw⟩ => r_load rfl rfl (hw.cell (i := 2) rfl rfl)) rfl ?_
  refine hw_one 1 (by kernel_rfl) (nw_of rfl ?_ lets_then)
  refine ow_call en31 rfl (part_int b3 _ _ _ (by decide) (by decide) (by decide) (by decide)) rfl ?_
  rintro e W ⟨rfl, hg⟩; replace hP := hP.grown hg; refine ⟨_, rfl, ?_⟩
  refine ow_nil (ew_held ⟨_, hP⟩ ?_)
  refine hw_one 4 (by kernel_rfl) (nw_of rfl ?_ lets_then)
  refine ow_copyS (s := f3) (o := 297) (m := 32) (c := 215) hP 0 rfl rfl rfl (by omega) (by rw [u8s_length, hL]; omega) Tryd.underlying24 size5 rfl ?_
  clear hP; intro W hg hP; dsimp only [List.set] at hP; rw [cpu] at hP
  replace hL := lens _ 297 (bn f3) hL (by rw [bn_length]; omega)
  refine ow_nil (ew_held ⟨_, hP⟩ ?_)
  refine hw_done (by kernel_rfl) ?_
  refine ew_next ?_
  refine cw_seq ?_
  -- region 8 tape.go:123
  refine cw_region ?_
  refine ow_step (r_loads rfl (c := [.int .i64 257, .int .i64 8]) Tryd.underlying60 rfl size60 (gl2 (hl.below hP.old).f0 (hl.below hP.old).f1)) rfl ?_
  refine ow_call en31 rfl (part_int b3 _ _ _ (by decide) (by decide) (by decide) (by decide)) rfl ?_
  rintro e W ⟨rfl, hg⟩; replace hP := hP.grown hg; refine ⟨_, rfl, ?_⟩
  have hm : magic.size = 8 := rfl
  refine ow_copyS (s := magic) (o := 257) (m := 8) (c := 255) hP 0 rfl rfl rfl (by omega) (by rw [u8s_length, hL]; omega) Tryd.underlying24 size5 rfl ?_
  clear hP; intro W hg hP; dsimp only [List.set] at hP; rw [cpu] at hP
  replace hL := lens _ 257 (bn magic) hL (by rw [bn_length]; omega)
  refine ow_nil ?_
  refine ew_next ?_
  refine cw_seq ?_
  -- region 9 tape.go:124
  refine cw_region ?_
  refine ow_step (r_fieldAddr rfl fl26_4) rfl ?_
  refine ow_step (r_load rfl rfl (hP.cell (i := 2) rfl rfl)) rfl ?_
  refine ow_step (i_add rfl rfl (by omega)) rfl ?_
  refine ow_step (r_conv_in rfl rfl Tryd.underlying5 (IntWalk.u8_in _ (by omega))) rfl ?_
  refine ow_step (r_indexArr rfl rfl Tryd.underlying50 size5 ⟨by decide, by decide⟩ (o' := 156) rfl) rfl ?_
  refine ow_store hP 0 rfl (by rw [u8s_length, hL]; omega) rfl rfl rfl rfl size5 ?_
  clear hP; intro W hg hP; dsimp only [List.set] at hP; rw [u8s_set] at hP
  replace hL := (List.length_set (i := 156) (a := 48 + f4)).trans hL
  refine ow_nil ?_
  refine ew_next ?_
  refine cw_seq ?_
  refine cw_seq ?_
  -- region 10 tape.go:125
  refine cw_region ?_
  refine ow_step (r_fieldAddr rfl fl26_5) rfl ?_
  refine ow_step (r_load rfl rfl (hP.cell (i := 2) rfl rfl)) rfl ?_
  refine ow_step (r_fieldAddr rfl fl26_6) rfl ?_
  refine ow_step (r_load rfl rfl (hP.cell (i := 2) rfl rfl)) rfl ?_
  refine ow_step (r_fieldAddr rfl fl26_7) rfl ?_
  refine ow_step (r_load rfl rfl (hP.cell (i := 2) rfl rfl)) rfl ?_
  refine ow_step (r_fieldAddr rfl fl26_9) rfl ?_
  refine ow_step (r_load rfl rfl (hP.cell (i := 2) rfl rfl)) rfl ?_
  refine ow_step (r_len rfl (by rfl) rfl) rfl ?_
  refine ow_step (r_fieldAddr rfl fl26_8) rfl ?_
  refine ow_step (r_load rfl rfl (hP.cell (i := 2) rfl rfl)) rfl ?_
  refine ow_step (r_build (v := .agg (i64s [f5, f6, f7, (l9.length : Int), f8, 0, 0, 0]).toArray) rfl (fun w => by kernel_rfl)) rfl ?_
  refine ow_step (r_move rfl) rfl ?_
  refine ow_nil ?_
  refine ew_next ?_
  refine cw_block ?_
  obtain ⟨L, hLe⟩ : ∃ L, L = hd1 p r f1 f2 f3 f4 := ⟨_, rfl⟩
  replace hP : HP w W [(b3, u8s L, 50), (b2, u8s Z, 50), (b1, [.string f0, .string f1, .string f2, .string f3, .int .i64 f4, .int .i64 f5, .int .i64 f6, .int .i64 f7, .int .i64 f8, .slice A9 l9.length c9], 26)] := by rw [hLe]; exact hP
  replace hL : L.length = 512 := by rw [hLe]; exact hL
  have hn9 : (0 : Int) ≤ (l9.length : Int) := by omega
  refine cw_loop (fun i => 8 - i) (fun i => [(62, .int .i64 ((i : Nat) : Int)), (61, .agg (i64s [f5, f6, f7, (l9.length : Int), f8, 0, 0, 0]).toArray), (2, .pointer (some ⟨b2, 0, none⟩)), (3, .pointer (some ⟨b3, 0, none⟩))]) (fun i w' => i ≤ 8 ∧ HP w w' [(b3, u8s (hdn L f5 f6 f7 l9.length f8 i), 50), (b2, u8s Z, 50), (b1, [.string f0, .string f1, .string f2, .string f3, .int .i64 f4, .int .i64 f5, .int .i64 f6, .int .i64 f7, .int .i64 f8, .slice A9 l9.length c9], 26)]) 0 ⟨rfl, rfl, rfl, rfl, trivial⟩ ⟨by omega, hP⟩ ?_
  clear hP; rintro i W ⟨hi, hP⟩
  have hLi := hdn_length L f5 f6 f7 l9.length f8 hL i
  · -- round 0
    refine cw_seq ?_
    -- region 11 tape.go:125
    refine cw_region ?_
    refine ow_step (r_lt rfl rfl) rfl ?_
    refine ow_nil ?_
    refine ew_next ?_
    refine cw_seq ?_
    refine cw_cond rfl (fun hb0 => ?_) (fun hb0 => ?_)
    · -- cond 0 yes
      have h0 := hb0; (try simp only [Bool.and_eq_true, Bool.or_eq_true, Bool.and_eq_false_iff, Bool.or_eq_false_iff, Bool.not_eq_true', Bool.not_eq_false', decide_eq_true_eq, decide_eq_false_iff_not, ne_eq, Decidable.not_not, not_true_eq_false, not_false_eq_true] at h0)
      have hi8 : i < 8 := by omega
      obtain ⟨n0, n1, n2, n3⟩ := num_bd i hi8
      refine cw_skip ?_
      refine ew_next ?_
      refine cw_seq ?_
      refine cw_block ?_
      refine cw_seq ?_
      -- region 12 tape.go:125
      refine cw_region ?_
      refine ow_step (r_move rfl) rfl ?_
      refine ow_step (r_indexVal rfl rfl Tryd.underlying73 rfl size3 ⟨by omega, by omega⟩ (i64s_at _ i hi8)) rfl ?_
      refine ow_step (r_assign rfl) rfl ?_
      refine ow_step (r_assign rfl) rfl ?_
      refine ow_nil ?_
      refine ew_next ?_
      refine cw_seq ?_
      -- region 13 tape.go:126
      refine cw_region ?_
      refine ow_step (r_move rfl) rfl ?_
      refine ow_step (r_indexArr rfl rfl Tryd.underlying61 size60 ⟨by omega, by omega⟩ rfl) rfl ?_
      refine ow_step (r_loads rfl (c := [.int .i64 (numA i), .int .i64 (numB i)]) Tryd.underlying60 rfl size60 ((hl.below hP.old).num i hi8)) rfl ?_
      refine ow_call en31 rfl (part_int b3 _ _ _ n0 (by omega) n2 (by omega)) rfl ?_
      rintro e W ⟨rfl, hg⟩; replace hP := hP.grown hg; refine ⟨_, rfl, ?_⟩
      refine ow_step (r_assign rfl) rfl ?_
      refine ow_nil ?_
      refine ew_next ?_
      -- region 14 tape.go:127
      refine cw_region ?_
      refine ow_step (r_move rfl) rfl ?_
      refine ow_step (r_move rfl) rfl ?_
      refine ow_step (r_len rfl (by rfl) rfl) rfl ?_
      refine ow_step (i_sub rfl rfl (by omega)) rfl ?_
      refine ow_step (r_sliceTo rfl rfl Tryd.underlying24 size5 ⟨by omega, by omega⟩) rfl ?_
      refine ow_step (r_move rfl) rfl ?_
      have hx := i64s_bd f5 f6 f7 l9.length f8 h5 h6 h7 h8 ⟨hn9, by omega⟩ i hi8
      refine ow_call en41 rfl (digits_calls b3 _ _ _ _ (hdn L f5 f6 f7 l9.length f8 i) W hLi (by omega) hx.1 hx.2 (hP.blk (i := 0) rfl)) rfl ?_
      rintro e W ⟨rfl, hb, hg⟩; replace hP := hP.mod (i := 0) rfl hg (cs' := u8s (splice (hdn L f5 f6 f7 l9.length f8 i) _ (digs _ _))) hb; refine ⟨_, rfl, ?_⟩; clear hb; dsimp only [List.set] at hP
      refine ow_nil ?_
      refine ew_block ?_
      refine ew_next ?_
      -- region 15 tape.go:125
      refine cw_region ?_
      refine ow_step (i_add rfl rfl (by omega)) rfl ?_
      refine ow_step (r_move rfl) rfl ?_
      refine ow_nil ?_
      refine ew_round (i + 1) ⟨rfl, rfl, rfl, rfl, trivial⟩ ⟨by omega, ?_⟩ (by omega)
      rw [hdn_succ L f5 f6 f7 l9.length f8 i hi8] at hP; exact hP
    · -- cond 0 no
      have h0 := hb0; (try simp only [Bool.and_eq_true, Bool.or_eq_true, Bool.and_eq_false_iff, Bool.or_eq_false_iff, Bool.not_eq_true', Bool.not_eq_false', decide_eq_true_eq, decide_eq_false_iff_not, ne_eq, Decidable.not_not, not_true_eq_false, not_false_eq_true] at h0)
      obtain rfl : i = 8 := by omega
      have hr8 := InR.out (inr2 _ f5 f6 f7 (l9.length : Int) f8 (inr1 p r f1 f2 f3 f4 h4.1 h4.2)); rw [← hLe] at hr8
      refine cw_exit ?_
      refine ew_then_exit ?_
      refine ew_then_exit ?_
      refine ew_block_hit ?_
      refine ew_next ?_
      refine cw_seq ?_
      -- region 16 tape.go:129
      refine cw_region ?_
      refine ow_step (r_indexArr rfl rfl Tryd.underlying61 size60 ⟨by decide, by decide⟩ (o' := 10) rfl) rfl ?_
      refine ow_step (r_loads rfl (c := [.int .i64 148, .int .i64 8]) Tryd.underlying60 rfl size60 (gl2 (hl.below hP.old).n10 (hl.below hP.old).n11)) rfl ?_
      refine ow_call en31 rfl (part_int b3 _ _ _ (by decide) (by decide) (by decide) (by decide)) rfl ?_
      rintro e W ⟨rfl, hg⟩; replace hP := hP.grown hg; refine ⟨_, rfl, ?_⟩
      refine ow_step (r_assign rfl) rfl ?_
      refine ow_nil ?_
      refine ew_next ?_
      refine cw_seq ?_
      -- region 17 tape.go:130
      refine cw_region ?_
      refine ow_call en32 rfl (total_calls b3 _ _ hLi hr8 (hP.blk (i := 0) rfl) (hl.below hP.old).n10 (hl.below hP.old).n11) rfl ?_
      rintro e W ⟨rfl, hg⟩; replace hP := hP.grown hg; refine ⟨_, rfl, ?_⟩
      have ht := tot_range _ hr8 hLi
      refine ow_step (r_assign rfl) rfl ?_
      refine ow_nil ?_
      refine ew_next ?_
      refine cw_seq ?_
      -- region 18 tape.go:131
      refine cw_region ?_
      refine ow_step (r_move rfl) rfl ?_
      refine ow_step (r_sliceTo (i := 6) rfl rfl Tryd.underlying24 size5 ⟨by decide, by decide⟩) rfl ?_
      refine ow_step (r_move rfl) rfl ?_
      refine ow_call en41 rfl (digits_calls b3 _ _ _ _ (hdn L f5 f6 f7 l9.length f8 8) W hLi (by decide) ht.1 ht.2 (hP.blk (i := 0) rfl)) rfl ?_
      rintro e W ⟨rfl, hb, hg⟩; replace hP := hP.mod (i := 0) rfl hg (cs' := u8s (splice (hdn L f5 f6 f7 l9.length f8 8) 148 (digs 6 (tot (hdn L f5 f6 f7 l9.length f8 8) 512)))) hb; refine ⟨_, rfl, ?_⟩; clear hb; dsimp only [List.set] at hP
      replace hL := lens _ 148 (digs 6 (tot (hdn L f5 f6 f7 l9.length f8 8) 512)) hLi (by rw [digs_length]; decide)
      refine ow_nil ?_
      refine ew_next ?_
      refine cw_seq ?_
      -- region 19 tape.go:132
      refine cw_region ?_
      refine ow_step (r_move rfl) rfl ?_
      refine ow_step (r_move rfl) rfl ?_
      refine ow_step (r_indexSl' (g := b3) (o := 148) (m := 8) (c := 364) rfl rfl Tryd.underlying24 size5 ⟨by decide, by decide⟩ (o' := 154) rfl) rfl ?_
      refine ow_store hP 0 rfl (by rw [u8s_length, hL]; omega) rfl rfl rfl rfl size5 ?_
      clear hP; intro W hg hP; dsimp only [List.set] at hP; rw [u8s_set] at hP
      replace hL := (List.length_set (i := 154) (a := 0)).trans hL
      refine ow_step (r_indexSl' (g := b3) (o := 148) (m := 8) (c := 364) rfl rfl Tryd.underlying24 size5 ⟨by decide, by decide⟩ (o' := 155) rfl) rfl ?_
      refine ow_store hP 0 rfl (by rw [u8s_length, hL]; omega) rfl rfl rfl rfl size5 ?_
      clear hP; intro W hg hP; dsimp only [List.set] at hP; rw [u8s_set] at hP
      replace hL := (List.length_set (i := 155) (a := 32)).trans hL
      refine ow_nil ?_
      refine ew_next ?_
      refine cw_seq ?_
      -- region 20 tape.go:133
      refine cw_region ?_
      refine ow_step (r_loads rfl Tryd.underlying50 rfl (by rw [u8s_length, hL]; exact size50) (hP.cells (i := 0) (o := 0) rfl (fun j u hj => by rw [Nat.zero_add]; exact hj))) rfl ?_
      refine ow_stores hP 1 rfl rfl rfl u8s_one (by rw [u8s_length, u8s_length, hL, Z_len]) (by rw [u8s_length, hL]; exact size50) ?_
      clear hP; intro W hg hP; dsimp only [List.set] at hP
      refine ow_nil ?_
      refine ew_next ?_
      refine cw_ret ?_
      refine ew_ret1 rfl (.cell b2 50 _ (0, 0) _ rfl (hP.blk (i := 1) rfl) Tryd.underlying50 rfl (by rw [List.size_toArray, u8s_length, hL]; exact size50) .nil) ?_
      refine ⟨?_, hP.old⟩
      rw [hLe]; rfl
end Go.Proofs.YtlhmbncalonomaaDoor.Head
