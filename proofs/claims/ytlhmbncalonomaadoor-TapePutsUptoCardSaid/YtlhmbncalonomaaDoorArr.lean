/- Own walks over a header's 512 bytes: part, total, digits. -/
import Derived.Test.YtlhmbncalonomaaDoorHand
import Derived.Lib.BufferWrite
namespace Go.Proofs.YtlhmbncalonomaaDoor.Arr
open Go.RowKit Go.Proofs.YtlhmbncalonomaaDoor.Q Go.Proofs.YtlhmbncalonomaaDoor.Cpy Go.Proofs.YtlhmbncalonomaaDoorW.PrintWords Go.Proofs.YtlhmbncalonomaaDoorW.PrintLast Go.Proofs.YtlhmbncalonomaaDoorW.PrintMore
attribute [local go_sem] max2_int min2_int max_two min_two max_three min_three max_four min_four
set_option linter.unusedVariables false
set_option linter.unusedSimpArgs false

/-- Block g holds these bytes, as an array of type t. -/
def Bytes (w : World) (g : Nat) (L : List Int) : Prop := w.heap[g]? = some (.cells (L.map (fun x => Value.int .u8 x)).toArray 50 (0, 0))

set_option maxHeartbeats 1000000 in
set_option maxRecDepth 100000 in
theorem part_calls (g : Nat) (at_ n : Nat) (w : World) (h5 : at_ < 512) (hn : at_ + n ≤ 512) :
    Calls Tryd.prog 31 #[.pointer (some ⟨g, 0, none⟩), .agg #[.int .i64 (at_ : Int), .int .i64 (n : Int)]] w fun e w' => e = .returned (.slice (some ⟨g, at_, none⟩) n (512 - at_)) ∧ w.grownBy w' none := by
  go_enter Tryd.func31, Tryd.ntmps31
  go_wp2_with fail
  have g0 : ((w.alloc (Obj.cells #[Value.int IntKind.i64 (at_ : Int), Value.int IntKind.i64 (n : Int)] 60)).drew).cell? ⟨w.heap.size, 0, none⟩ = some (.int .i64 (at_ : Int)) := by go_simp
  have g1 : ((w.alloc (Obj.cells #[Value.int IntKind.i64 (at_ : Int), Value.int IntKind.i64 (n : Int)] 60)).drew).cell? ⟨w.heap.size, 1, none⟩ = some (.int .i64 (n : Int)) := by go_simp
  have b0 : (0 : Int) ≤ (at_ : Int) := by omega
  have b1 : (at_ : Int) + (n : Int) ≤ 512 := by omega
  have b2 : (at_ : Int) ≤ (at_ : Int) + (n : Int) := by omega
  have b3 : wrap64 ((at_ : Int) + (n : Int)) = (at_ : Int) + (n : Int) := by unfold wrap64; omega
  have b4 : ¬ (512 = at_) := by omega
  go_region
  rw [show at_ + n - at_ = n by omega]
  go_wp2
  go_ret
  exact ⟨rfl, (World.grownBy_alloc w _ none).trans ⟨rfl, rfl, rfl, Nat.le_refl _, fun _ _ _ => rfl⟩⟩

theorem setCell_grown (w : World) (b i : Nat) (v : Value) : w.grownBy (w.setCell ⟨b, i, none⟩ v) (some b) :=
  ⟨rfl, rfl, rfl, by simp [World.setCell], fun k _ hk => Below.heap_setCell _ _ _ _ (fun e => hk (by simp [e]))⟩
/-- An octal number's digits: of length m. -/
def digs : Nat → Int → List Int
  | 0, _ => []
  | m + 1, n => digs m (n / 8) ++ [48 + n % 8]
theorem digs_length (m : Nat) (n : Int) : (digs m n).length = m := by
  induction m generalizing n with
  | zero => rfl
  | succ m ih => simp [digs, ih]

theorem cell_of {w : World} {g : Nat} {L : List Int} (h : Bytes w g L) (i : Nat) (hi : i < L.length) : w.cell? ⟨g, i, none⟩ = some (.int .u8 L[i]) := by
  unfold Bytes at h
  simp [World.cell?, h, hi]
theorem live_of {w : World} {g : Nat} {L : List Int} (h : Bytes w g L) (i : Nat) (hi : i < L.length) : w.frozen? ⟨g, i, none⟩ = false := by
  unfold Bytes at h
  simp [World.frozen?, h]
theorem Bytes.set {w : World} {g : Nat} {L : List Int} (h : Bytes w g L) (i : Nat) (x : Int) : Bytes (w.setCell ⟨g, i, none⟩ (.int .u8 x)) g (L.set i x) := by
  unfold Bytes at *
  rw [heap_setCell_same w g i _ 50 _ h]
  simp [List.map_set]
theorem Bytes.alloc {w : World} {g : Nat} {L : List Int} (h : Bytes w g L) (o : Obj) : Bytes (w.alloc o) g L := by
  unfold Bytes at *
  have hlt : g < w.heap.size := by
    rcases Nat.lt_or_ge g w.heap.size with h2 | h2
    · exact h2
    · simp [Array.getElem?_eq_none h2] at h
  rw [(World.grownBy_alloc w o none).block g hlt (by simp)]
  exact h
theorem Bytes.grown {w w' : World} {g : Nat} {L : List Int} {row : Option Nat} (h : Bytes w g L) (hg : w.grownBy w' row) (hne : some g ≠ row) : Bytes w' g L := by
  unfold Bytes at *
  have hlt : g < w.heap.size := by
    rcases Nat.lt_or_ge g w.heap.size with h2 | h2
    · exact h2
    · simp [Array.getElem?_eq_none h2] at h
  rw [hg.block g hlt hne]
  exact h
theorem splice_step (L l : List Int) (off : Nat) (v : Int) (h : off + l.length < L.length) : splice (L.set (off + l.length) v) off l = splice L off (l ++ [v]) := by
  unfold splice
  apply List.ext_getElem?
  intro j
  have e : min off L.length = off := Nat.min_eq_left (by omega)
  have e2 : min off (L.set (off + l.length) v).length = off := by rw [List.length_set]; exact e
  simp only [e, e2, List.getElem?_append, List.length_append, List.length_take, List.length_set, List.getElem?_take, List.getElem?_drop, List.getElem?_set, List.length_singleton]
  by_cases h1 : j < off
  · rw [if_pos h1, if_pos h1, if_neg (by omega), if_pos h1, if_pos h1]
  · rw [if_neg h1, if_neg h1]
    by_cases h2 : j - off < l.length
    · rw [if_pos h2, if_pos (by omega), if_pos h2]
    · rw [if_neg h2]
      by_cases h3 : j - off < l.length + 1
      · rw [if_pos (by omega), if_pos (by omega), if_pos h3, if_neg h2, show j - off - l.length = 0 by omega]
        rfl
      · rw [if_neg (by omega), if_neg h3]
        congr 1
        omega

set_option maxHeartbeats 1000000 in
set_option maxRecDepth 100000 in
theorem digits_calls (g off m c : Nat) (x : Int) (L : List Int) (w : World) (hL : L.length = 512) (h0 : off + m ≤ 512) (hx : 0 ≤ x) (hx1 : x ≤ 9223372036854775807) (hB : Bytes w g L) :
    Calls Tryd.prog 41 #[.slice (some ⟨g, off, none⟩) m c, .int .i64 x] w fun e w' => e = .returned (.tuple #[]) ∧ Bytes w' g (splice L off (digs m x)) ∧ w.grownBy w' (some g) := by
  go_enter Tryd.func41, Tryd.ntmps41
  have HB := Aside0.mk hB
  have h2 : (m : Int) ≤ 512 := by omega
  have e0 : wrap64 ((m : Int) - 1) = (m : Int) - 1 := by unfold wrap64; omega
  clear hB
  go_wp2_with fail
  go_loopw [1, 4] (fun v1 v4 w' => ∃ (i : Nat) (y : Int) (L' : List Int), v4 = .int .i64 ((i : Int) - 1) ∧ v1 = .int .i64 y ∧ i ≤ m ∧ 0 ≤ y ∧ y ≤ 9223372036854775807 ∧ L'.length = 512 ∧ splice L' off (digs i y) = splice L off (digs m x) ∧ Aside0 (Bytes w' g L') ∧ Aside0 (w.grownBy w' (some g))) (fun _ v4 _ => (intOf v4 + 1).toNat)
  case atStart => exact ⟨m, x, L, rfl, rfl, Nat.le_refl _, hx, hx1, hL, rfl, HB, ⟨⟨rfl, rfl, rfl, Nat.le_refl _, fun _ _ _ => rfl⟩⟩⟩
  case round =>
    clear HB
    obtain ⟨i, y, L', rfl, rfl, hi, hy, hy1, hL', hs, HB, HG⟩ := hrel
    cases i with
    | zero =>
      have c0 : decide ((0 : Int) ≤ ((0 : Nat) : Int) - 1) = false := by decide
      go_wp2
      go_end0
      have e3 : splice L' off (digs 0 y) = L' := by simp [splice, digs]
      rw [← hs, e3]
      exact ⟨rfl, HB.out, HG.out⟩
    | succ i =>
      have hi2 : off + i < L'.length := by omega
      have g0 := cell_of HB.out (off + i) hi2
      have g1 := live_of HB.out (off + i) hi2
      have c0 : decide ((0 : Int) ≤ ((i + 1 : Nat) : Int) - 1) = true := decide_eq_true (by omega)
      have q0 : (0 : Int) ≤ (i : Int) := by omega
      have q1 : (i : Int) < (m : Int) := by omega
      go_wp2
      refine ⟨⟨i, y / 8, L'.set (off + i) (48 + y % 8), rfl, rfl, by omega, by omega, by omega, by simp [hL'], ?_, ⟨HB.out.set _ _⟩, ⟨HG.out.trans (setCell_grown _ g _ _)⟩⟩, by simp [RowKit.intOf]⟩
      rw [← hs]
      have := splice_step L' (digs i (y / 8)) off (48 + y % 8) (by rw [digs_length]; omega)
      rw [digs_length] at this
      exact this

theorem kept {w w' : World} {row : Option Nat} (h : w.grownBy w' row) {b off : Nat} {v : Value} (hc : w.cell? ⟨b, off, none⟩ = some v) (hb : ∀ g, row = some g → b ≠ g) : w'.cell? ⟨b, off, none⟩ = some v := by
  obtain ⟨_, _, _, _, h5⟩ := h
  have hlt : b < w.heap.size := by
    rcases Nat.lt_or_ge b w.heap.size with h | h
    · exact h
    · simp [World.cell?, Array.getElem?_eq_none h] at hc
  have e := h5 b hlt (fun e => hb b e.symm rfl)
  simp only [World.cell?, e] at hc ⊢
  exact hc
/-- The sum of a header's bytes, those of the sum's own field taken as blanks. -/
def tot (L : List Int) : Nat → Int
  | 0 => 0
  | i + 1 => tot L i + (if 148 ≤ i ∧ i < 156 then 32 else L.getD i 0)

set_option maxHeartbeats 1000000 in
set_option maxRecDepth 100000 in
theorem total_calls (g : Nat) (L : List Int) (w : World) (hL : L.length = 512) (hr : ∀ x ∈ L, 0 ≤ x ∧ x ≤ 255) (hB : Bytes w g L) (hn0 : w.cell? ⟨0, 10, none⟩ = some (.int .i64 148)) (hn1 : w.cell? ⟨0, 11, none⟩ = some (.int .i64 8)) :
    Calls Tryd.prog 32 #[.pointer (some ⟨g, 0, none⟩)] w fun e w' => e = .returned (.int .i64 (tot L 512)) ∧ w.grownBy w' none := by
  have HB := Aside0.mk hB
  have HR := Aside0.mk hr
  have H0 := Aside0.mk hn0
  have H1 := Aside0.mk hn1
  clear hB hr hn0 hn1
  go_enter Tryd.func32, Tryd.ntmps32
  go_wp2_with fail
  go_loopw [3, 8] (fun v3 v8 w' => ∃ (i : Nat), v8 = .int .i64 (i : Int) ∧ v3 = .int .i64 (tot L i) ∧ i ≤ 512 ∧ 0 ≤ tot L i ∧ tot L i ≤ 255 * (i : Int) ∧ Aside0 (Bytes w' g L) ∧ Aside0 (w.grownBy w' none)) (fun _ v8 _ => (512 - RowKit.intOf v8).toNat)
  case atStart => exact ⟨0, rfl, rfl, by omega, by simp [tot], by simp [tot], HB, ⟨⟨rfl, rfl, rfl, Nat.le_refl _, fun _ _ _ => rfl⟩⟩⟩
  case round =>
    obtain ⟨i, rfl, rfl, hi, ht0, ht1, HB2, HG⟩ := hrel
    have q0 : (0 : Int) ≤ (i : Int) := by omega
    by_cases hlt : i < 512
    · have c0 : decide ((i : Int) < 512) = true := decide_eq_true (by omega)
      have c1 : (i : Int) < 512 := by omega
      have g0 : (wr.drew).cell? ⟨g, i, none⟩ = some (.int .u8 (L[i]'(by omega))) := cell_of HB2.out i (by omega)
      have g1 : (wr.drew).cell? ⟨0, 10, none⟩ = some (.int .i64 148) := kept HG.out H0.out (fun _ h => by cases h)
      have g2 : (wr.drew).cell? ⟨0, 11, none⟩ = some (.int .i64 8) := kept HG.out H1.out (fun _ h => by cases h)
      go_wp2_with fail
      go_region
      go_wp2_with fail
      all_goals
        have hd : L.getD i 0 = L[i]'(by omega) := by rw [List.getD_eq_getElem?_getD, List.getElem?_eq_getElem (by omega)]; rfl
        have hx := HR.out (L[i]'(by omega)) (List.getElem_mem _)
        have hB4 : Aside0 (Bytes (wr.alloc (Obj.cells #[Value.int IntKind.i64 148, Value.int IntKind.i64 8] 60)).drew g L) := ⟨HB2.out.alloc _⟩
        have hG4 : Aside0 (w.grownBy (wr.alloc (Obj.cells #[Value.int IntKind.i64 148, Value.int IntKind.i64 8] 60)).drew none) := ⟨HG.out.trans ((World.grownBy_alloc wr _ none).trans ⟨rfl, rfl, rfl, Nat.le_refl _, fun _ _ _ => rfl⟩)⟩
        have hm : (512 - RowKit.intOf (Value.int IntKind.i64 ((i : Int) + 1))).toNat < (512 - RowKit.intOf (Value.int IntKind.i64 (i : Int))).toNat := by simp only [RowKit.intOf]; omega
        have e1 : wrap64 (L[i]'(by omega)) = L[i]'(by omega) := by unfold wrap64; omega
        have e2 : wrap64 (tot L i + (L[i]'(by omega))) = tot L i + (L[i]'(by omega)) := by unfold wrap64; omega
      · have et : tot L (i + 1) = tot L i + 32 := by simp only [tot]; rw [if_pos (by omega)]
        exact ⟨⟨i + 1, rfl, by rw [et], by omega, by omega, by omega, hB4, hG4⟩, hm⟩
      · have et : tot L (i + 1) = tot L i + (L[i]'(by omega)) := by simp only [tot]; rw [if_neg (by omega), hd]
        exact ⟨⟨i + 1, rfl, by rw [et, e1, e2], by omega, by omega, by omega, hB4, hG4⟩, hm⟩
      · have et : tot L (i + 1) = tot L i + (L[i]'(by omega)) := by simp only [tot]; rw [if_neg (by omega), hd]
        exact ⟨⟨i + 1, rfl, by rw [et, e1, e2], by omega, by omega, by omega, hB4, hG4⟩, hm⟩
    · obtain rfl : i = 512 := by omega
      have c0 : decide (((512 : Nat) : Int) < 512) = false := by decide
      go_wp2
      go_ret
      exact ⟨rfl, HG.out⟩
end Go.Proofs.YtlhmbncalonomaaDoor.Arr
