/- Own walks: clone (a text as new memory), filled (a text, and zeros up to a length). -/
import Derived.Test.YtlhmbncalonomaaDoorQ0
import Derived.Test.YtlhmbncalonomaaDoorCpyS
import Derived.Test.YtlhmbncalonomaaDoorShelf
namespace Go.Proofs.YtlhmbncalonomaaDoor.Hand
open Go.RowKit Go.Proofs.YtlhmbncalonomaaDoor.Q Go.Proofs.YtlhmbncalonomaaDoor.Cpy Go.Proofs.YtlhmbncalonomaaDoorW.PrintWords Go.Proofs.YtlhmbncalonomaaDoorW.PrintLast Go.Proofs.YtlhmbncalonomaaDoorW.PrintMore
attribute [local go_sem] max2_int min2_int max_two min_two max_three min_three max_four min_four
set_option linter.unusedVariables false
set_option linter.unusedSimpArgs false

theorem size5 : (Tryd.prog.info? 5).map (·.size) = some 1 := by kernel_rfl
theorem splice_all (n : Nat) (l : List Int) (h : l.length = n) : splice (List.replicate n 0) 0 (l.take n) = l := by
  subst h
  simp [splice]

set_option maxHeartbeats 1000000 in
set_option maxRecDepth 100000 in
theorem clone_calls (A0 : Option Addr) (c0 : Nat) (l0 : List Int) (w : World) (hr0 : Kd.C (Kd.int .u8) w A0 l0.length l0) (hc0 : l0.length ≤ c0) (hn : l0.length ≤ 140737488355000) :
    Calls Tryd.prog 10 #[.slice A0 l0.length c0] w fun e w' => ∃ g c, e = .returned (.slice (some ⟨g, 0, none⟩) l0.length c) ∧ w.heap.size ≤ g ∧ Kd.R (Kd.int .u8) 5 w' w.heap.size (fun _ => True) (.slice (some ⟨g, 0, none⟩) l0.length c) l0 ∧ Below w.heap.size w w' := by
  have HB := Aside0.mk (Below.refl w.heap.size w)
  have HR0 := Aside0.mk hr0
  have Hn := Aside0.mk hn
  clear hr0
  have b2 : (0 : Int) ≤ (l0.length : Int) := by omega
  go_enter Tryd.func10, Tryd.ntmps10
  go_wp2_with (first | ((with_reducible refine gate_dst (N := 6) rfl ?_); refine Kd.R_make (Kd.int .u8) (w0 := w) w.heap.size 5 rfl (N := 6) rfl 24 _ _ rfl (l0.length : Int) rfl rfl Tryd.underlying24 (.int .u8 0) 1 info5 rfl (by decide) (by omega) 0 (ok := fun _ => True) (okp := fun _ => True) rfl (fun _ h => h) trivial b2 ?hl ?hB ?hs ?_; (case hl => (have := Hn.out; omega)); (case hB => exact HB.out); (case hs => exact below_size HB.out); intro v w2 hR hb hg hat; obtain ⟨g, c, rfl, hgB⟩ := made_form hR hat; rw [Int.toNat_natCast, List.length_replicate] at hR; have n0_ := Aside0.mk hR; have n1_ := Aside0.mk hb; have n2_ := Aside0.mk hgB; clear hR hb hg hat hgB) | ((with_reducible refine gate_dst (N := 9) rfl ?_); refine R_copy (w0 := w) rfl (.tmp 7) (.tmp 8) 24 24 rfl Tryd.underlying24 size5 n0_.out 0 l0.length c l0.length c0 A0 l0 rfl rfl ?kf ?kC n1_.out ?_; (case kf => simp; done); (case kC => exact Kd.C_below HR0.out n1_.out); intro w3 hR hg hb; rw [splice_all _ _ rfl] at hR; have n3_ := Aside0.mk hR; have n4_ := Aside0.mk hb; clear hR hg hb))
  go_ret
  exact ⟨_, _, rfl, n2_.out, n3_.out, n4_.out⟩

/-- A text, and zero bytes up to a length. -/
def fill (s : ByteArray) (n : Nat) : ByteArray := strOfNums (splice (List.replicate n 0) 0 (bn s))
set_option maxHeartbeats 1000000 in
set_option maxRecDepth 100000 in
theorem filled_calls (s : ByteArray) (n : Nat) (w : World) (hn : n ≤ 1048576) (hs : s.size ≤ n) :
    Calls Tryd.prog 28 #[.string s, .int .i64 (n : Int)] w fun e w' => e = .returned (.string (fill s n)) ∧ Below w.heap.size w w' := by
  have HB := Aside0.mk (Below.refl w.heap.size w)
  have Hn := Aside0.mk hn
  have Hs := Aside0.mk hs
  clear hs
  have b2 : (0 : Int) ≤ (n : Int) := by omega
  go_enter Tryd.func28, Tryd.ntmps28
  go_wp2_with (first | ((with_reducible refine gate_dst (N := 7) rfl ?_); refine Kd.R_make (Kd.int .u8) (w0 := w) w.heap.size 5 rfl (N := 7) rfl 24 _ _ rfl (n : Int) rfl rfl Tryd.underlying24 (.int .u8 0) 1 info5 rfl (by decide) (by omega) 0 (ok := fun _ => True) (okp := fun _ => True) rfl (fun _ h => h) trivial b2 ?hl ?hB ?hs ?_; (case hl => (have := Hn.out; omega)); (case hB => exact HB.out); (case hs => exact below_size HB.out); intro v w2 hR hb hg hat; obtain ⟨g, c, rfl, hgB⟩ := made_form hR hat; rw [Int.toNat_natCast, List.length_replicate] at hR; have n0_ := Aside0.mk hR; have n1_ := Aside0.mk hb; have n2_ := Aside0.mk hgB; clear hR hb hg hat hgB) | ((with_reducible refine gate_dst (N := 10) rfl ?_); refine R_copyS (w0 := w) rfl (.tmp 8) (.tmp 9) 24 9 rfl Tryd.underlying24 size5 n0_.out 0 n c s rfl rfl Hs.out ?kf n1_.out ?_; (case kf => (have := Hs.out; simp; omega)); intro w3 hR hg hb; have hcv := own_string (P := Tryd.prog) Tryd.underlying24 Tryd.underlying5 Tryd.underlying9 (Kd.own_of_R hR); have n4_ := Aside0.mk hb; clear hR hg hb))
  go_ret
  exact ⟨rfl, n4_.out⟩
end Go.Proofs.YtlhmbncalonomaaDoor.Hand
