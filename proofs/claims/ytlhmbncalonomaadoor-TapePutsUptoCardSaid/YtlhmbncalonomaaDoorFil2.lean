/- Appends of bytes, as steps on lists. -/
import Derived.Test.YtlhmbncalonomaaDoorFil
namespace Go.Proofs.YtlhmbncalonomaaDoor.Fil2
open Go.RowKit Go.Proofs.YtlhmbncalonomaaDoor.Q Go.Proofs.YtlhmbncalonomaaDoor.Cpy Go.Proofs.YtlhmbncalonomaaDoor.Hand Go.Proofs.YtlhmbncalonomaaDoor.Arr Go.Proofs.YtlhmbncalonomaaDoor.Sx Go.Proofs.YtlhmbncalonomaaDoor.Head Go.Proofs.YtlhmbncalonomaaDoor.Snd Go.Proofs.YtlhmbncalonomaaDoor.TpB Go.Proofs.YtlhmbncalonomaaDoor.TpH Go.Proofs.YtlhmbncalonomaaDoor.RfH Go.Proofs.YtlhmbncalonomaaDoor.Spc Go.Proofs.YtlhmbncalonomaaDoor.Spd Go.Proofs.YtlhmbncalonomaaDoor.Fil Go.Proofs.YtlhmbncalonomaaDoorW.PrintWords Go.Proofs.YtlhmbncalonomaaDoorW.PrintLast Go.Proofs.YtlhmbncalonomaaDoorW.PrintMore
set_option linter.unusedVariables false
set_option linter.unusedSimpArgs false

theorem size26 : (Tryd.prog.info? 26).map (·.size) = some 10 := by kernel_rfl
theorem info5s : (Tryd.prog.info? 5).map (fun j => (j.zero, j.size, j.bytes)) = some (some (.int .u8 0), 1, 1) := by kernel_rfl
theorem u8s_app (a b : List Int) : u8s a ++ u8s b = u8s (a ++ b) := by simp [u8s]
theorem _root_.Go.Proofs.YtlhmbncalonomaaDoor.Sx.Grow.var {W0 W W' : World} {bs : List (Nat × List Value × Nat)} {v : Value} {n e sz g t : Nat} {cells cs : List Value} (h : Grow W0 W bs v n cells e sz) (hz : W.heap.size = g) (hg : W.grownBy W' none) (hb : W'.heap[g]? = some (.cells cs.toArray t (0, 0))) : Grow W0 W' ((g, cs, t) :: bs) v n cells e sz :=
  h.push ((Below.refl _ _).grown hg (Nat.le_refl _) (fun k hk => by cases hk)) (Nat.le_of_eq hz) hb
section
variable {Q : Exit → Act → World → Prop} {N : Nat} {sl : List (Nat × Value)} {W0 W : World} {ops : Array Oper} {rest : List Oper} {d : Nat} {ty : TypeId} {pos : String} {aft : Array Edge} {x y : Operand} {bs : List (Nat × List Value × Nat)} {v : Value} {L : List Int}
theorem ow_appS {s : ByteArray} (hG : Grow W0 W bs v L.length (u8s L) 5 1) (hx : sv sl x = some v) (hy : sv sl y = some (.string s)) (hb : L.length + s.size ≤ 140737488355328) (hd : Nat.blt d N = true)
    (h : ∀ v' W', W.grownBy W' v.ownBlock → Grow W0 W' bs v' (L ++ bn s).length (u8s (L ++ bn s)) 5 1 → OW Tryd.prog ops Q rest N ((d, v') :: sl) W') : OW Tryd.prog ops Q (⟨some d, .call ⟨.builtin .append, #[x, y], #[24, 9]⟩, ty, pos, aft, none⟩ :: rest) N sl W := by
  refine ow_append hG hx hy Tryd.underlying24 info5s rfl (takes_string Tryd.underlying9) (by omega) (by omega) hd (fun v' W' hg hG' => h v' W' hg ?_)
  rw [bn_cells, u8s_app] at hG'
  rw [List.length_append, bn_length]
  exact hG'
theorem ow_appB {A : Option Addr} {l : List Int} {c : Nat} (hG : Grow W0 W bs v L.length (u8s L) 5 1) (hC : (Kd.int .u8).C W A l.length l) (hx : sv sl x = some v) (hy : sv sl y = some (.slice A l.length c)) (hb : L.length + l.length ≤ 140737488355328) (hd : Nat.blt d N = true)
    (h : ∀ v' W', W.grownBy W' v.ownBlock → Grow W0 W' bs v' (L ++ l).length (u8s (L ++ l)) 5 1 → OW Tryd.prog ops Q rest N ((d, v') :: sl) W') : OW Tryd.prog ops Q (⟨some d, .call ⟨.builtin .append, #[x, y], #[24, 24]⟩, ty, pos, aft, none⟩ :: rest) N sl W := by
  refine ow_append hG hx hy Tryd.underlying24 info5s rfl (takes_u8 hC) (by omega) (by omega) hd (fun v' W' hg hG' => h v' W' hg ?_)
  rw [u8s_app] at hG'
  rw [List.length_append]
  exact hG'
theorem ow_appZ {m : Nat} {mi : Int} (hG : Grow W0 W bs v L.length (u8s L) 5 1) (hx : sv sl x = some v) (hmi : mi = (m : Int)) (hy : sv sl y = some (.int .i64 mi)) (hb : L.length + m ≤ 140737488355328) (hd : Nat.blt d N = true)
    (h : ∀ v' W', W.grownBy W' v.ownBlock → Grow W0 W' bs v' (L ++ List.replicate m 0).length (u8s (L ++ List.replicate m 0)) 5 1 → OW Tryd.prog ops Q rest N ((d, v') :: sl) W') : OW Tryd.prog ops Q (⟨some d, .call ⟨.builtin .append, #[x, y], #[24, 3]⟩, ty, pos, aft, none⟩ :: rest) N sl W := by
  have hn : (Builtin.zeroCells (Value.int .u8 0).cells m).toList = u8s (List.replicate m 0) := by rw [zeroCells_one _ rfl, u8s, List.map_replicate]
  refine ow_appendZ hG hx hmi hy Tryd.underlying24 Tryd.underlying3 info5s rfl hn (by rw [u8s_length, List.length_replicate, Nat.mul_one]) u8s_one (by omega) (by omega) hd (fun v' W' hg hG' => h v' W' hg ?_)
  rw [u8s_app] at hG'
  rw [List.length_append, List.length_replicate]
  exact hG'
end
theorem hdrS_size (p r f1 f2 f3 : ByteArray) (f4 f5 f6 f7 n9 f8 : Int) (sm : ByteArray) (h4 : 0 ≤ f4 ∧ f4 ≤ 9) (hp : p.size ≤ 155) (hr : r.size ≤ 100) (h1 : f1.size ≤ 100) (h2 : f2.size ≤ 32) (h3 : f3.size ≤ 32) (hs : sm.size = 8) : (hdrS p r f1 f2 f3 f4 f5 f6 f7 n9 f8 sm).size = 512 := by
  rw [← bn_length, hdr_bn p r f1 f2 f3 f4 f5 f6 f7 n9 f8 sm h4 hp hr h1 h2 h3 hs]
  exact fsH_length p r f1 f2 f3 f4 f5 f6 f7 n9 f8 (bn sm) hp hr h1 h2 h3 (by rw [bn_length]; omega)
theorem sumH_bd (p r f1 f2 f3 : ByteArray) (f4 f5 f6 f7 n9 f8 : Int) (h4 : 0 ≤ f4 ∧ f4 ≤ 9) (hp : p.size ≤ 155) (hr : r.size ≤ 100) (h1 : f1.size ≤ 100) (h2 : f2.size ≤ 32) (h3 : f3.size ≤ 32) : 0 ≤ sumH p r f1 f2 f3 f4 f5 f6 f7 n9 f8 ∧ sumH p r f1 f2 f3 f4 f5 f6 f7 n9 f8 ≤ 9223372036854775807 := by
  have h7 : (digs 7 0).length = 7 := digs_length 7 0
  have hl := fsH_length p r f1 f2 f3 f4 f5 f6 f7 n9 f8 (digs 7 0) hp hr h1 h2 h3 (by omega)
  have hin : InR (hd2 (hd1 p r f1 f2 f3 f4) f5 f6 f7 n9 f8) := inr2 _ f5 f6 f7 n9 f8 (inr1 p r f1 f2 f3 f4 h4.1 h4.2)
  rw [hd2_flat p r f1 f2 f3 f4 f5 f6 f7 n9 f8 hp hr h1 h2 h3] at hin
  have := tot_range _ hin.out hl
  rw [tot_sum _ hl, fsH_sum p r f1 f2 f3 f4 f5 f6 f7 n9 f8 (digs 7 0) _ hp hr h1 h2 h3 (by omega) rfl] at this
  exact this
end Go.Proofs.YtlhmbncalonomaaDoor.Fil2
