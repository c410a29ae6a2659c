/- Own walk: ValiseFaults up to errors.Is: an empty disk is opened, a name is read that is not there. -/
import Derived.Test.YtfpacoihmimmcaaGreatDoorSx
import Derived.Test.YtfpacoihmimmcaaGreatDoorMu
import Derived.Laws.Pointers
import Derived.Laws.Build
import Derived.Carry
import Derived.Defers
import Derived.Test.YtfpacoihmimmcaaGreatDoorIs
namespace Go.Proofs.YtfpacoihmimmcaaGreatDoor.Vf
open Go.RowKit Go.Proofs.YtfpacoihmimmcaaGreatDoor.Sx
set_option linter.unusedVariables false
set_option linter.unusedSimpArgs false
def flt (c nm : ByteArray) : List Value := [.string c, .string nm, .int .i64 150]
def er (b : Nat) : Value := .iface 65 (.pointer (some ⟨b, 0, none⟩))
def dsk (g1 g2 m : Nat) : List Value := [.int .i64 4096, .slice (some ⟨g1, 0, none⟩) 0 0, .slice (some ⟨g2, 0, none⟩) 0 0, .map (some m), .slice none 0 0, .int .i64 0, .int .i64 (-1), .bool false]
def sto (b : Nat) : List Value := [.int .i32 0, .int .u32 0, .pointer (some ⟨b, 0, none⟩), .int .i64 0, .int .i64 0, .int .i64 0, .slice none 0 0, .int .i64 0, .int .i64 0, .string ⟨#[]⟩, .int .i64 0]
def vls (b s : Nat) : List Value := [.pointer (some ⟨b, 0, none⟩), .pointer (some ⟨s, 0, none⟩), .int .i64 0, .int .i64 0, .bool false]
theorem lt_of {w : World} {b : Nat} {o : Obj} (h : w.heap[b]? = some o) : b < w.heap.size := (Array.getElem?_eq_some_iff.1 h).1
theorem cellOf {w : World} {b o t : Nat} {cs : List Value} {v : Value} (h : w.heap[b]? = some (.cells cs.toArray t (0, 0))) (hv : cs[o]? = some v) : w.cell? ⟨b, o, none⟩ = some v := by simp [World.cell?, h, hv]
theorem cellsOf {w : World} {b o t : Nat} {cs c : List Value} (h : w.heap[b]? = some (.cells cs.toArray t (0, 0))) (hc : ∀ j u, c[j]? = some u → cs[o + j]? = some u) : ∀ j u, c[j]? = some u → w.cell? ((⟨b, o, none⟩ : Addr).add j) = some u := fun j u hj => by
  rw [Addr.add_mid]
  exact cellOf h (hc j u hj)
theorem set_at {w : World} {b t : Nat} {cs : List Value} (h : w.heap[b]? = some (.cells cs.toArray t (0, 0))) (o : Nat) (v : Value) : (w.setCell ⟨b, o, none⟩ v).heap[b]? = some (.cells (cs.set o v).toArray t (0, 0)) := by
  rw [setCell_eq_setRow w b o cs.toArray t (0, 0) v h]
  have e : cs.toArray.setIfInBounds o v = (cs.set o v).toArray := by simp
  rw [e]
  exact setRow_heap w b _ _ t (0, 0) h
section
variable {P : Program} {n : Fr} {sl : List (Nat × Value)} {w : World} {dst : Option Tmp} {ty t t2 xT : TypeId} {pos : String} {aft : Array Edge} {g : Option (Nat × Bool)} {u v r : Value} {x y : Operand}
theorem r_bin {op : BinOp} (hx : sv sl x = some u) (hy : sv sl y = some v) (hb : ∀ w, ((do eqGuard op t x y u v; binOp op t u v : Sem Value)).run P w = .ok r w) : Runs P ⟨dst, .binOp op t x y t2, ty, pos, aft, g⟩ n sl w r w := fun f hf => by
  have h : (execOp f.eval ⟨dst, .binOp op t x y t2, ty, pos, aft, g⟩ : Sem Next) = (do let z ← (do eqGuard op t x y u v; binOp op t u v : Sem Value); pure (.value z)) := by
    simp only [execOp, hf.ev hx, hf.ev hy]
  rw [h, Sem.run_bind, hb]
  rfl
theorem r_mki (hx : sv sl x = some u) (hb : ∀ w, (Instr.makeInterface t u).run P w = .ok r w) : Runs P ⟨dst, .makeInterface t x, ty, pos, aft, g⟩ n sl w r w := fun f hf => by
  simp only [execOp, hf.ev hx]
  rw [Sem.run_bind, hb]
  rfl
theorem r_assert {k : Bool} (hx : sv sl x = some u) (hb : ∀ w, (Instr.typeAssert u xT t k).run P w = .ok r w) : Runs P ⟨dst, .typeAssert x xT t k, ty, pos, aft, g⟩ n sl w r w := fun f hf => by
  simp only [execOp, hf.ev hx]
  rw [Sem.run_bind, hb]
  rfl
theorem r_nilCheck {a : Addr} (hx : sv sl x = some (.pointer (some a))) : Runs P ⟨dst, .nilCheck x, ty, pos, aft, g⟩ n sl w (.pointer (some a)) w := fun f hf => by
  simp only [execOp, hf.ev hx]
  rfl
theorem r_mkfunc {fn : Fn} {pa cs : Array Operand} {vs us : List Value} (ha : svs sl pa.toList = some vs) (hc : svs sl cs.toList = some us) : Runs P ⟨dst,   .makeFunc fn pa cs, ty, pos, aft, g⟩ n sl w (.func fn vs.toArray us.toArray) w := fun f hf => by
  have h1 := hf.evs ha
  have h2 := hf.evs hc
  have e1 : pa.map f.eval = vs.toArray := by rw [← h1]; apply Array.ext'; simp
  have e2 : cs.map f.eval = us.toArray := by rw [← h2]; apply Array.ext'; simp
  simp only [execOp, e1, e2]
  rfl
theorem l_load {ad : Addr} (h1 : one P t = true) (hc : w.cell? ad = some v) : (loadVar t ad).run P w = .ok v w := by
  unfold one at h1
  cases hu : P.underlying t with
  | none => rw [hu] at h1; cases h1
  | some d =>
    rw [hu] at h1
    have : (isAgg t).run P w = .ok false w := by
      simp only [isAgg, Sem.run_bind, run_underlying hu, Result.andThen_ok]
      cases d <;> simp_all
    simp [loadVar, this, run_load, hc]
theorem r_same {s : ByteArray} (hx : sv sl x = some (.string s)) (hy : sv sl y = some (.string s)) : Runs P ⟨dst, .binOp .eql t x y t2, ty, pos, aft, g⟩ n sl w (.bool true) w := by
  have h := r_seq (P := P) (n := n) (w := w) (dst := dst) (ty := ty) (t := t) (t2 := t2) (pos := pos) (aft := aft) (g := g) hx hy
  simpa using h
end
section
variable {P : Program} {Q : Exit → Act → World → Prop} {W0 W : World} {ops : Array Oper} {rest : List Oper} {d m2 : Nat} {ty t e : TypeId} {pos : String} {aft : Array Edge} {bs cs : List (Nat × List Value × Nat)}
theorem ow_makeMap {n : Fr} {sl : List (Nat × Value)} (hP : HP W0 W bs) (hd : Nat.blt d n.1 = true) (h : ∀ m W', HP W0 W' bs → OW P ops Q rest n ((d, .map (some m)) :: sl) W') : OW P ops Q (⟨some d, .makeMap t none, ty, pos, aft, none⟩ :: rest) n sl W :=
  ow_step (v := .map (some W.heap.size)) (w' := W.alloc (.map #[] 0)) (fun f hf => by simp [execOp, run_makeMap]) hd (h _ _ (hP.grown (World.grownBy_alloc W _ none)))
/-- append of nothing to nil. -/
theorem r_app0 {n : Fr} {sl : List (Nat × Value)} {x y : Operand} {A : Option Addr} {dst : Option Tmp} {g : Option (Nat × Bool)} {c : Nat} (hx : sv sl x = some (.slice none 0 0)) (hy : sv sl y = some (.slice A 0 c)) (hu : P.underlying t = some (.slice e)) (hz : (P.info? e).isSome = true) : Runs P ⟨dst, .call ⟨.builtin .append, #[x, y], #[t, t]⟩, ty, pos, aft, g⟩ n sl W (.slice none 0 0) W := fun f hf => by
  obtain ⟨j, hj⟩ := Option.isSome_iff_exists.mp hz
  have h0 : ∀ a : Addr, (loadCells a 0).run P W = .ok #[] W := fun a => run_loadCells_list (P := P) W a [] (fun j u hj => by cases hj)
  cases A <;> simp [execOp, resolve, invoke, builtin, hf.ev hx, hf.ev hy, Builtin.append_, run_underlying hu, sizeOf, typeInfo, hj, Builtin.lenOf, Builtin.firstCells, h0]
theorem hp_push2 {W' : World} {p q : Nat × List Value × Nat} (h : HP W0 W bs) (hJ : HP W W' [p, q]) : HP W0 W' (p :: q :: bs) := by
  have h1 := h.push (cs := q.2.1) (t := q.2.2) hJ.old (hJ.ge (g := q.1) (i := 1) rfl) (hJ.blk (i := 1) rfl)
  refine ⟨h1.old, fun x hx => ?_, fun x hx => ?_, ?_⟩
  · rcases List.mem_cons.1 hx with rfl | hx
    · exact hJ.blk (i := 0) rfl
    · exact h1.at_ x hx
  · rcases List.mem_cons.1 hx with rfl | hx
    · exact Nat.le_trans h.old.size (hJ.ge (g := x.1) (i := 0) rfl)
    · exact h1.new x hx
  · have hn := hJ.nd
    have h2 := h1.nd
    simp only [List.map_cons, List.map_nil] at hn h2 ⊢
    rw [List.nodup_cons] at hn ⊢
    refine ⟨fun hm => ?_, h2⟩
    rcases List.mem_cons.1 hm with e | hm
    · exact hn.1 (by rw [e]; exact List.mem_cons_self)
    · obtain ⟨x, hx, e⟩ := List.mem_map.1 hm
      obtain ⟨j, hj⟩ := List.mem_iff_getElem?.1 hx
      have l1 := h.lt (g := x.1) (cs := x.2.1) (t := x.2.2) hj
      have l2 := hJ.ge (g := p.1) (i := 0) rfl
      omega
/-! ### Deferred calls -/
theorem ow_defer {k : Nat} {ds : List Deferred} {sl : List (Nat × Value)} {f : FuncId} {args : List Operand} {ats : Array TypeId} {vs : List Value} (hargs : svs sl args = some vs) (h : OW P ops Q rest (k, ⟨.fn (.func f) #[], vs.toArray⟩ :: ds) sl W) :
    OW P ops Q (⟨none, .defer ⟨.value (.func f), args.toArray, ats⟩, ty, pos, aft, none⟩ :: rest) (k, ds) sl W := fun a ha => by
  refine wpList_plain rfl fun K hK => ?_
  have h1 := ha.evs hargs
  have hr : (execOp a.eval ⟨none, .defer ⟨.value (.func f), args.toArray, ats⟩, ty, pos, aft, none⟩).run P W = .ok (.defer ⟨.fn (.func f) #[], vs.toArray⟩) W := by
    simp [execOp, resolve, Deferred.ofValue, Act.eval]
    exact h1
  unfold Oper.wp
  rw [hr, Oper.upon_defer]
  exact hK _ _ (h _ ⟨by show _ :: a.defers = _; rw [ha.defers], ha.size, ha.at_⟩)
theorem callsD_cw {fn : Func} {R : Ending → World → Prop} {k : Nat} {f : FuncId} {c : Code} {vs : List Value} (hf : P.funcs[f]? = some fn) (hb : fn.body = some c) (hn : fn.ntmps = k) (hs : vs.length ≤ k) (h : CW P c (bodyPostD P fn R) (k, []) (enum 0 vs) W) : Calls P f vs.toArray W R :=
  calls_of_wp_defers hf hb (h _ ⟨rfl, by simp; omega, fun t v e => by
    obtain ⟨_, h2⟩ := enum_get t v 0 vs e
    have hl := (List.getElem?_eq_some_iff.1 h2).1
    simp only [Nat.sub_zero] at h2 hl
    simp [Array.getD_eq_getD_getElem?, Array.getElem?_append, hl]
    exact (List.getElem?_eq_some_iff.1 h2).2⟩)
/-- A return over one deferred call that leaves one world. -/
theorem ew_deferred {fn : Func} {R : Ending → World → Prop} {k : Nat} {sl : List (Nat × Value)} {f : FuncId} {vs : List Value} {W2 : World} {r : ResultVar} {v : Value} (he : Enters P f)
    (hK : CallsD P f vs.toArray .returning W fun e u' w' => u' = .returning ∧ (e = .returned (.tuple #[]) ∧ w' = W2)) (hr : fn.results = #[r]) (hv : RV P sl W2 [r] [v]) (h : R (.returned v) W2) :
    EW (bodyPostD P fn R) .ret (k, [⟨.fn (.func f) #[], vs.toArray⟩]) sl W := fun a ha => by
  show Leaves _ _ _ _ a.defers _ _
  rw [ha.defers]
  refine ⟨by simp, _, _, f, vs.toArray, rfl, by simpa [invoke] using he vs.toArray W, hK.mono fun e u' w' ⟨h1, h2, h3⟩ => ?_⟩
  subst h1; subst h2; subst h3
  have ha' : Fits (k, a.defers) sl a := ⟨rfl, ha.size, ha.at_⟩
  exact ⟨v, hv.result1 ha' hr, h⟩
end
theorem setCell_heap_same {W W0 : World} {s : Nat} (h : W.heap[s]? = W0.heap[s]?) (o : Nat) (v : Value) : (W.setCell ⟨s, o, none⟩ v).heap[s]? = (W0.setCell ⟨s, o, none⟩ v).heap[s]? := by
  simp [World.setCell, Array.getElem?_modify, h]
theorem hp_setOld {W0 W : World} {bs : List (Nat × List Value × Nat)} {s : Nat} (h : HP W0 W bs) (hs : s < W0.heap.size) (o : Nat) (v : Value) : HP (W0.setCell ⟨s, o, none⟩ v) (W.setCell ⟨s, o, none⟩ v) bs := by
  have hz : ∀ w : World, (w.setCell ⟨s, o, none⟩ v).heap.size = w.heap.size := fun w => by simp [World.setCell]
  refine ⟨⟨h.old.os, h.old.tape, h.old.output, by rw [hz, hz]; exact h.old.size, fun k hk => ?_⟩, fun p hp => ?_, fun p hp => by rw [hz]; exact h.new p hp, h.nd⟩
  · rw [hz] at hk
    by_cases e : k = s
    · subst e
      exact setCell_heap_same (h.old.block k hk) o v
    · rw [Below.heap_setCell _ _ _ _ e, Below.heap_setCell _ _ _ _ e]
      exact h.old.block k hk
  · have := h.new p hp
    rw [Below.heap_setCell _ _ _ _ (by simp; omega)]
    exact h.at_ p hp
theorem below_back {w w2 : World} {s : Nat} {o : Obj} (hs : w.heap[s]? = some o) (h2 : w2.heap[s]? = some o) (hz : w2.heap.size = w.heap.size) (ho : ∀ k, k ≠ s → w2.heap[k]? = w.heap[k]?) (h : w2.os = w.os ∧ w2.tape = w.tape ∧ w2.output = w.output := by exact ⟨rfl, rfl, rfl⟩) : Below w.heap.size w w2 :=
  ⟨h.1, h.2.1, h.2.2, by omega, fun k _ => by
    by_cases e : k = s
    · subst e; rw [hs, h2]
    · exact ho k e⟩
theorem r_sneS {P : Program} {n : Fr} {sl : List (Nat × Value)} {w : World} {dst : Option Tmp} {ty t t2 : TypeId} {pos : String} {aft : Array Edge} {g : Option (Nat × Bool)} {x y : Operand} {s : ByteArray} (hx : sv sl x = some (.string s)) (hy : sv sl y = some (.string s)) : Runs P ⟨dst, .binOp .neq t x y t2, ty, pos, aft, g⟩ n sl w (.bool false) w := by
  have h := r_sne (P := P) (n := n) (w := w) (dst := dst) (ty := ty) (t := t) (t2 := t2) (pos := pos) (aft := aft) (g := g) hx hy
  simpa using h
theorem fl42_0 : fld Tryz.prog 42 0 = some (0, 3, 1) := by kernel_rfl
theorem fl42_1 : fld Tryz.prog 42 1 = some (1, 3, 1) := by kernel_rfl
theorem fl55_0 : fld Tryz.prog 55 0 = some (0, 53, 1) := by kernel_rfl
theorem fl58_0 : fld Tryz.prog 58 0 = some (0, 22, 1) := by kernel_rfl
theorem fl58_1 : fld Tryz.prog 58 1 = some (1, 56, 1) := by kernel_rfl
theorem fl58_3 : fld Tryz.prog 58 3 = some (4, 4, 1) := by kernel_rfl
theorem fl67_0 : fld Tryz.prog 67 0 = some (0, 9, 1) := by kernel_rfl
theorem fl67_1 : fld Tryz.prog 67 1 = some (1, 9, 1) := by kernel_rfl
theorem fl67_2 : fld Tryz.prog 67 2 = some (2, 34, 1) := by kernel_rfl
theorem fl76_1 : fld Tryz.prog 76 1 = some (1, 26, 1) := by kernel_rfl
theorem fl76_2 : fld Tryz.prog 76 2 = some (2, 26, 1) := by kernel_rfl
theorem fl76_7 : fld Tryz.prog 76 7 = some (7, 4, 1) := by kernel_rfl
theorem fl86_0 : fld Tryz.prog 86 0 = some (0, 3, 1) := by kernel_rfl
theorem fl88_0 : fld Tryz.prog 88 0 = some (0, 84, 2) := by kernel_rfl
theorem fl88_3 : fld Tryz.prog 88 3 = some (6, 55, 4) := by kernel_rfl
theorem fl128_0 : fld Tryz.prog 128 0 = some (0, 86, 3) := by kernel_rfl
theorem fl128_1 : fld Tryz.prog 128 1 = some (3, 26, 1) := by kernel_rfl
theorem en4 : Enters Tryz.prog 4 := fun args w => by kernel_rfl
theorem en5 : Enters Tryz.prog 5 := fun args w => by kernel_rfl
theorem en6 : Enters Tryz.prog 6 := fun args w => by kernel_rfl
theorem en7 : Enters Tryz.prog 7 := fun args w => by kernel_rfl
theorem en8 : Enters Tryz.prog 8 := fun args w => by kernel_rfl
theorem en9 : Enters Tryz.prog 9 := fun args w => by kernel_rfl
theorem en10 : Enters Tryz.prog 10 := fun args w => by kernel_rfl
theorem en11 : Enters Tryz.prog 11 := fun args w => by kernel_rfl
theorem en12 : Enters Tryz.prog 12 := fun args w => by kernel_rfl
theorem en13 : Enters Tryz.prog 13 := fun args w => by kernel_rfl
theorem en14 : Enters Tryz.prog 14 := fun args w => by kernel_rfl
theorem en20 : Enters Tryz.prog 20 := fun args w => by kernel_rfl
theorem en21 : Enters Tryz.prog 21 := fun args w => by kernel_rfl
theorem en22 : Enters Tryz.prog 22 := fun args w => by kernel_rfl
theorem en23 : Enters Tryz.prog 23 := fun args w => by kernel_rfl
theorem en25 : Enters Tryz.prog 25 := fun args w => by kernel_rfl
theorem en29 : Enters Tryz.prog 29 := fun args w => by kernel_rfl
theorem en30 : Enters Tryz.prog 30 := fun args w => by kernel_rfl
theorem en31 : Enters Tryz.prog 31 := fun args w => by kernel_rfl
theorem en32 : Enters Tryz.prog 32 := fun args w => by kernel_rfl
theorem en38 : Enters Tryz.prog 38 := fun args w => by kernel_rfl
theorem en59 : Enters Tryz.prog 59 := fun args w => by kernel_rfl
theorem en60 : Enters Tryz.prog 60 := fun args w => by kernel_rfl
theorem en84 : Enters Tryz.prog 84 := fun args w => by kernel_rfl
set_option maxRecDepth 100000 in
theorem c9  (w : World) : Calls Tryz.prog 9 #[.slice none 0 0] w fun e w' => e = .returned (.slice none 0 0) ∧ Below w.heap.size w w' := by
  have hP := HP.start w
  refine calls_cw Tryz.func9 rfl rfl (by simp) ?_
  refine cw_seq ?_
  -- region 0 valiseplay.go:48
  refine cw_region ?_
  refine ow_step (r_assign rfl) rfl ?_
  refine ow_nil ?_
  refine ew_next ?_
  refine cw_seq ?_
  -- region 1 valiseplay.go:49
  refine cw_region ?_
  refine ow_step (r_assign rfl) rfl ?_
  refine ow_nil ?_
  refine ew_next ?_
  refine cw_seq ?_
  -- region 2 valiseplay.go:50
  refine cw_region ?_
  refine ow_step (r_move rfl) rfl ?_
  refine ow_step (r_move rfl) rfl ?_
  refine ow_step (r_app0 rfl rfl rfl rfl) rfl ?_
  refine ow_step (r_assign rfl) rfl ?_
  refine ow_nil ?_
  refine ew_next ?_
  refine cw_seq ?_
  -- region 3 valiseplay.go:51
  refine cw_region ?_
  refine ow_step (r_move rfl) rfl ?_
  refine ow_step (r_assign rfl) rfl ?_
  refine ow_nil ?_
  refine ew_next ?_
  refine cw_ret ?_
  refine ew_ret1 rfl (.tmp rfl .nil) ⟨rfl, hP.old⟩

set_option maxRecDepth 100000 in
theorem c20 (A : Option Addr) (w : World) : Calls Tryz.prog 20 #[.slice A 0 0] w fun e w' => ∃ g, e = .returned (.slice (some ⟨g, 0, none⟩) 0 0) ∧ Below w.heap.size w w' := by
  have hP := HP.start w
  refine calls_cw Tryz.func20 rfl rfl (by simp) ?_
  refine cw_seq ?_
  -- region 0 disk.go:39
  refine cw_region ?_
  refine ow_step (r_assign rfl) rfl ?_
  refine ow_nil ?_
  refine ew_next ?_
  refine cw_seq ?_
  -- region 1 disk.go:40
  refine cw_region ?_
  refine ow_step (r_move rfl) rfl ?_
  refine ow_step (r_len rfl (by rfl) rfl) rfl ?_
  refine ow_make1 (N := 0) (M := 0) (z := .int .u8 0) (m := 1) hP rfl rfl rfl (by kernel_rfl) rfl (by decide) rfl rfl rfl ?_
  clear hP; intro g W hz hg hP
  refine ow_step (r_assign rfl) rfl ?_
  refine ow_nil ?_
  refine ew_next ?_
  refine cw_seq ?_
  -- region 2 disk.go:41
  refine cw_region ?_
  refine ow_step (r_move rfl) rfl ?_
  refine ow_step (r_move rfl) rfl ?_
  refine ow_copy0 (sz := 1) rfl rfl rfl (by kernel_rfl) rfl rfl ?_
  refine ow_nil ?_
  refine ew_next ?_
  refine cw_seq ?_
  -- region 3 disk.go:42
  refine cw_region ?_
  refine ow_step (r_move rfl) rfl ?_
  refine ow_step (r_assign rfl) rfl ?_
  refine ow_nil ?_
  refine ew_next ?_
  refine cw_ret ?_
  refine ew_ret1 rfl (.tmp rfl .nil) ⟨_, rfl, hP.old⟩

set_option maxRecDepth 100000 in
theorem c8  (w : World) : Calls Tryz.prog 8 #[.slice none 0 0, .int .i64 4096] w fun e w' => ∃ b g1 g2 m, e = .returned (.tuple #[.pointer (some ⟨b, 0, none⟩), .int .i64 0]) ∧ HP w w' [(b, dsk g1 g2 m, 76)] := by
  have hP := HP.start w
  refine calls_cw Tryz.func8 rfl rfl (by simp) ?_
  refine cw_seq ?_
  -- region 0 disk.go:25
  refine cw_region ?_
  refine ow_step (r_assign rfl) rfl ?_
  refine ow_step (r_assign rfl) rfl ?_
  refine ow_nil ?_
  refine ew_next ?_
  refine cw_seq ?_
  refine cw_seq ?_
  -- region 1 disk.go:26
  refine cw_region ?_
  refine ow_step (r_move rfl) rfl ?_
  refine ow_step (r_lt rfl rfl) rfl ?_
  refine ow_step (r_move rfl) rfl ?_
  first | (refine ow_pass rfl rfl rfl (by rfl) rfl ?_) | (refine ow_guard rfl rfl rfl (by rfl) ?_; refine ow_step (r_move rfl) rfl ?_)
  first | (refine ow_pass rfl rfl rfl (by rfl) rfl ?_) | (refine ow_guard rfl rfl rfl (by rfl) ?_; refine ow_step (r_gt rfl rfl) rfl ?_)
  refine ow_step (r_pick rfl rfl rfl) rfl ?_
  refine ow_nil ?_
  refine ew_next ?_
  refine cw_false rfl ?_
  refine cw_skip ?_
  refine ew_next ?_
  refine cw_seq ?_
  refine cw_seq ?_
  -- region 3 disk.go:29
  refine cw_region ?_
  refine ow_step (r_move rfl) rfl ?_
  refine ow_step (r_len rfl (by rfl) rfl) rfl ?_
  refine ow_step (r_move rfl) rfl ?_
  refine ow_step (r_gt rfl rfl) rfl ?_
  refine ow_nil ?_
  refine ew_next ?_
  refine cw_false rfl ?_
  refine cw_skip ?_
  refine ew_next ?_
  refine cw_seq ?_
  -- region 5 disk.go:32
  refine cw_region ?_
  refine ow_step (r_move rfl) rfl ?_
  refine ow_makeMap hP rfl ?_
  clear hP; intro m W hP
  refine ow_step (r_build (v := .agg #[.int .i64 4096, .slice none 0 0, .slice none 0 0, .map (some m), .slice none 0 0, .int .i64 0, .int .i64 (-1), .bool false]) rfl (fun w => by kernel_rfl)) rfl ?_
  refine ow_box hP rfl rfl rfl ?_
  clear hP; intro b20 W hz hg hP
  refine ow_step (r_assign rfl) rfl ?_
  refine ow_nil ?_
  refine ew_next ?_
  refine cw_seq ?_
  -- region 6 disk.go:33
  refine cw_region ?_
  refine ow_step (r_move rfl) rfl ?_
  refine ow_step (r_move rfl) rfl ?_
  refine ow_call en20 rfl (c20 _ _) rfl ?_
  rintro e W ⟨g1, rfl, hJ⟩; replace hP := hP.below hJ; clear hJ; refine ⟨_, rfl, ?_⟩
  refine ow_step (r_nilCheck rfl) rfl ?_
  refine ow_step (r_fieldAddr rfl fl76_1) rfl ?_
  refine ow_store hP 0 rfl (by simp) rfl rfl rfl rfl rfl ?_
  clear hP; intro W hg hP; dsimp only [List.set] at hP
  refine ow_nil ?_
  refine ew_next ?_
  refine cw_seq ?_
  -- region 7 disk.go:34
  refine cw_region ?_
  refine ow_step (r_move rfl) rfl ?_
  refine ow_step (r_move rfl) rfl ?_
  refine ow_call en20 rfl (c20 _ _) rfl ?_
  rintro e W ⟨g2, rfl, hJ⟩; replace hP := hP.below hJ; clear hJ; refine ⟨_, rfl, ?_⟩
  refine ow_step (r_nilCheck rfl) rfl ?_
  refine ow_step (r_fieldAddr rfl fl76_2) rfl ?_
  refine ow_store hP 0 rfl (by simp) rfl rfl rfl rfl rfl ?_
  clear hP; intro W hg hP; dsimp only [List.set] at hP
  refine ow_nil ?_
  refine ew_next ?_
  refine cw_seq ?_
  -- region 8 disk.go:35
  refine cw_region ?_
  refine ow_step (r_move rfl) rfl ?_
  refine ow_step (r_assign rfl) rfl ?_
  refine ow_step (r_assign rfl) rfl ?_
  refine ow_nil ?_
  refine ew_next ?_
  refine cw_ret ?_
  refine ew_rets (rs := [(Go.ResultVar.tmp 4), (Go.ResultVar.tmp 5)]) rfl (by simp) (.tmp rfl (.tmp rfl (.nil))) ⟨_, g1, g2, m, rfl, hP⟩

set_option maxRecDepth 100000 in
theorem c22 (b g1 g2 m : Nat) (w : World) (hb : w.heap[b]? = some (.cells (dsk g1 g2 m).toArray 76 (0, 0))) : Calls Tryz.prog 22 #[.pointer (some ⟨b, 0, none⟩)] w fun e w' => e = .returned (.bool true) ∧ w' = w := by
  have hP := HP.start w
  refine calls_cw Tryz.func22 rfl rfl (by simp) ?_
  refine cw_seq ?_
  -- region 0 disk.go:70
  refine cw_region ?_
  refine ow_step (r_assign rfl) rfl ?_
  refine ow_nil ?_
  refine ew_next ?_
  refine cw_seq ?_
  -- region 1 disk.go:70
  refine cw_region ?_
  refine ow_step (r_move rfl) rfl ?_
  refine ow_step (r_bin (r := .bool true) rfl rfl (fun w => by kernel_rfl)) rfl ?_
  refine ow_step (r_move rfl) rfl ?_
  first | (refine ow_pass rfl rfl rfl (by rfl) rfl ?_) | (refine ow_guard rfl rfl rfl (by rfl) ?_; refine ow_step (r_move rfl) rfl ?_)
  first | (refine ow_pass rfl rfl rfl (by rfl) rfl ?_) | (refine ow_guard rfl rfl rfl (by rfl) ?_; refine ow_step (r_nilCheck rfl) rfl ?_)
  first | (refine ow_pass rfl rfl rfl (by rfl) rfl ?_) | (refine ow_guard rfl rfl rfl (by rfl) ?_; refine ow_step (r_fieldAddr rfl fl76_7) rfl ?_)
  first | (refine ow_pass rfl rfl rfl (by rfl) rfl ?_) | (refine ow_guard rfl rfl rfl (by rfl) ?_; refine ow_step (r_load rfl rfl (cellOf ((hP.old.block _ (lt_of hb)).trans hb) rfl)) rfl ?_)
  first | (refine ow_pass rfl rfl rfl (by rfl) rfl ?_) | (refine ow_guard rfl rfl rfl (by rfl) ?_; refine ow_step (r_not rfl) rfl ?_)
  refine ow_step (r_pick rfl rfl rfl) rfl ?_
  refine ow_step (r_assign rfl) rfl ?_
  refine ow_nil ?_
  refine ew_next ?_
  refine cw_ret ?_
  refine ew_ret1 rfl (.tmp rfl .nil) ⟨rfl, rfl⟩

set_option maxRecDepth 100000 in
theorem c30 (b g1 g2 m : Nat) (w : World) (hb : w.heap[b]? = some (.cells (dsk g1 g2 m).toArray 76 (0, 0))) : Calls Tryz.prog 30 #[.pointer (some ⟨b, 0, none⟩)] w fun e w' => ∃ g, e = .returned (.slice (some ⟨g, 0, none⟩) 0 0) ∧ Below w.heap.size w w' := by
  have hP := HP.start w
  refine calls_cw Tryz.func30 rfl rfl (by simp) ?_
  refine cw_seq ?_
  -- region 0 disk.go:73
  refine cw_region ?_
  refine ow_step (r_assign rfl) rfl ?_
  refine ow_nil ?_
  refine ew_next ?_
  refine cw_seq ?_
  refine cw_seq ?_
  -- region 1 disk.go:74
  refine cw_region ?_
  refine ow_step (r_move rfl) rfl ?_
  refine ow_step (r_bin (r := .bool false) rfl rfl (fun w => by kernel_rfl)) rfl ?_
  refine ow_nil ?_
  refine ew_next ?_
  refine cw_false rfl ?_
  refine cw_skip ?_
  refine ew_next ?_
  refine cw_seq ?_
  -- region 3 disk.go:77
  refine cw_region ?_
  refine ow_step (r_move rfl) rfl ?_
  refine ow_step (r_nilCheck rfl) rfl ?_
  refine ow_step (r_fieldAddr rfl fl76_1) rfl ?_
  refine ow_step (r_load rfl rfl (cellOf ((hP.old.block _ (lt_of hb)).trans hb) rfl)) rfl ?_
  refine ow_call en20 rfl (c20 _ _) rfl ?_
  rintro e W ⟨g, rfl, hJ⟩; replace hP := hP.below hJ; clear hJ; refine ⟨_, rfl, ?_⟩
  refine ow_step (r_assign rfl) rfl ?_
  refine ow_nil ?_
  refine ew_next ?_
  refine cw_ret ?_
  refine ew_ret1 rfl (.tmp rfl .nil) ⟨_, rfl, hP.old⟩

set_option maxRecDepth 100000 in
theorem c84 (A : Option Addr) (w : World) : Calls Tryz.prog 84 #[.slice A 0 0, .string ⟨#[0]⟩] w fun e w' => e = .returned (.slice A 0 0) ∧ w' = w := by
  have hP := HP.start w
  refine calls_cw Tryz.func84 rfl rfl (by simp) ?_
  refine cw_seq ?_
  -- region 0 bytes.go:1065
  refine cw_region ?_
  refine ow_step (r_assign rfl) rfl ?_
  refine ow_nil ?_
  refine ew_next ?_
  refine cw_seq ?_
  refine cw_seq ?_
  -- region 1 bytes.go:1066
  refine cw_region ?_
  refine ow_step (r_move rfl) rfl ?_
  refine ow_step (r_len rfl (by rfl) rfl) rfl ?_
  refine ow_step (r_eq rfl rfl) rfl ?_
  refine ow_step (r_move rfl) rfl ?_
  first | (refine ow_pass rfl rfl rfl (by rfl) rfl ?_) | (refine ow_guard rfl rfl rfl (by rfl) ?_; refine ow_step (r_move rfl) rfl ?_)
  first | (refine ow_pass rfl rfl rfl (by rfl) rfl ?_) | (refine ow_guard rfl rfl rfl (by rfl) ?_; refine ow_step (r_seq rfl rfl) rfl ?_)
  refine ow_step (r_pick rfl rfl rfl) rfl ?_
  refine ow_nil ?_
  refine ew_next ?_
  refine cw_true rfl ?_
  refine cw_seq ?_
  -- region 2 bytes.go:1067
  refine cw_region ?_
  refine ow_step (r_move rfl) rfl ?_
  refine ow_step (r_assign rfl) rfl ?_
  refine ow_nil ?_
  refine ew_next ?_
  refine cw_ret ?_
  refine ew_then_ret ?_
  refine ew_ret1 rfl (.tmp rfl .nil) ⟨rfl, rfl⟩

set_option maxRecDepth 100000 in
theorem c59 (A : Option Addr) (w : World) : Calls Tryz.prog 59 #[.slice A 0 0] w fun e w' => e = .returned (.int .i64 0) ∧ w' = w := by
  have hP := HP.start w
  refine calls_cw Tryz.func59 rfl rfl (by simp) ?_
  refine cw_seq ?_
  -- region 0 journal.go:22
  refine cw_region ?_
  refine ow_step (r_assign rfl) rfl ?_
  refine ow_nil ?_
  refine ew_next ?_
  refine cw_seq ?_
  -- region 1 journal.go:22
  refine cw_region ?_
  refine ow_step (r_move rfl) rfl ?_
  refine ow_step (r_len rfl (by rfl) rfl) rfl ?_
  refine ow_step (r_move rfl) rfl ?_
  refine ow_call en84 rfl (c84 _ _) rfl ?_
  rintro e W' ⟨rfl, rfl⟩; refine ⟨_, rfl, ?_⟩
  refine ow_step (r_len rfl (by rfl) rfl) rfl ?_
  refine ow_step (i_sub rfl rfl (by omega)) rfl ?_
  refine ow_step (r_assign rfl) rfl ?_
  refine ow_nil ?_
  refine ew_next ?_
  refine cw_ret ?_
  refine ew_ret1 rfl (.tmp rfl .nil) ⟨rfl, rfl⟩

set_option maxRecDepth 100000 in
theorem c60 (A : Option Addr) (w : World) : Calls Tryz.prog 60 #[.slice A 0 0] w fun e w' => e = .returned (.tuple #[.agg #[.int .i64 0, .int .i64 0, .int .i64 0, .slice none 0 0, .slice none 0 0], .bool false]) ∧ Below w.heap.size w w' := by
  have hP := HP.start w
  refine calls_cw Tryz.func60 rfl rfl (by simp) ?_
  refine cw_seq ?_
  -- region 0 journal.go:179
  refine cw_region ?_
  refine ow_alloc (ws := [.int .i64 0, .int .i64 0, .int .i64 0, .slice none 0 0, .slice none 0 0]) hP (by kernel_rfl) rfl ?_
  clear hP; intro b2 W hz hg hP
  refine ow_step (r_assign rfl) rfl ?_
  refine ow_nil ?_
  refine ew_next ?_
  refine cw_seq ?_
  -- region 1 journal.go:180
  refine cw_region ?_
  refine ow_step (r_move rfl) rfl ?_
  refine ow_step (r_len rfl (by rfl) rfl) rfl ?_
  refine ow_step (r_assign rfl) rfl ?_
  refine ow_nil ?_
  refine ew_next ?_
  refine cw_seq ?_
  -- region 2 journal.go:181
  refine cw_region ?_
  refine ow_step (r_move rfl) rfl ?_
  refine ow_step (i_quo rfl rfl (by omega)) rfl ?_
  refine ow_step (i_mul rfl rfl (by omega)) rfl ?_
  refine ow_step (i_sub rfl rfl (by omega)) rfl ?_
  refine ow_step (r_assign rfl) rfl ?_
  refine ow_nil ?_
  refine ew_next ?_
  refine cw_seq ?_
  refine cw_seq ?_
  -- region 3 journal.go:182
  refine cw_region ?_
  refine ow_step (r_move rfl) rfl ?_
  refine ow_step (r_lt rfl rfl) rfl ?_
  refine ow_nil ?_
  refine ew_next ?_
  refine cw_true rfl ?_
  refine cw_seq ?_
  -- region 4 journal.go:183
  refine cw_region ?_
  refine ow_step (r_build (v := .agg #[.int .i64 0, .int .i64 0, .int .i64 0, .slice none 0 0, .slice none 0 0]) rfl (fun w => by kernel_rfl)) rfl ?_
  refine ow_stores hP 0 rfl (ws := [.int .i64 0, .int .i64 0, .int .i64 0, .slice none 0 0, .slice none 0 0]) rfl rfl (by simp [Value.oneCell']) rfl rfl ?_
  clear hP; intro W hg hP; dsimp only [List.set] at hP
  refine ow_step (r_assign rfl) rfl ?_
  refine ow_nil ?_
  refine ew_next ?_
  refine cw_ret ?_
  refine ew_then_ret ?_
  refine ew_rets (rs := [(Go.ResultVar.cell 2 128), (Go.ResultVar.tmp 3)]) rfl (by simp) (.cell _ rfl (run_loadVar_row _ _ 128 128 _ (0, 0) _ (hP.blk (i := 0) rfl) rfl rfl rfl) (.tmp rfl (.nil))) ⟨rfl, hP.old⟩

set_option maxRecDepth 100000 in
theorem c38 (A : Option Addr) (w : World) : Calls Tryz.prog 38 #[.slice A 0 0] w fun e w' => e = .returned (.agg #[.int .i64 0, .int .i64 0, .int .i64 0, .slice none 0 0, .slice none 0 0]) ∧ Below w.heap.size w w' := by
  have hP := HP.start w
  refine calls_cw Tryz.func38 rfl rfl (by simp) ?_
  refine cw_seq ?_
  -- region 0 journal.go:212
  refine cw_region ?_
  refine ow_alloc (ws := [.int .i64 0, .int .i64 0, .int .i64 0, .slice none 0 0, .slice none 0 0]) hP (by kernel_rfl) rfl ?_
  clear hP; intro b2 W hz hg hP
  refine ow_nil ?_
  refine ew_next ?_
  refine cw_seq ?_
  refine cw_seq ?_
  -- region 1 journal.go:213
  refine cw_region ?_
  refine ow_step (r_move rfl) rfl ?_
  refine ow_call en59 rfl (c59 _ _) rfl ?_
  rintro e W' ⟨rfl, rfl⟩; refine ⟨_, rfl, ?_⟩
  refine ow_step (r_assign rfl) rfl ?_
  refine ow_nil ?_
  refine ew_next ?_
  refine cw_seq ?_
  -- region 2 journal.go:213
  refine cw_region ?_
  refine ow_step (r_move rfl) rfl ?_
  refine ow_step (r_ge rfl rfl) rfl ?_
  refine ow_nil ?_
  refine ew_next ?_
  refine cw_false rfl ?_
  refine cw_skip ?_
  refine ew_next ?_
  refine cw_seq ?_
  refine cw_seq ?_
  -- region 5 journal.go:217
  refine cw_region ?_
  refine ow_step (r_move rfl) rfl ?_
  refine ow_call en60 rfl (c60 _ _) rfl ?_
  rintro e W ⟨rfl, hJ⟩; replace hP := hP.below hJ; clear hJ; refine ⟨_, rfl, ?_⟩
  refine ow_step (r_move rfl) rfl ?_
  refine ow_step (r_extract rfl rfl) rfl ?_
  refine ow_step (r_extract rfl rfl) rfl ?_
  refine ow_var hP rfl (by kernel_rfl) (by simp [Value.oneCell']) rfl ?_
  clear hP; intro b5 W hz hg hP
  refine ow_step (r_assign rfl) rfl ?_
  refine ow_nil ?_
  refine ew_next ?_
  refine cw_seq ?_
  -- region 6 journal.go:217
  refine cw_region ?_
  refine ow_step (r_move rfl) rfl ?_
  refine ow_nil ?_
  refine ew_next ?_
  refine cw_false rfl ?_
  refine cw_skip ?_
  refine ew_next ?_
  refine cw_seq ?_
  -- region 8 journal.go:220
  refine cw_region ?_
  refine ow_step (r_move rfl) rfl ?_
  refine ow_step (r_len rfl (by rfl) rfl) rfl ?_
  refine ow_step (r_build (v := .agg #[.int .i64 0, .int .i64 0, .int .i64 0]) rfl (fun w => by kernel_rfl)) rfl ?_
  refine ow_step (r_move rfl) rfl ?_
  refine ow_step (r_app0 rfl rfl rfl rfl) rfl ?_
  refine ow_step (r_build (v := .agg #[.int .i64 0, .int .i64 0, .int .i64 0, .slice none 0 0, .slice none 0 0]) rfl (fun w => by kernel_rfl)) rfl ?_
  refine ow_stores hP 1 rfl (ws := [.int .i64 0, .int .i64 0, .int .i64 0, .slice none 0 0, .slice none 0 0]) rfl rfl (by simp [Value.oneCell']) rfl rfl ?_
  clear hP; intro W hg hP; dsimp only [List.set] at hP
  refine ow_nil ?_
  refine ew_next ?_
  refine cw_ret ?_
  refine ew_ret1 rfl (.cell _ rfl (run_loadVar_row _ _ 128 128 _ (0, 0) _ (hP.blk (i := 1) rfl) rfl rfl rfl) (.nil)) ⟨rfl, hP.old⟩

set_option maxRecDepth 100000 in
theorem c29 (A : Option Addr) (w : World) : Calls Tryz.prog 29 #[.slice A 0 0] w fun e w' => e = .returned (.tuple #[.agg #[.int .i64 0, .int .i64 0, .int .i64 0], .slice none 0 0]) ∧ Below w.heap.size w w' := by
  have hP := HP.start w
  refine calls_cw Tryz.func29 rfl rfl (by simp) ?_
  refine cw_seq ?_
  -- region 0 journal.go:224
  refine cw_region ?_
  refine ow_alloc (ws := [.int .i64 0, .int .i64 0, .int .i64 0]) hP (by kernel_rfl) rfl ?_
  clear hP; intro b2 W hz hg hP
  refine ow_step (r_assign rfl) rfl ?_
  refine ow_nil ?_
  refine ew_next ?_
  refine cw_seq ?_
  -- region 1 journal.go:225
  refine cw_region ?_
  refine ow_step (r_move rfl) rfl ?_
  refine ow_call en38 rfl (c38 _ _) rfl ?_
  rintro e W ⟨rfl, hJ⟩; replace hP := hP.below hJ; clear hJ; refine ⟨_, rfl, ?_⟩
  refine ow_var hP rfl (by kernel_rfl) (by simp [Value.oneCell']) rfl ?_
  clear hP; intro b4 W hz hg hP
  refine ow_nil ?_
  refine ew_next ?_
  refine cw_seq ?_
  -- region 2 DRAWS journal.go:226
  refine cw_held (fun w' => ∃ c, HP w w' [(b4, [.int .i64 0, .int .i64 0, .int .i64 0, .slice none 0 0, .slice none 0 0], 128), (b2, c, 86)]) (by kernel_rfl) ?_
  replace hP := hP.drew
  refine hw_take 0 rfl rfl rfl (by kernel_rfl) (by kernel_rfl) (by kernel_rfl) (by repeat (first | exact mild_body | apply mild_then)) ⟨_, hP⟩ (fun w' ⟨_, hw⟩ => r_fieldAddr rfl fl128_0) rfl ?_
  refine hw_take 1 rfl rfl rfl (by kernel_rfl) (by kernel_rfl) (by kernel_rfl) (by repeat (first | exact mild_body | apply mild_then)) ⟨_, hP⟩ (fun w' ⟨_, hw⟩ => r_loads (c := [.int .i64 0, .int .i64 0, .int .i64 0]) rfl rfl rfl rfl (hw.cells (i := 0) (o := 0) rfl (fun j u hj => by match j, hj with | 0, hj => exact hj | 1, hj => exact hj | 2, hj => exact hj))) rfl ?_
  refine hw_take 2 rfl rfl rfl (by kernel_rfl) (by kernel_rfl) (by kernel_rfl) (by repeat (first | exact mild_body | apply mild_then)) ⟨_, hP⟩ (fun w' ⟨_, hw⟩ => r_fieldAddr rfl fl128_1) rfl ?_
  refine hw_take 3 rfl rfl rfl (by kernel_rfl) (by kernel_rfl) (by kernel_rfl) (by repeat (first | exact mild_body | apply mild_then)) ⟨_, hP⟩ (fun w' ⟨_, hw⟩ => r_load rfl rfl (hw.cell (i := 0) rfl rfl)) rfl ?_
  refine hw_one 4 (by kernel_rfl) (nw_of rfl ?_ lets_then)
  refine ow_stores hP 1 rfl (ws := [.int .i64 0, .int .i64 0, .int .i64 0]) rfl rfl (by simp [Value.oneCell']) rfl rfl ?_
  clear hP; intro W hg hP; dsimp only [List.set] at hP
  refine ow_nil (ew_held ⟨_, hP⟩ ?_)
  refine hw_one 5 (by kernel_rfl) (nw_of rfl ?_ lets_then)
  refine ow_step (r_assign rfl) rfl ?_
  refine ow_nil (ew_held ⟨_, hP⟩ ?_)
  refine hw_done (by kernel_rfl) ?_
  refine ew_next ?_
  refine cw_ret ?_
  refine ew_rets (rs := [(Go.ResultVar.cell 2 86), (Go.ResultVar.tmp 3)]) rfl (by simp) (.cell _ rfl (run_loadVar_row _ _ 86 86 _ (0, 0) _ (hP.blk (i := 1) rfl) rfl rfl rfl) (.tmp rfl (.nil))) ⟨rfl, hP.old⟩

set_option maxRecDepth 100000 in
theorem c31 (A : Option Addr) (w : World) : Calls Tryz.prog 31 #[.slice A 0 0] w fun e w' => e = .returned (.tuple #[.agg #[.slice none 0 0, .int .i64 0, .int .i64 0, .string ⟨#[]⟩], .int .i64 0]) ∧ Below w.heap.size w w' := by
  have hP := HP.start w
  refine calls_cw Tryz.func31 rfl rfl (by simp) ?_
  refine cw_seq ?_
  -- region 0 layout.go:61
  refine cw_region ?_
  refine ow_alloc (ws := [.slice none 0 0, .int .i64 0, .int .i64 0, .string ⟨#[]⟩]) hP (by kernel_rfl) rfl ?_
  clear hP; intro b2 W hz hg hP
  refine ow_step (r_assign rfl) rfl ?_
  refine ow_nil ?_
  refine ew_next ?_
  refine cw_seq ?_
  refine cw_seq ?_
  -- region 1 layout.go:62
  refine cw_region ?_
  refine ow_step (r_move rfl) rfl ?_
  refine ow_step (r_len rfl (by rfl) rfl) rfl ?_
  refine ow_step (r_eq rfl rfl) rfl ?_
  refine ow_nil ?_
  refine ew_next ?_
  refine cw_true rfl ?_
  refine cw_seq ?_
  -- region 2 layout.go:63
  refine cw_region ?_
  refine ow_step (r_build (v := .agg #[.slice none 0 0, .int .i64 0, .int .i64 0, .string ⟨#[]⟩]) rfl (fun w => by kernel_rfl)) rfl ?_
  refine ow_stores hP 0 rfl (ws := [.slice none 0 0, .int .i64 0, .int .i64 0, .string ⟨#[]⟩]) rfl rfl (by simp [Value.oneCell']) rfl rfl ?_
  clear hP; intro W hg hP; dsimp only [List.set] at hP
  refine ow_step (r_assign rfl) rfl ?_
  refine ow_nil ?_
  refine ew_next ?_
  refine cw_ret ?_
  refine ew_then_ret ?_
  refine ew_rets (rs := [(Go.ResultVar.cell 2 55), (Go.ResultVar.tmp 3)]) rfl (by simp) (.cell _ rfl (run_loadVar_row _ _ 55 55 _ (0, 0) _ (hP.blk (i := 0) rfl) rfl rfl rfl) (.tmp rfl (.nil))) ⟨rfl, hP.old⟩

set_option maxRecDepth 100000 in
theorem c21 (b g1 g2 m : Nat) (w : World) (hb : w.heap[b]? = some (.cells (dsk g1 g2 m).toArray 76 (0, 0))) : Calls Tryz.prog 21 #[.pointer (some ⟨b, 0, none⟩)] w fun e w' => ∃ s, e = .returned (.tuple #[.pointer (some ⟨s, 0, none⟩), .int .i64 0]) ∧ HP w w' [(s, sto b, 88)] := by
  have hP := HP.start w
  refine calls_cw Tryz.func21 rfl rfl (by simp) ?_
  refine cw_seq ?_
  -- region 0 store.go:25
  refine cw_region ?_
  refine ow_step (r_assign rfl) rfl ?_
  refine ow_step (r_assign rfl) rfl ?_
  refine ow_nil ?_
  refine ew_next ?_
  refine cw_seq ?_
  refine cw_seq ?_
  -- region 1 store.go:26
  refine cw_region ?_
  refine ow_step (r_move rfl) rfl ?_
  refine ow_step (r_bin (r := .bool false) rfl rfl (fun w => by kernel_rfl)) rfl ?_
  refine ow_nil ?_
  refine ew_next ?_
  refine cw_false rfl ?_
  refine cw_skip ?_
  refine ew_next ?_
  refine cw_seq ?_
  refine cw_seq ?_
  -- region 3 store.go:29
  refine cw_region ?_
  refine ow_step (r_move rfl) rfl ?_
  refine ow_call en22 rfl (c22 _ _ _ _ _ ((hP.old.block _ (lt_of hb)).trans hb)) rfl ?_
  rintro e W' ⟨rfl, rfl⟩; refine ⟨_, rfl, ?_⟩
  refine ow_step (r_not rfl) rfl ?_
  refine ow_nil ?_
  refine ew_next ?_
  refine cw_false rfl ?_
  refine cw_skip ?_
  refine ew_next ?_
  refine cw_seq ?_
  -- region 5 store.go:32
  refine cw_region ?_
  refine ow_step (r_move rfl) rfl ?_
  refine ow_call en30 rfl (c30 _ _ _ _ _ ((hP.old.block _ (lt_of hb)).trans hb)) rfl ?_
  rintro e W ⟨g, rfl, hJ⟩; replace hP := hP.below hJ; clear hJ; refine ⟨_, rfl, ?_⟩
  refine ow_call en29 rfl (c29 _ _) rfl ?_
  rintro e W ⟨rfl, hJ⟩; replace hP := hP.below hJ; clear hJ; refine ⟨_, rfl, ?_⟩
  refine ow_step (r_move rfl) rfl ?_
  refine ow_step (r_extract rfl rfl) rfl ?_
  refine ow_step (r_extract rfl rfl) rfl ?_
  refine ow_var hP rfl (by kernel_rfl) (by simp [Value.oneCell']) rfl ?_
  clear hP; intro b4 W hz hg hP
  refine ow_step (r_assign rfl) rfl ?_
  refine ow_nil ?_
  refine ew_next ?_
  refine cw_seq ?_
  -- region 6 store.go:33
  refine cw_region ?_
  refine ow_step (r_move rfl) rfl ?_
  refine ow_call en31 rfl (c31 _ _) rfl ?_
  rintro e W ⟨rfl, hJ⟩; replace hP := hP.below hJ; clear hJ; refine ⟨_, rfl, ?_⟩
  refine ow_step (r_move rfl) rfl ?_
  refine ow_step (r_extract rfl rfl) rfl ?_
  refine ow_step (r_extract rfl rfl) rfl ?_
  refine ow_var hP rfl (by kernel_rfl) (by simp [Value.oneCell']) rfl ?_
  clear hP; intro b6 W hz hg hP
  refine ow_step (r_assign rfl) rfl ?_
  refine ow_nil ?_
  refine ew_next ?_
  refine cw_seq ?_
  refine cw_block ?_
  refine cw_seq ?_
  -- region 7 store.go:35
  refine cw_region ?_
  refine ow_step (r_move rfl) rfl ?_
  refine ow_step (r_ne rfl rfl) rfl ?_
  refine ow_step (r_move rfl) rfl ?_
  first | (refine ow_pass rfl rfl rfl (by rfl) rfl ?_) | (refine ow_guard rfl rfl rfl (by rfl) ?_; refine ow_step (r_fieldAddr rfl fl86_0) rfl ?_)
  first | (refine ow_pass rfl rfl rfl (by rfl) rfl ?_) | (refine ow_guard rfl rfl rfl (by rfl) ?_; refine ow_step (r_load rfl rfl (hP.cell (i := 1) rfl rfl)) rfl ?_)
  first | (refine ow_pass rfl rfl rfl (by rfl) rfl ?_) | (refine ow_guard rfl rfl rfl (by rfl) ?_; refine ow_step (r_eq rfl rfl) rfl ?_)
  refine ow_step (r_pick rfl rfl rfl) rfl ?_
  refine ow_step (r_assign rfl) rfl ?_
  refine ow_nil ?_
  refine ew_next ?_
  refine cw_false rfl ?_
  refine cw_seq ?_
  refine cw_seq ?_
  -- region 9 store.go:37
  refine cw_region ?_
  refine ow_step (r_move rfl) rfl ?_
  refine ow_step (r_ne rfl rfl) rfl ?_
  refine ow_step (r_assign rfl) rfl ?_
  refine ow_nil ?_
  refine ew_next ?_
  refine cw_false rfl ?_
  -- region 10 store.go:37
  refine cw_region ?_
  refine ow_step (r_fieldAddr rfl fl86_0) rfl ?_
  refine ow_step (r_load rfl rfl (hP.cell (i := 1) rfl rfl)) rfl ?_
  refine ow_step (r_ne rfl rfl) rfl ?_
  refine ow_step (r_move rfl) rfl ?_
  first | (refine ow_pass rfl rfl rfl (by rfl) rfl ?_) | (refine ow_guard rfl rfl rfl (by rfl) ?_; refine ow_step (r_move rfl) rfl ?_)
  refine ow_pass rfl rfl rfl (by rfl) rfl ?_
  first | (refine ow_pass rfl rfl rfl (by rfl) rfl ?_) | (refine ow_guard rfl rfl rfl (by rfl) ?_; refine ow_step (r_not rfl) rfl ?_)
  refine ow_step (r_pick rfl rfl rfl) rfl ?_
  refine ow_step (r_assign rfl) rfl ?_
  refine ow_nil ?_
  refine ew_next ?_
  refine cw_false rfl ?_
  refine cw_skip ?_
  refine ew_block ?_
  refine ew_next ?_
  refine cw_seq ?_
  refine cw_seq ?_
  -- region 12 store.go:40
  refine cw_region ?_
  refine ow_step (r_fieldAddr rfl fl86_0) rfl ?_
  refine ow_step (r_load rfl rfl (hP.cell (i := 1) rfl rfl)) rfl ?_
  refine ow_step (r_ne rfl rfl) rfl ?_
  refine ow_nil ?_
  refine ew_next ?_
  refine cw_false rfl ?_
  refine cw_skip ?_
  refine ew_next ?_
  refine cw_seq ?_
  -- region 16 store.go:45
  refine cw_region ?_
  refine ow_step (r_move rfl) rfl ?_
  refine ow_step (r_loads (c := [.int .i64 0, .int .i64 0, .int .i64 0]) rfl rfl rfl rfl (hP.cells (i := 1) (o := 0) rfl (fun j u hj => by first | (rw [Nat.zero_add]; exact hj) | (simpa using hj)))) rfl ?_
  refine ow_step (r_loads (c := [.slice none 0 0, .int .i64 0, .int .i64 0, .string ⟨#[]⟩]) rfl rfl rfl rfl (hP.cells (i := 0) (o := 0) rfl (fun j u hj => by first | (rw [Nat.zero_add]; exact hj) | (simpa using hj)))) rfl ?_
  refine ow_step (r_build (v := .agg (sto b).toArray) rfl (fun w => by kernel_rfl)) rfl ?_
  refine ow_box (ws := sto b) hP rfl rfl rfl ?_
  clear hP; intro b61 W hz hg hP
  refine ow_step (r_assign rfl) rfl ?_
  refine ow_step (r_assign rfl) rfl ?_
  refine ow_nil ?_
  refine ew_next ?_
  refine cw_ret ?_
  refine ew_rets (rs := [(Go.ResultVar.tmp 2), (Go.ResultVar.tmp 3)]) rfl (by simp) (.tmp rfl (.tmp rfl (.nil))) ⟨_, rfl, hP.sub (by simp)⟩

set_option maxRecDepth 100000 in
theorem c14 (c nm : ByteArray) (w : World) : Calls Tryz.prog 14 #[.string c, .string nm, .int .i64 150] w fun e w' => ∃ b, e = .returned (er b) ∧ HP w w' [(b, flt c nm, 67)] := by
  have hP := HP.start w
  refine calls_cw Tryz.func14 rfl rfl (by simp) ?_
  refine cw_seq ?_
  -- region 0 valise.go:28
  refine cw_region ?_
  refine ow_step (r_assign rfl) rfl ?_
  refine ow_nil ?_
  refine ew_next ?_
  refine cw_seq ?_
  refine cw_seq ?_
  -- region 1 valise.go:29
  refine cw_region ?_
  refine ow_step (r_move rfl) rfl ?_
  refine ow_step (r_eq rfl rfl) rfl ?_
  refine ow_nil ?_
  refine ew_next ?_
  refine cw_false rfl ?_
  refine cw_skip ?_
  refine ew_next ?_
  refine cw_seq ?_
  -- region 3 valise.go:32
  refine cw_region ?_
  refine ow_step (r_move rfl) rfl ?_
  refine ow_step (r_move rfl) rfl ?_
  refine ow_step (r_move rfl) rfl ?_
  refine ow_step (r_build (v := .agg (flt c nm).toArray) rfl (fun w => by kernel_rfl)) rfl ?_
  refine ow_box (ws := flt c nm) hP rfl rfl rfl ?_
  clear hP; intro b13 W hz hg hP
  refine ow_step (r_mki (r := er b13) rfl (fun w => by kernel_rfl)) rfl ?_
  refine ow_step (r_assign rfl) rfl ?_
  refine ow_nil ?_
  refine ew_next ?_
  refine cw_ret ?_
  refine ew_ret1 rfl (.tmp rfl .nil) ⟨_, rfl, hP⟩

set_option maxRecDepth 100000 in
theorem c10 (b g1 g2 m : Nat) (w : World) (hb : w.heap[b]? = some (.cells (dsk g1 g2 m).toArray 76 (0, 0))) : Calls Tryz.prog 10 #[.pointer (some ⟨b, 0, none⟩), .agg #[.int .i64 0, .int .i64 0]] w fun e w' => ∃ v s, e = .returned (.tuple #[.pointer (some ⟨v, 0, none⟩), .nilIface]) ∧ HP w w' [(v, vls b s, 58), (s, sto b, 88)] := by
  have hP := HP.start w
  refine calls_cw Tryz.func10 rfl rfl (by simp) ?_
  refine cw_seq ?_
  -- region 0 valise.go:36
  refine cw_region ?_
  refine ow_box hP rfl rfl rfl ?_
  clear hP; intro b3 W hz hg hP
  refine ow_step (r_assign rfl) rfl ?_
  refine ow_step (r_assign rfl) rfl ?_
  refine ow_nil ?_
  refine ew_next ?_
  refine cw_seq ?_
  refine cw_seq ?_
  -- region 1 valise.go:37
  refine cw_region ?_
  refine ow_step (r_move rfl) rfl ?_
  refine ow_step (r_bin (r := .bool false) rfl rfl (fun w => by kernel_rfl)) rfl ?_
  refine ow_step (r_move rfl) rfl ?_
  first | (refine ow_pass rfl rfl rfl (by rfl) rfl ?_) | (refine ow_guard rfl rfl rfl (by rfl) ?_; refine ow_step (r_fieldAddr rfl fl42_0) rfl ?_)
  first | (refine ow_pass rfl rfl rfl (by rfl) rfl ?_) | (refine ow_guard rfl rfl rfl (by rfl) ?_; refine ow_step (r_load rfl rfl (hP.cell (i := 0) rfl rfl)) rfl ?_)
  first | (refine ow_pass rfl rfl rfl (by rfl) rfl ?_) | (refine ow_guard rfl rfl rfl (by rfl) ?_; refine ow_step (r_lt rfl rfl) rfl ?_)
  refine ow_step (r_pick rfl rfl rfl) rfl ?_
  refine ow_step (r_move rfl) rfl ?_
  first | (refine ow_pass rfl rfl rfl (by rfl) rfl ?_) | (refine ow_guard rfl rfl rfl (by rfl) ?_; refine ow_step (r_fieldAddr rfl fl42_0) rfl ?_)
  first | (refine ow_pass rfl rfl rfl (by rfl) rfl ?_) | (refine ow_guard rfl rfl rfl (by rfl) ?_; refine ow_step (r_load rfl rfl (hP.cell (i := 0) rfl rfl)) rfl ?_)
  first | (refine ow_pass rfl rfl rfl (by rfl) rfl ?_) | (refine ow_guard rfl rfl rfl (by rfl) ?_; refine ow_step (r_gt rfl rfl) rfl ?_)
  refine ow_step (r_pick rfl rfl rfl) rfl ?_
  refine ow_step (r_move rfl) rfl ?_
  first | (refine ow_pass rfl rfl rfl (by rfl) rfl ?_) | (refine ow_guard rfl rfl rfl (by rfl) ?_; refine ow_step (r_fieldAddr rfl fl42_1) rfl ?_)
  first | (refine ow_pass rfl rfl rfl (by rfl) rfl ?_) | (refine ow_guard rfl rfl rfl (by rfl) ?_; refine ow_step (r_load rfl rfl (hP.cell (i := 0) rfl rfl)) rfl ?_)
  first | (refine ow_pass rfl rfl rfl (by rfl) rfl ?_) | (refine ow_guard rfl rfl rfl (by rfl) ?_; refine ow_step (r_lt rfl rfl) rfl ?_)
  refine ow_step (r_pick rfl rfl rfl) rfl ?_
  refine ow_step (r_move rfl) rfl ?_
  first | (refine ow_pass rfl rfl rfl (by rfl) rfl ?_) | (refine ow_guard rfl rfl rfl (by rfl) ?_; refine ow_step (r_fieldAddr rfl fl42_1) rfl ?_)
  first | (refine ow_pass rfl rfl rfl (by rfl) rfl ?_) | (refine ow_guard rfl rfl rfl (by rfl) ?_; refine ow_step (r_load rfl rfl (hP.cell (i := 0) rfl rfl)) rfl ?_)
  first | (refine ow_pass rfl rfl rfl (by rfl) rfl ?_) | (refine ow_guard rfl rfl rfl (by rfl) ?_; refine ow_step (r_gt rfl rfl) rfl ?_)
  refine ow_step (r_pick rfl rfl rfl) rfl ?_
  refine ow_nil ?_
  refine ew_next ?_
  refine cw_false rfl ?_
  refine cw_skip ?_
  refine ew_next ?_
  refine cw_seq ?_
  -- region 3 valise.go:40
  refine cw_region ?_
  refine ow_step (r_move rfl) rfl ?_
  refine ow_call en21 rfl (c21 _ _ _ _ _ ((hP.old.block _ (lt_of hb)).trans hb)) rfl ?_
  rintro e W ⟨s, rfl, hJ⟩; replace hP := hP.push hJ.old (hJ.ge (i := 0) rfl) (hJ.blk (i := 0) rfl); clear hJ; refine ⟨_, rfl, ?_⟩
  refine ow_step (r_move rfl) rfl ?_
  refine ow_step (r_extract rfl rfl) rfl ?_
  refine ow_step (r_extract rfl rfl) rfl ?_
  refine ow_step (r_assign rfl) rfl ?_
  refine ow_step (r_assign rfl) rfl ?_
  refine ow_nil ?_
  refine ew_next ?_
  refine cw_seq ?_
  refine cw_seq ?_
  -- region 4 valise.go:41
  refine cw_region ?_
  refine ow_step (r_move rfl) rfl ?_
  refine ow_step (r_ne rfl rfl) rfl ?_
  refine ow_nil ?_
  refine ew_next ?_
  refine cw_false rfl ?_
  refine cw_skip ?_
  refine ew_next ?_
  refine cw_seq ?_
  -- region 6 valise.go:44
  refine cw_region ?_
  refine ow_step (r_move rfl) rfl ?_
  refine ow_step (r_move rfl) rfl ?_
  refine ow_step (r_loads (c := [.int .i64 0, .int .i64 0]) rfl rfl rfl rfl (hP.cells (i := 1) (o := 0) rfl (fun j u hj => by first | (rw [Nat.zero_add]; exact hj) | (simpa using hj)))) rfl ?_
  refine ow_step (r_build (v := .agg (vls b s).toArray) rfl (fun w => by kernel_rfl)) rfl ?_
  refine ow_box (ws := vls b s) hP rfl rfl rfl ?_
  clear hP; intro b44 W hz hg hP
  refine ow_step (r_assign rfl) rfl ?_
  refine ow_step (r_assign rfl) rfl ?_
  refine ow_nil ?_
  refine ew_next ?_
  refine cw_ret ?_
  refine ew_rets (rs := [(Go.ResultVar.tmp 4), (Go.ResultVar.tmp 5)]) rfl (by simp) (.tmp rfl (.tmp rfl (.nil))) ⟨_, s, rfl, hP.sub (by simp)⟩

set_option maxRecDepth 100000 in
theorem c4  (w : World) : Calls Tryz.prog 4 #[.slice none 0 0, .int .i64 4096] w fun e w' => ∃ b g1 g2 m v s, e = .returned (.tuple #[.pointer (some ⟨b, 0, none⟩), .pointer (some ⟨v, 0, none⟩), .bool true]) ∧ HP w w' [(v, vls b s, 58), (s, sto b, 88), (b, dsk g1 g2 m, 76)] := by
  have hP := HP.start w
  refine calls_cw Tryz.func4 rfl rfl (by simp) ?_
  refine cw_seq ?_
  -- region 0 outright.go:46
  refine cw_region ?_
  refine ow_step (r_assign rfl) rfl ?_
  refine ow_step (r_assign rfl) rfl ?_
  refine ow_step (r_assign rfl) rfl ?_
  refine ow_nil ?_
  refine ew_next ?_
  refine cw_seq ?_
  -- region 1 outright.go:47
  refine cw_region ?_
  refine ow_step (r_move rfl) rfl ?_
  refine ow_call en9 rfl (c9 _) rfl ?_
  rintro e W ⟨rfl, hJ⟩; replace hP := hP.below hJ; clear hJ; refine ⟨_, rfl, ?_⟩
  refine ow_step (r_move rfl) rfl ?_
  refine ow_call en8 rfl (c8 _) rfl ?_
  rintro e W ⟨b, g1, g2, m, rfl, hJ⟩; replace hP := hP.push hJ.old (hJ.ge (i := 0) rfl) (hJ.blk (i := 0) rfl); clear hJ; refine ⟨_, rfl, ?_⟩
  refine ow_step (r_move rfl) rfl ?_
  refine ow_step (r_extract rfl rfl) rfl ?_
  refine ow_step (r_extract rfl rfl) rfl ?_
  refine ow_step (r_assign rfl) rfl ?_
  refine ow_step (r_assign rfl) rfl ?_
  refine ow_nil ?_
  refine ew_next ?_
  refine cw_seq ?_
  refine cw_seq ?_
  -- region 2 outright.go:48
  refine cw_region ?_
  refine ow_step (r_move rfl) rfl ?_
  refine ow_step (r_ne rfl rfl) rfl ?_
  refine ow_step (r_move rfl) rfl ?_
  first | (refine ow_pass rfl rfl rfl (by rfl) rfl ?_) | (refine ow_guard rfl rfl rfl (by rfl) ?_; refine ow_step (r_move rfl) rfl ?_)
  first | (refine ow_pass rfl rfl rfl (by rfl) rfl ?_) | (refine ow_guard rfl rfl rfl (by rfl) ?_; refine ow_step (r_bin (r := .bool false) rfl rfl (fun w => by kernel_rfl)) rfl ?_)
  refine ow_step (r_pick rfl rfl rfl) rfl ?_
  refine ow_nil ?_
  refine ew_next ?_
  refine cw_false rfl ?_
  refine cw_skip ?_
  refine ew_next ?_
  refine cw_seq ?_
  -- region 4 outright.go:51
  refine cw_region ?_
  refine ow_step (r_move rfl) rfl ?_
  refine ow_step (r_build (v := .agg #[.int .i64 0, .int .i64 0]) rfl (fun w => by kernel_rfl)) rfl ?_
  refine ow_call en10 rfl (c10 _ _ _ _ _ (hP.blk (i := 0) rfl)) rfl ?_
  rintro e W ⟨v, s, rfl, hJ⟩; replace hP := hp_push2 hP hJ; clear hJ; refine ⟨_, rfl, ?_⟩
  refine ow_step (r_move rfl) rfl ?_
  refine ow_step (r_extract rfl rfl) rfl ?_
  refine ow_step (r_extract rfl rfl) rfl ?_
  refine ow_step (r_assign rfl) rfl ?_
  refine ow_step (r_assign rfl) rfl ?_
  refine ow_nil ?_
  refine ew_next ?_
  refine cw_seq ?_
  -- region 5 outright.go:52
  refine cw_region ?_
  refine ow_step (r_move rfl) rfl ?_
  refine ow_step (r_move rfl) rfl ?_
  refine ow_step (r_move rfl) rfl ?_
  refine ow_step (r_bin (r := .bool true) rfl rfl (fun w => by kernel_rfl)) rfl ?_
  refine ow_step (r_move rfl) rfl ?_
  first | (refine ow_pass rfl rfl rfl (by rfl) rfl ?_) | (refine ow_guard rfl rfl rfl (by rfl) ?_; refine ow_step (r_move rfl) rfl ?_)
  first | (refine ow_pass rfl rfl rfl (by rfl) rfl ?_) | (refine ow_guard rfl rfl rfl (by rfl) ?_; refine ow_step (r_bin (r := .bool true) rfl rfl (fun w => by kernel_rfl)) rfl ?_)
  refine ow_step (r_pick rfl rfl rfl) rfl ?_
  refine ow_step (r_assign rfl) rfl ?_
  refine ow_step (r_assign rfl) rfl ?_
  refine ow_step (r_assign rfl) rfl ?_
  refine ow_nil ?_
  refine ew_next ?_
  refine cw_ret ?_
  refine ew_rets (rs := [(Go.ResultVar.tmp 4), (Go.ResultVar.tmp 5), (Go.ResultVar.tmp 6)]) rfl (by simp) (.tmp rfl (.tmp rfl (.tmp rfl (.nil)))) ⟨b, g1, g2, m, v, s, rfl, hP⟩

set_option maxRecDepth 100000 in
theorem c25  (w : World) : Calls Tryz.prog 25 #[.slice none 0 0] w fun e w' => e = .returned (.slice none 0 0) ∧ w' = w := by
  have hP := HP.start w
  refine calls_cw Tryz.func25 rfl rfl (by simp) ?_
  refine cw_seq ?_
  -- region 0 slices.go:355
  refine cw_region ?_
  refine ow_step (r_assign rfl) rfl ?_
  refine ow_nil ?_
  refine ew_next ?_
  refine cw_seq ?_
  refine cw_seq ?_
  -- region 1 slices.go:357
  refine cw_region ?_
  refine ow_step (r_move rfl) rfl ?_
  refine ow_step (r_bin (r := .bool true) rfl rfl (fun w => by kernel_rfl)) rfl ?_
  refine ow_nil ?_
  refine ew_next ?_
  refine cw_true rfl ?_
  refine cw_seq ?_
  -- region 2 slices.go:358
  refine cw_region ?_
  refine ow_step (r_assign rfl) rfl ?_
  refine ow_nil ?_
  refine ew_next ?_
  refine cw_ret ?_
  refine ew_then_ret ?_
  refine ew_ret1 rfl (.tmp rfl .nil) ⟨rfl, rfl⟩

set_option maxRecDepth 100000 in
theorem c13 (s b : Nat) (w : World) (hs : w.heap[s]? = some (.cells (sto b).toArray 88 (0, 0))) : Calls Tryz.prog 13 #[.pointer (some ⟨s, 0, none⟩)] w fun e w' => e = .returned (.agg #[.slice none 0 0, .int .i64 0, .int .i64 0, .string ⟨#[]⟩]) ∧ Below w.heap.size w w' := by
  have hP := HP.start w
  refine callsD_cw Tryz.func13 rfl rfl (by simp) ?_
  refine cw_seq ?_
  -- region 0 store.go:59
  refine cw_region ?_
  refine ow_alloc (ws := [.slice none 0 0, .int .i64 0, .int .i64 0, .string ⟨#[]⟩]) hP (by kernel_rfl) rfl ?_
  clear hP; intro b2 W hz hg hP
  refine ow_nil ?_
  refine ew_next ?_
  refine cw_seq ?_
  refine cw_seq ?_
  -- region 1 store.go:60
  refine cw_region ?_
  refine ow_step (r_move rfl) rfl ?_
  refine ow_step (r_bin (r := .bool false) rfl rfl (fun w => by kernel_rfl)) rfl ?_
  refine ow_nil ?_
  refine ew_next ?_
  refine cw_false rfl ?_
  refine cw_skip ?_
  refine ew_next ?_
  refine cw_seq ?_
  -- region 3 store.go:63
  refine cw_region ?_
  refine ow_step (r_move rfl) rfl ?_
  refine ow_step (r_nilCheck rfl) rfl ?_
  refine ow_step (r_fieldAddr rfl fl88_0) rfl ?_
  refine ow_call en23 rfl (Go.MuLone.lock_free Mu.lib ⟨s, 0, none⟩ _ (cellOf ((hP.old.block _ (lt_of hs)).trans hs) rfl) (by simp [World.frozen?, (hP.old.block _ (lt_of hs)).trans hs])) rfl ?_
  rintro e W' ⟨rfl, rfl⟩; refine ⟨_, rfl, ?_⟩
  replace hP := hp_setOld hP (lt_of hs) 0 (.int .i32 1)
  have h1 := set_at hs 0 (.int .i32 1)
  generalize World.setCell W ⟨s, 0, none⟩ _ = W at hP ⊢
  refine ow_nil ?_
  refine ew_next ?_
  refine cw_seq ?_
  -- region 4 store.go:64
  refine cw_region ?_
  refine ow_step (r_move rfl) rfl ?_
  refine ow_step (r_nilCheck rfl) rfl ?_
  refine ow_step (r_fieldAddr rfl fl88_0) rfl ?_
  refine ow_defer rfl ?_
  refine ow_nil ?_
  refine ew_next ?_
  refine cw_seq ?_
  -- region 5 store.go:65
  refine cw_region ?_
  refine ow_step (r_move rfl) rfl ?_
  refine ow_step (r_nilCheck rfl) rfl ?_
  refine ow_step (r_fieldAddr rfl fl88_3) rfl ?_
  refine ow_step (r_loads (c := [.slice none 0 0, .int .i64 0, .int .i64 0, .string ⟨#[]⟩]) rfl rfl rfl rfl (cellsOf ((hP.old.block _ (lt_of h1)).trans h1) (o := 6) (fun j u hj => by match j, hj with | 0, hj => exact hj | 1, hj => exact hj | 2, hj => exact hj | 3, hj => exact hj))) rfl ?_
  refine ow_var hP rfl (by kernel_rfl) (by simp [Value.oneCell']) rfl ?_
  clear hP; intro b3 W hz hg hP
  refine ow_nil ?_
  refine ew_next ?_
  refine cw_seq ?_
  -- region 6 store.go:66
  refine cw_region ?_
  refine ow_step (r_fieldAddr rfl fl55_0) rfl ?_
  refine ow_step (r_load rfl rfl (hP.cell (i := 0) rfl rfl)) rfl ?_
  refine ow_call en25 rfl (c25 _) rfl ?_
  rintro e W' ⟨rfl, rfl⟩; refine ⟨_, rfl, ?_⟩
  refine ow_step (r_fieldAddr rfl fl55_0) rfl ?_
  refine ow_store hP 0 rfl (by simp) rfl rfl rfl rfl rfl ?_
  clear hP; intro W hg hP; dsimp only [List.set] at hP
  refine ow_nil ?_
  refine ew_next ?_
  refine cw_seq ?_
  -- region 7 store.go:67
  refine cw_region ?_
  refine ow_step (r_loads (c := [.slice none 0 0, .int .i64 0, .int .i64 0, .string ⟨#[]⟩]) rfl rfl rfl rfl (hP.cells (i := 0) (o := 0) rfl (fun j u hj => by first | (rw [Nat.zero_add]; exact hj) | (simpa using hj)))) rfl ?_
  refine ow_stores hP 1 rfl (ws := [.slice none 0 0, .int .i64 0, .int .i64 0, .string ⟨#[]⟩]) rfl rfl (by simp [Value.oneCell']) rfl rfl ?_
  clear hP; intro W hg hP; dsimp only [List.set] at hP
  refine ow_nil ?_
  refine ew_next ?_
  refine cw_ret ?_
  refine ew_deferred (by exact fun args w => by kernel_rfl) (Go.MuLone.unlock_deferred Mu.lib ⟨s, 0, none⟩ _ W (cellOf ((hP.old.block _ (lt_of h1)).trans h1) rfl) (by simp [World.frozen?, (hP.old.block _ (lt_of h1)).trans h1])) rfl (.cell _ rfl (run_loadVar_row _ _ 55 55 _ (0, 0) _ ((hp_setOld hP (lt_of h1) 0 (.int .i32 0)).blk (i := 1) rfl) rfl rfl rfl) .nil) ⟨rfl, ?_⟩
  have h2 := set_at h1 0 (.int .i32 0)
  have hb2 : Below w.heap.size w ((w.setCell ⟨s, 0, none⟩ (.int .i32 1)).setCell ⟨s, 0, none⟩ (.int .i32 0)) := below_back hs h2 (by simp) (fun k hk => (Below.heap_setCell _ _ _ _ hk).trans (Below.heap_setCell _ _ _ _ hk))
  exact hb2.trans ((hp_setOld hP (lt_of h1) 0 (.int .i32 0)).old.mono (by simp))

set_option maxRecDepth 100000 in
theorem c12 (nm : ByteArray) (w : World) : Calls Tryz.prog 12 #[.agg #[.slice none 0 0, .int .i64 0, .int .i64 0, .string ⟨#[]⟩], .string nm] w fun e w' => e = .returned (.tuple #[.agg #[.int .i64 0, .int .i64 0, .int .i64 0, .int .i64 0, .int .i64 0, .int .u32 0, .int .i64 0, .int .i64 0, .string ⟨#[]⟩, .string ⟨#[]⟩, .int .i64 0, .int .i64 0, .int .i64 0, .int .i64 0, .int .i64 0, .string ⟨#[]⟩, .string ⟨#[]⟩, .int .i64 0, .int .i64 0, .int .i64 0], .bool false]) ∧ Below w.heap.size w w' := by
  have hP := HP.start w
  refine calls_cw Tryz.func12 rfl rfl (by simp) ?_
  refine cw_seq ?_
  -- region 0 valise.go:115
  refine cw_region ?_
  refine ow_box (ws := [.slice none 0 0, .int .i64 0, .int .i64 0, .string ⟨#[]⟩]) hP rfl rfl rfl ?_
  clear hP; intro b2 W hz hg hP
  refine ow_alloc (ws := [.int .i64 0, .int .i64 0, .int .i64 0, .int .i64 0, .int .i64 0, .int .u32 0, .int .i64 0, .int .i64 0, .string ⟨#[]⟩, .string ⟨#[]⟩, .int .i64 0, .int .i64 0, .int .i64 0, .int .i64 0, .int .i64 0, .string ⟨#[]⟩, .string ⟨#[]⟩, .int .i64 0, .int .i64 0, .int .i64 0]) hP (by kernel_rfl) rfl ?_
  clear hP; intro b4 W hz hg hP
  refine ow_step (r_assign rfl) rfl ?_
  refine ow_nil ?_
  refine ew_next ?_
  refine cw_seq ?_
  refine cw_seq ?_
  -- region 1 valise.go:116
  refine cw_region ?_
  refine ow_step (r_fieldAddr rfl fl55_0) rfl ?_
  refine ow_step (r_load rfl rfl (hP.cell (i := 1) rfl rfl)) rfl ?_
  refine ow_step (r_len rfl (by rfl) rfl) rfl ?_
  refine ow_step (r_move rfl) rfl ?_
  refine ow_nil ?_
  refine ew_next ?_
  refine cw_block ?_
  refine cw_loop (fun _ : Unit => 0) (fun _ => [(10, .int .i64 0), (11, .int .i64 0), (4, .pointer (some ⟨b4, 0, none⟩))]) (fun _ w' => HP w w' [(b4, [.int .i64 0, .int .i64 0, .int .i64 0, .int .i64 0, .int .i64 0, .int .u32 0, .int .i64 0, .int .i64 0, .string ⟨#[]⟩, .string ⟨#[]⟩, .int .i64 0, .int .i64 0, .int .i64 0, .int .i64 0, .int .i64 0, .string ⟨#[]⟩, .string ⟨#[]⟩, .int .i64 0, .int .i64 0, .int .i64 0], 50), (b2, [.slice none 0 0, .int .i64 0, .int .i64 0, .string ⟨#[]⟩], 55)]) () ⟨rfl, rfl, rfl, trivial⟩ hP ?_
  clear hP; rintro u W hP
  · -- round 0
    refine cw_seq ?_
    -- region 2 valise.go:116
    refine cw_region ?_
    refine ow_step (r_lt rfl rfl) rfl ?_
    refine ow_nil ?_
    refine ew_next ?_
    refine cw_seq ?_
    refine cw_false rfl ?_
    refine cw_exit ?_
    refine ew_then_exit ?_
    refine ew_then_exit ?_
    refine ew_block_hit ?_
    refine ew_next ?_
    refine cw_seq ?_
    -- region 7 valise.go:121
    refine cw_region ?_
    refine ow_step (r_build (v := .agg #[.int .i64 0, .int .i64 0, .int .i64 0, .int .i64 0, .int .i64 0, .int .u32 0, .int .i64 0, .int .i64 0, .string ⟨#[]⟩, .string ⟨#[]⟩, .int .i64 0, .int .i64 0, .int .i64 0, .int .i64 0, .int .i64 0, .string ⟨#[]⟩, .string ⟨#[]⟩, .int .i64 0, .int .i64 0, .int .i64 0]) rfl (fun w => by kernel_rfl)) rfl ?_
    refine ow_stores hP 0 rfl (ws := [.int .i64 0, .int .i64 0, .int .i64 0, .int .i64 0, .int .i64 0, .int .u32 0, .int .i64 0, .int .i64 0, .string ⟨#[]⟩, .string ⟨#[]⟩, .int .i64 0, .int .i64 0, .int .i64 0, .int .i64 0, .int .i64 0, .string ⟨#[]⟩, .string ⟨#[]⟩, .int .i64 0, .int .i64 0, .int .i64 0]) rfl rfl (by simp [Value.oneCell']) rfl rfl ?_
    clear hP; intro W hg hP; dsimp only [List.set] at hP
    refine ow_step (r_assign rfl) rfl ?_
    refine ow_nil ?_
    refine ew_next ?_
    refine cw_ret ?_
    refine ew_rets (rs := [(Go.ResultVar.cell 4 50), (Go.ResultVar.tmp 5)]) rfl (by simp) (.cell _ rfl (run_loadVar_row _ _ 50 50 _ (0, 0) _ (hP.blk (i := 0) rfl) rfl rfl rfl) (.tmp rfl (.nil))) ⟨rfl, hP.old⟩

set_option maxRecDepth 100000 in
theorem c11 (v s b g1 g2 m : Nat) (c nm : ByteArray) (w : World) (hv : w.heap[v]? = some (.cells (vls b s).toArray 58 (0, 0))) (hb : w.heap[b]? = some (.cells (dsk g1 g2 m).toArray 76 (0, 0))) : Calls Tryz.prog 11 #[.pointer (some ⟨v, 0, none⟩), .string c, .string nm] w fun e w' => e = .returned .nilIface ∧ w' = w := by
  have hP := HP.start w
  refine calls_cw Tryz.func11 rfl rfl (by simp) ?_
  refine cw_seq ?_
  -- region 0 valise.go:48
  refine cw_region ?_
  refine ow_step (r_assign rfl) rfl ?_
  refine ow_nil ?_
  refine ew_next ?_
  refine cw_seq ?_
  refine cw_block ?_
  refine cw_seq ?_
  -- region 1 valise.go:50
  refine cw_region ?_
  refine ow_step (r_move rfl) rfl ?_
  refine ow_step (r_bin (r := .bool false) rfl rfl (fun w => by kernel_rfl)) rfl ?_
  refine ow_step (r_assign rfl) rfl ?_
  refine ow_nil ?_
  refine ew_next ?_
  refine cw_false rfl ?_
  refine cw_seq ?_
  -- region 3 valise.go:52
  refine cw_region ?_
  refine ow_step (r_move rfl) rfl ?_
  refine ow_step (r_nilCheck rfl) rfl ?_
  refine ow_step (r_fieldAddr rfl fl58_3) rfl ?_
  refine ow_step (r_load rfl rfl (cellOf ((hP.old.block _ (lt_of hv)).trans hv) rfl)) rfl ?_
  refine ow_step (r_assign rfl) rfl ?_
  refine ow_nil ?_
  refine ew_next ?_
  refine cw_false rfl ?_
  refine cw_seq ?_
  -- region 5 valise.go:54
  refine cw_region ?_
  refine ow_step (r_move rfl) rfl ?_
  refine ow_step (r_nilCheck rfl) rfl ?_
  refine ow_step (r_fieldAddr rfl fl58_0) rfl ?_
  refine ow_step (r_load rfl rfl (cellOf ((hP.old.block _ (lt_of hv)).trans hv) rfl)) rfl ?_
  refine ow_call en22 rfl (c22 _ _ _ _ _ ((hP.old.block _ (lt_of hb)).trans hb)) rfl ?_
  rintro e W' ⟨rfl, rfl⟩; refine ⟨_, rfl, ?_⟩
  refine ow_step (r_not rfl) rfl ?_
  refine ow_step (r_assign rfl) rfl ?_
  refine ow_nil ?_
  refine ew_next ?_
  refine cw_false rfl ?_
  refine cw_skip ?_
  refine ew_block ?_
  refine ew_next ?_
  refine cw_seq ?_
  -- region 7 valise.go:57
  refine cw_region ?_
  refine ow_step (r_assign rfl) rfl ?_
  refine ow_nil ?_
  refine ew_next ?_
  refine cw_ret ?_
  refine ew_ret1 rfl (.tmp rfl .nil) ⟨rfl, rfl⟩

set_option maxRecDepth 100000 in
theorem c5 (v s b g1 g2 m : Nat) (nm : ByteArray) (w : World) (hv : w.heap[v]? = some (.cells (vls b s).toArray 58 (0, 0))) (hs : w.heap[s]? = some (.cells (sto b).toArray 88 (0, 0))) (hb : w.heap[b]? = some (.cells (dsk g1 g2 m).toArray 76 (0, 0))) : Calls Tryz.prog 5 #[.pointer (some ⟨v, 0, none⟩), .string nm] w fun e w' => ∃ b, e = .returned (.tuple #[.slice none 0 0, er b]) ∧ HP w w' [(b, flt ⟨#[114, 101, 97, 100]⟩ nm, 67)] := by
  have hP := HP.start w
  refine calls_cw Tryz.func5 rfl rfl (by simp) ?_
  refine cw_seq ?_
  -- region 0 valise.go:137
  refine cw_region ?_
  refine ow_step (r_assign rfl) rfl ?_
  refine ow_step (r_assign rfl) rfl ?_
  refine ow_nil ?_
  refine ew_next ?_
  refine cw_seq ?_
  refine cw_seq ?_
  -- region 1 valise.go:138
  refine cw_region ?_
  refine ow_step (r_move rfl) rfl ?_
  refine ow_step (r_move rfl) rfl ?_
  refine ow_call en11 rfl (c11 _ _ _ _ _ _ _ _ _ ((hP.old.block _ (lt_of hv)).trans hv) ((hP.old.block _ (lt_of hb)).trans hb)) rfl ?_
  rintro e W' ⟨rfl, rfl⟩; refine ⟨_, rfl, ?_⟩
  refine ow_step (r_assign rfl) rfl ?_
  refine ow_nil ?_
  refine ew_next ?_
  refine cw_seq ?_
  -- region 2 valise.go:138
  refine cw_region ?_
  refine ow_step (r_move rfl) rfl ?_
  refine ow_step (r_bin (r := .bool false) rfl rfl (fun w => by kernel_rfl)) rfl ?_
  refine ow_nil ?_
  refine ew_next ?_
  refine cw_false rfl ?_
  refine cw_skip ?_
  refine ew_next ?_
  refine cw_seq ?_
  -- region 4 valise.go:141
  refine cw_region ?_
  refine ow_step (r_move rfl) rfl ?_
  refine ow_step (r_nilCheck rfl) rfl ?_
  refine ow_step (r_fieldAddr rfl fl58_1) rfl ?_
  refine ow_step (r_load rfl rfl (cellOf ((hP.old.block _ (lt_of hv)).trans hv) rfl)) rfl ?_
  refine ow_call en13 rfl (c13 _ _ _ ((hP.old.block _ (lt_of hs)).trans hs)) rfl ?_
  rintro e W ⟨rfl, hJ⟩; replace hP := hP.below hJ; clear hJ; refine ⟨_, rfl, ?_⟩
  refine ow_step (r_move rfl) rfl ?_
  refine ow_call en12 rfl (c12 _ _) rfl ?_
  rintro e W ⟨rfl, hJ⟩; replace hP := hP.below hJ; clear hJ; refine ⟨_, rfl, ?_⟩
  refine ow_step (r_move rfl) rfl ?_
  refine ow_step (r_extract rfl rfl) rfl ?_
  refine ow_step (r_extract rfl rfl) rfl ?_
  refine ow_var hP rfl (by kernel_rfl) (by simp [Value.oneCell']) rfl ?_
  clear hP; intro b7 W hz hg hP
  refine ow_step (r_assign rfl) rfl ?_
  refine ow_nil ?_
  refine ew_next ?_
  refine cw_seq ?_
  refine cw_seq ?_
  -- region 5 valise.go:142
  refine cw_region ?_
  refine ow_step (r_move rfl) rfl ?_
  refine ow_step (r_not rfl) rfl ?_
  refine ow_nil ?_
  refine ew_next ?_
  refine cw_true rfl ?_
  refine cw_seq ?_
  -- region 6 valise.go:143
  refine cw_region ?_
  refine ow_step (r_move rfl) rfl ?_
  refine ow_call en14 rfl (c14 _ _ _) rfl ?_
  rintro e W ⟨b0, rfl, hJ⟩; replace hP := hP.push hJ.old (hJ.ge (i := 0) rfl) (hJ.blk (i := 0) rfl); clear hJ; refine ⟨_, rfl, ?_⟩
  refine ow_step (r_assign rfl) rfl ?_
  refine ow_step (r_assign rfl) rfl ?_
  refine ow_nil ?_
  refine ew_next ?_
  refine cw_ret ?_
  refine ew_then_ret ?_
  refine ew_rets (rs := [(Go.ResultVar.tmp 4), (Go.ResultVar.tmp 5)]) rfl (by simp) (.tmp rfl (.tmp rfl (.nil))) ⟨_, rfl, hP.sub (by simp)⟩

set_option maxRecDepth 100000 in
theorem c6 (b : Nat) (c nm : ByteArray) (w : World) (hb : w.heap[b]? = some (.cells (flt c nm).toArray 67 (0, 0))) : Calls Tryz.prog 6 #[er b] w fun e w' => e = .returned (.tuple #[.int .i64 150, .string c, .string nm]) ∧ Below w.heap.size w w' := by
  have hP := HP.start w
  refine calls_cw Tryz.func6 rfl rfl (by simp) ?_
  refine cw_seq ?_
  -- region 0 valiseplay.go:155
  refine cw_region ?_
  refine ow_step (r_assign rfl) rfl ?_
  refine ow_step (r_assign rfl) rfl ?_
  refine ow_step (r_assign rfl) rfl ?_
  refine ow_nil ?_
  refine ew_next ?_
  refine cw_seq ?_
  refine cw_seq ?_
  -- region 1 valiseplay.go:156
  refine cw_region ?_
  refine ow_step (r_move rfl) rfl ?_
  refine ow_nil ?_
  refine ew_next ?_
  refine cw_block ?_
  refine cw_seq ?_
  -- region 2 valiseplay.go:156
  refine cw_region ?_
  refine ow_step (r_bin (r := .bool false) rfl rfl (fun w => by kernel_rfl)) rfl ?_
  refine ow_nil ?_
  refine ew_next ?_
  refine cw_false rfl ?_
  refine cw_seq ?_
  -- region 5 valiseplay.go:156
  refine cw_region ?_
  refine ow_step (r_assert (r := .tuple #[.pointer (some ⟨b, 0, none⟩), .bool true]) rfl (fun w => by kernel_rfl)) rfl ?_
  refine ow_step (r_extract rfl rfl) rfl ?_
  refine ow_step (r_extract rfl rfl) rfl ?_
  refine ow_nil ?_
  refine ew_next ?_
  refine cw_true rfl ?_
  refine cw_seq ?_
  -- region 6 valiseplay.go:156
  refine cw_region ?_
  refine ow_step (r_assign rfl) rfl ?_
  refine ow_nil ?_
  refine ew_next ?_
  refine cw_seq ?_
  refine cw_seq ?_
  -- region 7 valiseplay.go:160
  refine cw_region ?_
  refine ow_step (r_move rfl) rfl ?_
  refine ow_step (r_bin (r := .bool false) rfl rfl (fun w => by kernel_rfl)) rfl ?_
  refine ow_nil ?_
  refine ew_next ?_
  refine cw_false rfl ?_
  refine cw_skip ?_
  refine ew_next ?_
  refine cw_seq ?_
  -- region 9 DRAWS valiseplay.go:163
  refine cw_quietP hP (by kernel_rfl) (by kernel_rfl) ?_
  refine qw_step (fun w hw => r_move rfl) rfl ?_
  refine qw_step (fun w hw => r_nilCheck rfl) rfl ?_
  refine qw_step (fun w hw => r_fieldAddr rfl fl67_2) rfl ?_
  refine qw_step (fun w1 hw => r_load rfl rfl ((hw.old.cell (p := ⟨b, 2, none⟩) (lt_of hb)).trans (cellOf hb rfl))) rfl ?_
  refine qw_step (fun w hw => r_move rfl) rfl ?_
  refine qw_step (fun w hw => r_nilCheck rfl) rfl ?_
  refine qw_step (fun w hw => r_fieldAddr rfl fl67_0) rfl ?_
  refine qw_step (fun w1 hw => r_load rfl rfl ((hw.old.cell (p := ⟨b, 0, none⟩) (lt_of hb)).trans (cellOf hb rfl))) rfl ?_
  refine qw_step (fun w hw => r_move rfl) rfl ?_
  refine qw_step (fun w hw => r_nilCheck rfl) rfl ?_
  refine qw_step (fun w hw => r_fieldAddr rfl fl67_1) rfl ?_
  refine qw_step (fun w1 hw => r_load rfl rfl ((hw.old.cell (p := ⟨b, 1, none⟩) (lt_of hb)).trans (cellOf hb rfl))) rfl ?_
  refine qw_step (fun w hw => r_assign rfl) rfl ?_
  refine qw_step (fun w hw => r_assign rfl) rfl ?_
  refine qw_step (fun w hw => r_assign rfl) rfl ?_
  clear hP; refine qw_nil (fun W hP => ?_)
  refine ew_next ?_
  refine cw_ret ?_
  refine ew_block_ret ?_
  refine ew_then_ret ?_
  refine ew_rets (rs := [(Go.ResultVar.tmp 2), (Go.ResultVar.tmp 3), (Go.ResultVar.tmp 4)]) rfl (by simp) (.tmp rfl (.tmp rfl (.tmp rfl (.nil)))) ⟨rfl, hP.old⟩

set_option maxRecDepth 100000 in
theorem c3 (nm : ByteArray) (o : Int) (w : World) : Calls Tryz.prog 3 #[.string nm, .int .i64 o] w fun e w' => e = .returned (.bool true) ∧ Below w.heap.size w w' := by
  have hP := HP.start w
  refine calls_cw Tryz.func3 rfl rfl (by simp) ?_
  refine cw_seq ?_
  -- region 0 outright.go:135
  refine cw_region ?_
  refine ow_step (r_assign rfl) rfl ?_
  refine ow_nil ?_
  refine ew_next ?_
  refine cw_seq ?_
  -- region 1 outright.go:136
  refine cw_region ?_
  refine ow_call en4 rfl (c4 _) rfl ?_
  rintro e W ⟨b, g1, g2, m, v, s, rfl, hJ⟩; replace hP := hJ; clear hJ; refine ⟨_, rfl, ?_⟩
  refine ow_step (r_move rfl) rfl ?_
  refine ow_step (r_extract rfl rfl) rfl ?_
  refine ow_step (r_extract rfl rfl) rfl ?_
  refine ow_step (r_extract rfl rfl) rfl ?_
  refine ow_step (r_assign rfl) rfl ?_
  refine ow_step (r_assign rfl) rfl ?_
  refine ow_step (r_assign rfl) rfl ?_
  refine ow_nil ?_
  refine ew_next ?_
  refine cw_seq ?_
  refine cw_seq ?_
  -- region 2 outright.go:137
  refine cw_region ?_
  refine ow_step (r_move rfl) rfl ?_
  refine ow_step (r_not rfl) rfl ?_
  refine ow_nil ?_
  refine ew_next ?_
  refine cw_false rfl ?_
  refine cw_skip ?_
  refine ew_next ?_
  refine cw_seq ?_
  -- region 4 outright.go:140
  refine cw_region ?_
  refine ow_step (r_move rfl) rfl ?_
  refine ow_step (r_move rfl) rfl ?_
  refine ow_call en5 rfl (c5 _ _ _ _ _ _ _ _ (hP.blk (i := 0) rfl) (hP.blk (i := 1) rfl) (hP.blk (i := 2) rfl)) rfl ?_
  rintro e W ⟨b0, rfl, hJ⟩; replace hP := hP.push hJ.old (hJ.ge (i := 0) rfl) (hJ.blk (i := 0) rfl); clear hJ; refine ⟨_, rfl, ?_⟩
  refine ow_step (r_move rfl) rfl ?_
  refine ow_step (r_extract rfl rfl) rfl ?_
  refine ow_step (r_extract rfl rfl) rfl ?_
  refine ow_step (r_assign rfl) rfl ?_
  refine ow_step (r_assign rfl) rfl ?_
  refine ow_nil ?_
  refine ew_next ?_
  refine cw_seq ?_
  -- region 5 outright.go:141
  refine cw_region ?_
  refine ow_step (r_move rfl) rfl ?_
  refine ow_call en6 rfl (c6 _ _ _ _ (hP.blk (i := 0) rfl)) rfl ?_
  rintro e W ⟨rfl, hJ⟩; replace hP := hP.below hJ; clear hJ; refine ⟨_, rfl, ?_⟩
  refine ow_step (r_move rfl) rfl ?_
  refine ow_step (r_extract rfl rfl) rfl ?_
  refine ow_step (r_extract rfl rfl) rfl ?_
  refine ow_step (r_extract rfl rfl) rfl ?_
  refine ow_step (r_assign rfl) rfl ?_
  refine ow_step (r_assign rfl) rfl ?_
  refine ow_step (r_assign rfl) rfl ?_
  refine ow_nil ?_
  refine ew_next ?_
  refine cw_seq ?_
  refine cw_seq ?_
  -- region 6 outright.go:142
  refine cw_region ?_
  refine ow_step (r_move rfl) rfl ?_
  refine ow_step (r_bin (r := .bool false) rfl rfl (fun w => by kernel_rfl)) rfl ?_
  refine ow_step (r_move rfl) rfl ?_
  first | (refine ow_pass rfl rfl rfl (by rfl) rfl ?_) | (refine ow_guard rfl rfl rfl (by rfl) ?_; refine ow_step (r_move rfl) rfl ?_)
  first | (refine ow_pass rfl rfl rfl (by rfl) rfl ?_) | (refine ow_guard rfl rfl rfl (by rfl) ?_; refine ow_step (r_ne rfl rfl) rfl ?_)
  refine ow_step (r_pick rfl rfl rfl) rfl ?_
  refine ow_step (r_move rfl) rfl ?_
  first | (refine ow_pass rfl rfl rfl (by rfl) rfl ?_) | (refine ow_guard rfl rfl rfl (by rfl) ?_; refine ow_step (r_move rfl) rfl ?_)
  first | (refine ow_pass rfl rfl rfl (by rfl) rfl ?_) | (refine ow_guard rfl rfl rfl (by rfl) ?_; refine ow_step (r_sneS rfl rfl) rfl ?_)
  refine ow_step (r_pick rfl rfl rfl) rfl ?_
  refine ow_step (r_move rfl) rfl ?_
  first | (refine ow_pass rfl rfl rfl (by rfl) rfl ?_) | (refine ow_guard rfl rfl rfl (by rfl) ?_; refine ow_step (r_move rfl) rfl ?_)
  first | (refine ow_pass rfl rfl rfl (by rfl) rfl ?_) | (refine ow_guard rfl rfl rfl (by rfl) ?_; refine ow_step (r_move rfl) rfl ?_)
  first | (refine ow_pass rfl rfl rfl (by rfl) rfl ?_) | (refine ow_guard rfl rfl rfl (by rfl) ?_; refine ow_step (r_sneS rfl rfl) rfl ?_)
  refine ow_step (r_pick rfl rfl rfl) rfl ?_
  refine ow_nil ?_
  refine ew_next ?_
  refine cw_false rfl ?_
  refine cw_skip ?_
  refine ew_next ?_
  refine cw_seq ?_
  -- region 8 outright.go:145
  refine cw_region ?_
  refine ow_step (r_move rfl) rfl ?_
  refine ow_step (r_move rfl) rfl ?_
  refine ow_step (r_mki (r := .iface 34 (.int .i64 o)) rfl (fun w => by kernel_rfl)) rfl ?_
  refine ow_call en7 rfl (Is.is_fault b0 150 o _ (hP.cell (i := 0) rfl rfl)) rfl ?_
  rintro e W' ⟨rfl, rfl⟩; refine ⟨_, rfl, ?_⟩
  refine ow_step (r_move rfl) rfl ?_
  refine ow_step (r_eq rfl rfl) rfl ?_
  refine ow_step (r_beq rfl rfl rfl) rfl ?_
  refine ow_step (r_assign rfl) rfl ?_
  refine ow_nil ?_
  refine ew_next ?_
  refine cw_ret ?_
  refine ew_ret1 rfl (.tmp rfl .nil) ⟨congrArg (fun b => Ending.returned (.bool b)) ?_, hP.old⟩
  by_cases ho : o = 150
  · subst ho; rfl
  · have h1 : ((150 : Int) == o) = false := by simpa using fun e : (150 : Int) = o => ho e.symm
    rw [h1]; simp [ho]
end Go.Proofs.YtfpacoihmimmcaaGreatDoor.Vf
