/- Own walks and lemmas, those that this claim leans on: Sx, St. -/
import Derived.Test.YtlhmbncalonomaaDoorWWords
import Derived.Test.YtlhmbncalonomaaDoorWMore
import Derived.Deep.MidRow
import Derived.OrdersHeld
import Derived.Deep.Quiet
import Derived.IntWalk
import Derived.Lib.BufferWrite
import Derived.Laws.Tables
import Derived.Deep.WholeRow
import Derived.Laws.MakeOwn
import Derived.Laws.OwnMore
import Derived.Laws.AppendOwn
import Derived.Laws.BytesArg
namespace Go.Proofs.YtlhmbncalonomaaDoor.Sx
open Go.RowKit Go.Proofs.YtlhmbncalonomaaDoorW.PrintWords
set_option linter.unusedVariables false
set_option linter.unusedSimpArgs false
def get : List (Nat × Value) → Nat → Option Value
  | [], _ => none
  | (k, v) :: r, n => bif Nat.beq k n then some v else get r n
def sv (sl : List (Nat × Value)) : Operand → Option Value
  | .tmp t => get sl t
  | .const v => some v
  | .global g => some (.pointer (some ⟨g, 0, none⟩))
  | .func f => some (.func (.func f) #[] #[])
def svs (sl : List (Nat × Value)) : List Operand → Option (List Value)
  | [] => some []
  | x :: r => match sv sl x with
    | some v => match svs sl r with
      | some vs => some (v :: vs)
      | none => none
    | none => none
structure Fits (n : Nat) (sl : List (Nat × Value)) (a : Act) : Prop where
  defers : a.defers = []
  size : a.tmps.size = n
  at_ : ∀ t v, get sl t = some v → a.tmps.getD t undef = v
theorem Fits.ev {n : Nat} {sl : List (Nat × Value)} {a : Act} (h : Fits n sl a) {x : Operand} {v : Value} (e : sv sl x = some v) : a.eval x = v := by
  cases x with
  | tmp t => exact h.at_ t v e
  | const u => simp only [sv, Option.some.injEq] at e; exact e
  | global g => simp only [sv, Option.some.injEq] at e; exact e
  | func f => simp only [sv, Option.some.injEq] at e; exact e
theorem Fits.evs {n : Nat} {sl : List (Nat × Value)} {a : Act} (h : Fits n sl a) : ∀ {xs : List Operand} {vs : List Value}, svs sl xs = some vs → xs.map a.eval = vs
  | [], vs, e => by simp only [svs, Option.some.injEq] at e; simp [← e]
  | x :: r, vs, e => by
    simp only [svs] at e
    split at e
    · rename_i v hv
      split at e
      · rename_i us hu
        simp only [Option.some.injEq] at e
        rw [← e, List.map_cons, h.ev hv, h.evs hu]
      · cases e
    · cases e
theorem Fits.put {n : Nat} {sl : List (Nat × Value)} {a : Act} (h : Fits n sl a) {d : Nat} (hd : Nat.blt d n = true) (v : Value) : Fits n ((d, v) :: sl) (a.put (some d) v) := by
  have hd' : d < n := Nat.lt_of_succ_le (Nat.le_of_ble_eq_true hd)
  refine ⟨h.defers, by simp [Act.put, h.size], fun t u e => ?_⟩
  simp only [get] at e
  by_cases ht : d = t
  · subst ht
    simp at e
    subst e
    simp [Act.put, h.size, hd']
  · have : Nat.beq d t = false := by
      cases hb : Nat.beq d t with
      | false => rfl
      | true => exact absurd (Nat.eq_of_beq_eq_true hb) ht
    rw [this] at e
    have e' := h.at_ t u e
    simp only [Act.put, Array.getD_eq_getD_getElem?] at e' ⊢
    rw [Array.getElem?_setIfInBounds_ne ht]
    exact e'
def subs : List (Nat × Value) → List (Nat × Value) → Prop
  | [], _ => True
  | (k, v) :: r, sl => get sl k = some v ∧ subs r sl
theorem subs_get {sl : List (Nat × Value)} : ∀ {S : List (Nat × Value)}, subs S sl → ∀ t v, get S t = some v → get sl t = some v
  | [], _, t, v, e => by simp [get] at e
  | (k, u) :: r, h, t, v, e => by
    simp only [get] at e
    cases hb : Nat.beq k t with
    | true =>
      rw [hb] at e
      obtain rfl := Nat.eq_of_beq_eq_true hb
      simp at e
      rw [← e]
      exact h.1
    | false =>
      rw [hb] at e
      exact subs_get h.2 t v e
theorem Fits.sub {n : Nat} {sl S : List (Nat × Value)} {a : Act} (h : Fits n sl a) (hs : subs S sl) : Fits n S a :=
  ⟨h.defers, h.size, fun t v e => h.at_ t v (subs_get hs t v e)⟩
def CW (P : Program) (c : Code) (Q : Exit → Act → World → Prop) (n : Nat) (sl : List (Nat × Value)) (w : World) : Prop := ∀ a, Fits n sl a → c.wp P Q a w
def OW (P : Program) (ops : Array Oper) (Q : Exit → Act → World → Prop) (rest : List Oper) (n : Nat) (sl : List (Nat × Value)) (w : World) : Prop := ∀ a, Fits n sl a → wpList P ops Q rest a w
def EW (Q : Exit → Act → World → Prop) (e : Exit) (n : Nat) (sl : List (Nat × Value)) (w : World) : Prop := ∀ a, Fits n sl a → Q e a w
section
variable {P : Program} {Q : Exit → Act → World → Prop} {n : Nat} {sl : List (Nat × Value)} {w : World} {x y : Code}
theorem CW.sub {S : List (Nat × Value)} (h : CW P x Q n S w) (hs : subs S sl) : CW P x Q n sl w := fun a ha => h a (ha.sub hs)
theorem cw_seq (h : CW P x (Exit.then (fun a w => y.wp P Q a w) Q) n sl w) : CW P (.seq x y) Q n sl w := fun a ha => wp_seq (h a ha)
theorem cw_skip (h : EW Q .normal n sl w) : CW P .skip Q n sl w := fun a ha => wp_skip (h a ha)
theorem cw_ret (h : EW Q .ret n sl w) : CW P .ret Q n sl w := fun a ha => wp_ret (h a ha)
theorem cw_exit {id : Nat} (h : EW Q (.exit id) n sl w) : CW P (.exit id) Q n sl w := fun a ha => wp_exit (h a ha)
theorem cw_block {id : Nat} (h : CW P x (Exit.inBlock id Q) n sl w) : CW P (.block id x) Q n sl w := fun a ha => wp_block (h a ha)
theorem cw_cond {c : Operand} {t : Bool} (hc : sv sl c = some (.bool t)) (ht : t = true → CW P x Q n sl w) (hf : t = false → CW P y Q n sl w) : CW P (.cond c x y) Q n sl w :=
  fun a ha => wp_cond_split (ha.ev hc) (fun h => ht h a ha) (fun h => hf h a ha)
theorem cw_true {c : Operand} (hc : sv sl c = some (.bool true)) (h : CW P x Q n sl w) : CW P (.cond c x y) Q n sl w := fun a ha => wp_cond_true (ha.ev hc) (h a ha)
theorem cw_false {c : Operand} (hc : sv sl c = some (.bool false)) (h : CW P y Q n sl w) : CW P (.cond c x y) Q n sl w := fun a ha => wp_cond_false (ha.ev hc) (h a ha)
theorem cw_region {id : Nat} {l : List Oper} (h : OW P l.toArray Q l n sl w) : CW P (.region id l.toArray false) Q n sl w := fun a ha => wp_region_lit (h a ha)
theorem ow_nil {ops : Array Oper} (h : EW Q .normal n sl w) : OW P ops Q [] n sl w := fun a ha => wpList_nil (h a ha)
theorem cw_cut {α : Type} (S : α → List (Nat × Value)) (I : α → World → Prop) (h1 : CW P x (Exit.then (fun a w => ∃ u, Fits n (S u) a ∧ I u w) Q) n sl w) (h2 : ∀ u w, I u w → CW P y Q n (S u) w) : CW P (.seq x y) Q n sl w :=
  fun a ha => wp_seq (wp_mono (h1 a ha) (fun e a w hq => by
    cases e with
    | normal => obtain ⟨u, hf, hi⟩ := hq; exact h2 u w hi a hf
    | _ => exact hq))
theorem cw_loop {α : Type} (m : α → Nat) (S : α → List (Nat × Value)) (I : α → World → Prop) (x0 : α) (hs : subs (S x0) sl) (h0 : I x0 w)
    (round : ∀ u w, I u w → CW P x (Exit.then (fun a' w' => ∃ y, Fits n (S y) a' ∧ I y w' ∧ m y < m u) Q) n (S u) w) : CW P (.loop x) Q n sl w := fun a ha => by
  intro b k cs
  have key : ∀ N a w u, m u = N → Fits n (S u) a → I u w →
      ∃ e a' w', Q e a' w' ∧ Arrives P (lone (b.at a (.code x :: .inLoop x :: k)) cs w) b k cs e a' w' := by
    intro N
    induction N using Nat.strongRecOn with
    | _ N ih =>
      intro a w u hn hf hI
      obtain ⟨e, a₁, w₁, hq, harr⟩ := round u w hI a hf b (.inLoop x :: k) cs
      cases e with
      | normal =>
        obtain ⟨y, hf₁, hI₁, hlt⟩ := hq
        obtain ⟨e₂, a₂, w₂, hq₂, harr₂⟩ := ih (m y) (hn ▸ hlt) a₁ w₁ y rfl hf₁ hI₁
        exact ⟨e₂, a₂, w₂, hq₂, .of_steps (Steps.trans harr (.one step_inLoop)) harr₂⟩
      | exit id => exact ⟨_, a₁, w₁, hq, .pass (x := .inLoop x) rfl (fun _ _ => .inl (by simp)) harr⟩
      | goto l => exact ⟨_, a₁, w₁, hq, .pass (x := .inLoop x) rfl (fun _ _ => .inl (by simp)) harr⟩
      | ret => exact ⟨_, a₁, w₁, hq, .pass (x := .inLoop x) rfl (fun _ _ => .inl (by simp)) harr⟩
      | panic ch => exact ⟨_, a₁, w₁, hq, .pass (x := .inLoop x) rfl (fun _ _ => .inl (by simp)) harr⟩
      | outgrown => exact ⟨_, a₁, w₁, hq, .pass (x := .inLoop x) rfl (fun _ _ => .inl (by simp)) harr⟩
  obtain ⟨e, a', w', hq, harr⟩ := key _ a w x0 rfl (ha.sub hs) h0
  exact ⟨e, a', w', hq, .of_steps (.one step_loop) harr⟩
theorem EW.sub {S : List (Nat × Value)} {e : Exit} (h : EW Q e n S w) (hs : subs S sl) : EW Q e n sl w := fun a ha => h a (ha.sub hs)
theorem ew_next (h : CW P y Q n sl w) : EW (Exit.then (fun a w => y.wp P Q a w) Q) .normal n sl w := fun a ha => h a ha
theorem ew_then_ret {K : Act → World → Prop} (h : EW Q .ret n sl w) : EW (Exit.then K Q) .ret n sl w := fun a ha => h a ha
theorem ew_then_exit {K : Act → World → Prop} {id : Nat} (h : EW Q (.exit id) n sl w) : EW (Exit.then K Q) (.exit id) n sl w := fun a ha => h a ha
theorem ew_block {id : Nat} (h : EW Q .normal n sl w) : EW (Exit.inBlock id Q) .normal n sl w := fun a ha => h a ha
theorem ew_block_ret {id : Nat} (h : EW Q .ret n sl w) : EW (Exit.inBlock id Q) .ret n sl w := fun a ha => h a ha
theorem ew_block_hit {id : Nat} (h : EW Q .normal n sl w) : EW (Exit.inBlock id Q) (.exit id) n sl w := fun a ha => by
  show if id = id then Q .normal a w else Q (.exit id) a w
  rw [if_pos rfl]
  exact h a ha
theorem ew_round {α : Type} {m : α → Nat} {S : α → List (Nat × Value)} {I : α → World → Prop} {u : α} (y : α) (hs : subs (S y) sl) (hI : I y w) (hm : m y < m u) :
    EW (Exit.then (fun a' w' => ∃ y, Fits n (S y) a' ∧ I y w' ∧ m y < m u) Q) .normal n sl w := fun a ha => ⟨y, ha.sub hs, hI, hm⟩
theorem ew_cut {α : Type} {S : α → List (Nat × Value)} {I : α → World → Prop} (y : α) (hs : subs (S y) sl) (hI : I y w) :
    EW (Exit.then (fun a w => ∃ u, Fits n (S u) a ∧ I u w) Q) .normal n sl w := fun a ha => ⟨y, ha.sub hs, hI⟩
variable {fn : Func} {R : Ending → World → Prop}
inductive RV (P : Program) (sl : List (Nat × Value)) (w : World) : List ResultVar → List Value → Prop where
  | nil : RV P sl w [] []
  | tmp {u : Tmp} {v : Value} {rs : List ResultVar} {vs : List Value} (h : get sl u = some v) (r : RV P sl w rs vs) : RV P sl w (.tmp u :: rs) (v :: vs)
  | cell {p : Tmp} {ty : TypeId} {rs : List ResultVar} {vs : List Value} (g : Nat) (t : TypeId) (cs : Array Value) (fr : Nat × Nat) (d : TypeDesc)
      (hp : get sl p = some (.pointer (some ⟨g, 0, none⟩))) (hg : w.heap[g]? = some (.cells cs t fr))
      (hu : P.underlying ty = some d) (hd : (match d with | .struct _ | .array _ _ => true | _ => false) = true) (hi : (P.info? ty).map (·.size) = some cs.size)
      (r : RV P sl w rs vs) : RV P sl w (.cell p ty :: rs) (.agg cs :: vs)
theorem RV.vals {a : Act} (ha : Fits n sl a) {rs : List ResultVar} {vs : List Value} (h : RV P sl w rs vs) : Vals P a.tmps w rs vs := by
  induction h with
  | nil => exact .nil
  | tmp h r ih => rw [← ha.at_ _ _ h]; exact .tmp ih
  | cell g t cs fr d hp hg hu hd hi r ih => exact .cell g t cs fr d (ha.at_ _ _ hp) hg hu hd hi ih
theorem ew_ret1 {r : ResultVar} {v : Value} (hr : fn.results = #[r]) (hv : RV P sl w [r] [v]) (h : R (.returned v) w) : EW (bodyPost P fn R) .ret n sl w := fun a ha => ⟨ha.defers, v, results_single hr (hv.vals ha), h⟩
theorem ew_rets {rs : List ResultVar} {vs : List Value} (hr : fn.results = rs.toArray) (hl : vs.length ≠ 1) (hv : RV P sl w rs vs) (h : R (.returned (.tuple vs.toArray)) w) : EW (bodyPost P fn R) .ret n sl w := fun a ha => ⟨ha.defers, _, results_list hr hl (hv.vals ha), h⟩
def enum : Nat → List Value → List (Nat × Value)
  | _, [] => []
  | k, v :: r => (k, v) :: enum (k + 1) r
theorem enum_get (t : Nat) (v : Value) : ∀ (k : Nat) (vs : List Value), get (enum k vs) t = some v → k ≤ t ∧ vs[t - k]? = some v
  | k, [], e => by simp [enum, get] at e
  | k, u :: r, e => by
    simp only [enum, get] at e
    cases hb : Nat.beq k t with
    | true =>
      rw [hb] at e
      obtain rfl := Nat.eq_of_beq_eq_true hb
      simp at e
      simp [e]
    | false =>
      rw [hb] at e
      obtain ⟨h1, h2⟩ := enum_get t v (k + 1) r e
      refine ⟨by omega, ?_⟩
      rw [show t - k = (t - (k + 1)) + 1 by omega, List.getElem?_cons_succ]
      exact h2
theorem calls_cw {f : FuncId} {c : Code} {vs : List Value} (hf : P.funcs[f]? = some fn) (hb : fn.body = some c) (hn : fn.ntmps = n) (hs : vs.length ≤ n) (h : CW P c (bodyPost P fn R) n (enum 0 vs) w) : Calls P f vs.toArray w R :=
  calls_of_wp hf hb (h _ ⟨rfl, by simp; omega, fun t v e => by
    obtain ⟨_, h2⟩ := enum_get t v 0 vs e
    have hl := (List.getElem?_eq_some_iff.1 h2).1
    simp only [Nat.sub_zero] at h2 hl
    simp [Array.getD_eq_getD_getElem?, Array.getElem?_append, hl]
    exact (List.getElem?_eq_some_iff.1 h2).2⟩)
end
def Runs (P : Program) (o : Oper) (n : Nat) (sl : List (Nat × Value)) (w : World) (v : Value) (w' : World) : Prop := ∀ a, Fits n sl a → (execOp a.eval o).run P w = .ok (.value v) w'
def RunsU (P : Program) (o : Oper) (n : Nat) (sl : List (Nat × Value)) (w w' : World) : Prop := ∀ a, Fits n sl a → (execOp a.eval o).run P w = .ok .skip w'
section
variable {P : Program} {Q : Exit → Act → World → Prop} {n : Nat} {sl : List (Nat × Value)} {w w' : World} {ops : Array Oper} {rest : List Oper} {d : Nat} {op : Op} {ty : TypeId} {pos : String} {aft : Array Edge} {v : Value}
theorem ow_step (hr : Runs P ⟨some d, op, ty, pos, aft, none⟩ n sl w v w') (hd : Nat.blt d n = true) (h : OW P ops Q rest n ((d, v) :: sl) w') : OW P ops Q (⟨some d, op, ty, pos, aft, none⟩ :: rest) n sl w := fun a ha => by
  refine wpList_plain rfl fun K hK => ?_
  unfold Oper.wp
  rw [hr a ha]
  exact hK _ _ (h _ (ha.put hd v))
theorem ow_unit (hr : RunsU P ⟨none, op, ty, pos, aft, none⟩ n sl w w') (h : OW P ops Q rest n sl w') : OW P ops Q (⟨none, op, ty, pos, aft, none⟩ :: rest) n sl w := fun a ha => by
  refine wpList_plain rfl fun K hK => ?_
  unfold Oper.wp
  rw [hr a ha]
  exact hK _ _ (h _ ha)
theorem wanted_at {a : Act} (ha : Fits n sl a) {o : Oper} {ops : Array Oper} {j : Nat} {b want : Bool} {t : Nat} (hg : o.guard = some (j, want)) (hd : (ops[j]?).bind (·.dst) = some t) (hv : get sl t = some (.bool b)) (hs : Nat.blt t n = true) : Region.wanted o (yielded ops a.tmps) = (b == want) := by
  have hs' : t < n := Nat.lt_of_succ_le (Nat.le_of_ble_eq_true hs)
  have h1 := ha.at_ t _ hv
  have h2 : a.tmps[t]? = some (.bool b) := by
    rw [Array.getD_eq_getD_getElem?, Array.getElem?_eq_getElem (by rw [ha.size]; exact hs')] at h1
    rw [Array.getElem?_eq_getElem (by rw [ha.size]; exact hs')]
    exact congrArg some h1
  simp [Region.wanted, hg, yielded, hd, h2]
theorem ow_guard {dst : Option Tmp} {j : Nat} {b want : Bool} {t : Nat} (hd : (ops[j]?).bind (·.dst) = some t) (hv : get sl t = some (.bool b)) (hs : Nat.blt t n = true) (hb : (b == want) = true)
    (h : OW P ops Q (⟨dst, op, ty, pos, aft, none⟩ :: rest) n sl w) : OW P ops Q (⟨dst, op, ty, pos, aft, some (j, want)⟩ :: rest) n sl w := fun a ha => by
  have h1 := h a ha
  have h2 := wanted_at (o := ⟨dst, op, ty, pos, aft, some (j, want)⟩) ha rfl hd hv hs
  unfold wpList at h1 ⊢
  rw [h2, hb, if_pos rfl]
  rw [if_pos (by rfl)] at h1
  exact h1
theorem ow_pass {j : Nat} {b want : Bool} {t : Nat} (hd : (ops[j]?).bind (·.dst) = some t) (hv : get sl t = some (.bool b)) (hs : Nat.blt t n = true) (hb : (b == want) = false) (hn : Nat.blt d n = true)
    (h : OW P ops Q rest n ((d, undef) :: sl) w) : OW P ops Q (⟨some d, op, ty, pos, aft, some (j, want)⟩ :: rest) n sl w := fun a ha => by
  have h2 := wanted_at (o := ⟨some d, op, ty, pos, aft, some (j, want)⟩) ha rfl hd hv hs
  unfold wpList
  rw [h2, hb, if_neg (by simp)]
  exact h _ (ha.put hn undef)
end
section
variable {P : Program} {n : Nat} {sl : List (Nat × Value)} {w : World} {dst : Option Tmp} {ty t t2 : TypeId} {pos : String} {aft : Array Edge} {g : Option (Nat × Bool)} {v u : Value} {x y : Operand}
theorem r_move (hx : sv sl x = some v) : Runs P ⟨dst, .move x, ty, pos, aft, g⟩ n sl w v w := fun a ha => by simp [execOp, ha.ev hx]
theorem r_assign (hx : sv sl x = some v) : Runs P ⟨dst, .assign x, ty, pos, aft, g⟩ n sl w v w := fun a ha => by simp [execOp, ha.ev hx]
theorem r_extract {vs : Array Value} {i : Nat} (hx : sv sl x = some (.tuple vs)) (hv : vs[i]? = some v) : Runs P ⟨dst, .extract x i, ty, pos, aft, g⟩ n sl w v w := fun a ha => by
  simp [execOp, ha.ev hx, Instr.extract, hv]
theorem r_pick {c : Operand} {b : Bool} (hc : sv sl c = some (.bool b)) (hx : sv sl x = some v) (hy : sv sl y = some u) : Runs P ⟨dst, .pick c x y, ty, pos, aft, g⟩ n sl w (if b then v else u) w := fun a ha => by
  simp [execOp, ha.ev hc, ha.ev hx, ha.ev hy, asBool]
theorem r_not {b : Bool} (hx : sv sl x = some (.bool b)) : Runs P ⟨dst, .unOp .not t x, ty, pos, aft, g⟩ n sl w (.bool (!b)) w := fun a ha => by
  simp [execOp, ha.ev hx, unary_not]
section
variable {a b : Int} {k : IntKind}
theorem r_add (hx : sv sl x = some (.int k a)) (hy : sv sl y = some (.int k b)) : Runs P ⟨dst, .binOp .add t x y t2, ty, pos, aft, g⟩ n sl w (.int k (k.wrap (a + b))) w := fun f hf => by
  simp [execOp, hf.ev hx, hf.ev hy, eqGuard_add, binOp_add, Op.intArith]
theorem r_sub (hx : sv sl x = some (.int k a)) (hy : sv sl y = some (.int k b)) : Runs P ⟨dst, .binOp .sub t x y t2, ty, pos, aft, g⟩ n sl w (.int k (k.wrap (a - b))) w := fun f hf => by
  simp [execOp, hf.ev hx, hf.ev hy, eqGuard_sub, binOp_sub, Op.intArith]
theorem r_mul (hx : sv sl x = some (.int k a)) (hy : sv sl y = some (.int k b)) : Runs P ⟨dst, .binOp .mul t x y t2, ty, pos, aft, g⟩ n sl w (.int k (k.wrap (a * b))) w := fun f hf => by
  simp [execOp, hf.ev hx, hf.ev hy, eqGuard_mul, binOp_mul, Op.intArith]
theorem i_add (hx : sv sl x = some (.int .i64 a)) (hy : sv sl y = some (.int .i64 b)) (h : -9223372036854775808 ≤ a + b ∧ a + b ≤ 9223372036854775807) : Runs P ⟨dst, .binOp .add t x y t2, ty, pos, aft, g⟩ n sl w (.int .i64 (a + b)) w := by
  have := r_add (P := P) (n := n) (w := w) (dst := dst) (ty := ty) (t := t) (t2 := t2) (pos := pos) (aft := aft) (g := g) hx hy
  rwa [IntWalk.i64_in _ h] at this
theorem i_sub (hx : sv sl x = some (.int .i64 a)) (hy : sv sl y = some (.int .i64 b)) (h : -9223372036854775808 ≤ a - b ∧ a - b ≤ 9223372036854775807) : Runs P ⟨dst, .binOp .sub t x y t2, ty, pos, aft, g⟩ n sl w (.int .i64 (a - b)) w := by
  have := r_sub (P := P) (n := n) (w := w) (dst := dst) (ty := ty) (t := t) (t2 := t2) (pos := pos) (aft := aft) (g := g) hx hy
  rwa [IntWalk.i64_in _ h] at this
theorem i_mul (hx : sv sl x = some (.int .i64 a)) (hy : sv sl y = some (.int .i64 b)) (h : -9223372036854775808 ≤ a * b ∧ a * b ≤ 9223372036854775807) : Runs P ⟨dst, .binOp .mul t x y t2, ty, pos, aft, g⟩ n sl w (.int .i64 (a * b)) w := by
  have := r_mul (P := P) (n := n) (w := w) (dst := dst) (ty := ty) (t := t) (t2 := t2) (pos := pos) (aft := aft) (g := g) hx hy
  rwa [IntWalk.i64_in _ h] at this
theorem i_quo (hx : sv sl x = some (.int .i64 a)) (hy : sv sl y = some (.int .i64 b)) (h : 0 ≤ a ∧ a ≤ 9223372036854775807 ∧ 1 ≤ b) : Runs P ⟨dst, .binOp .quo t x y t2, ty, pos, aft, g⟩ n sl w (.int .i64 (a / b)) w := fun f hf => by
  have h0 : b ≠ 0 := by omega
  simp [execOp, hf.ev hx, hf.ev hy, eqGuard_quo, binOp_quo, Op.intDiv, h0, IntWalk.i64_quo a b h]
theorem r_lt (hx : sv sl x = some (.int k a)) (hy : sv sl y = some (.int k b)) : Runs P ⟨dst, .binOp .lss t x y t2, ty, pos, aft, g⟩ n sl w (.bool (decide (a < b))) w := fun f hf => by
  simp [execOp, hf.ev hx, hf.ev hy, eqGuard_lss, binOp_lss]
theorem r_gt (hx : sv sl x = some (.int k a)) (hy : sv sl y = some (.int k b)) : Runs P ⟨dst, .binOp .gtr t x y t2, ty, pos, aft, g⟩ n sl w (.bool (decide (b < a))) w := fun f hf => by
  simp [execOp, hf.ev hx, hf.ev hy, eqGuard_gtr, binOp_gtr]
theorem r_ge (hx : sv sl x = some (.int k a)) (hy : sv sl y = some (.int k b)) : Runs P ⟨dst, .binOp .geq t x y t2, ty, pos, aft, g⟩ n sl w (.bool (decide (b ≤ a))) w := fun f hf => by
  simp [execOp, hf.ev hx, hf.ev hy, eqGuard_geq, binOp_geq]
theorem r_eq (hx : sv sl x = some (.int k a)) (hy : sv sl y = some (.int k b)) : Runs P ⟨dst, .binOp .eql t x y t2, ty, pos, aft, g⟩ n sl w (.bool (decide (a = b))) w := fun f hf => by
  simp [execOp, hf.ev hx, hf.ev hy, eqGuard_at_int, binOp_eql]
  by_cases h : a = b <;> simp [h]
theorem r_ne (hx : sv sl x = some (.int k a)) (hy : sv sl y = some (.int k b)) : Runs P ⟨dst, .binOp .neq t x y t2, ty, pos, aft, g⟩ n sl w (.bool (decide (a ≠ b))) w := fun f hf => by
  simp [execOp, hf.ev hx, hf.ev hy, eqGuard_at_int, binOp_neq]
  by_cases h : a = b <;> simp [h]
theorem r_conv (hx : sv sl x = some (.int k a)) (hs : (P.underlying t).isSome = true) {k2 : IntKind} (hd : P.underlying t2 = some (.int k2)) : Runs P ⟨dst, .convert t t2 x, ty, pos, aft, g⟩ n sl w (.int k2 (k2.wrap a)) w := fun f hf => by
  obtain ⟨d, hd'⟩ := Option.isSome_iff_exists.mp hs
  simp [execOp, hf.ev hx, convert, run_underlying hd', run_underlying hd, Conv.intToInt]
theorem r_conv_in (hx : sv sl x = some (.int k a)) (hs : (P.underlying t).isSome = true) {k2 : IntKind} (hd : P.underlying t2 = some (.int k2)) (h : k2.wrap a = a) : Runs P ⟨dst, .convert t t2 x, ty, pos, aft, g⟩ n sl w (.int k2 a) w := by
  have := r_conv (P := P) (n := n) (w := w) (dst := dst) (ty := ty) (pos := pos) (aft := aft) (g := g) hx hs hd
  rwa [h] at this
end
section
variable {s s2 : ByteArray}
theorem r_seq (hx : sv sl x = some (.string s)) (hy : sv sl y = some (.string s2)) : Runs P ⟨dst, .binOp .eql t x y t2, ty, pos, aft, g⟩ n sl w (.bool (s.toList == s2.toList)) w := fun f hf => by
  simp [execOp, hf.ev hx, hf.ev hy, eqGuard_at_string, binOp_string_eql]
theorem r_sne (hx : sv sl x = some (.string s)) (hy : sv sl y = some (.string s2)) : Runs P ⟨dst, .binOp .neq t x y t2, ty, pos, aft, g⟩ n sl w (.bool !(s.toList == s2.toList)) w := fun f hf => by
  simp [execOp, hf.ev hx, hf.ev hy, eqGuard_at_string, binOp_string_neq]
theorem r_slen {ats : Array TypeId} (hx : sv sl x = some (.string s)) (ht : P.underlying t = some .string) (hats : ats = #[t]) : Runs P ⟨dst, .call ⟨.builtin .len, #[x], ats⟩, ty, pos, aft, g⟩ n sl w (goInt s.size) w := fun f hf => by
  subst hats
  simp [execOp, resolve, invoke, builtin, hf.ev hx, run_len_string _ _ _ _ ht]
end
theorem r_len {A : Option Addr} {m c : Nat} {ats : Array TypeId} {e : TypeId} (hx : sv sl x = some (.slice A m c)) (ht : P.underlying t = some (.slice e)) (hats : ats = #[t]) : Runs P ⟨dst, .call ⟨.builtin .len, #[x], ats⟩, ty, pos, aft, g⟩ n sl w (.int .i64 m) w := fun f hf => by
  subst hats
  simp [execOp, resolve, invoke, builtin, hf.ev hx, Builtin.len_, run_underlying ht, goInt]
def fld (P : Program) (s : TypeId) (i : Nat) : Option (Nat × TypeId × Nat) :=
  match P.underlying s with
  | some (.struct fs) => (fs[i]?).bind fun f => (P.info? f.type).bind fun j => if j.size = 0 then none else some (f.offset, f.type, j.size)
  | _ => none
theorem fld_of {P : Program} {s : TypeId} {i off ft z : Nat} (h : fld P s i = some (off, ft, z)) : ∃ fs f j, P.underlying s = some (.struct fs) ∧ fs[i]? = some f ∧ P.info? f.type = some j ∧ j.size = z ∧ z ≠ 0 ∧ f.offset = off ∧ f.type = ft := by
  unfold fld at h
  split at h
  · rename_i fs hu
    obtain ⟨f, hf, h⟩ := Option.bind_eq_some_iff.1 h
    obtain ⟨j, hj, h⟩ := Option.bind_eq_some_iff.1 h
    split at h
    · cases h
    · rename_i hz
      cases h
      exact ⟨fs, f, j, hu, hf, hj, rfl, hz, rfl, rfl⟩
  · cases h
theorem run_sizeOf {P : Program} {t : TypeId} {j : TypeInfo} (h : P.info? t = some j) (w : World) : (sizeOf t).run P w = .ok j.size w := by
  simp [sizeOf, typeInfo, h]
theorem r_fieldAddr {b o i off z : Nat} {ft : TypeId} (hx : sv sl x = some (.pointer (some ⟨b, o, none⟩))) (hf : fld P t i = some (off, ft, z)) : Runs P ⟨dst, .fieldAddr t x i, ty, pos, aft, g⟩ n sl w (.pointer (some ⟨b, o + off, none⟩)) w := fun f hfa => by
  obtain ⟨fs, q, j, hu, hq, hj, rfl, hz, rfl, rfl⟩ := fld_of hf
  simp [execOp, hfa.ev hx, Instr.fieldAt, run_underlying hu, hq, Instr.sureAddr, fieldPlace, run_sizeOf hj, hz, Addr.add_lit]
def one (P : Program) (t : TypeId) : Bool := match P.underlying t with | some (.struct _) | some (.array _ _) | none => false | some _ => true
theorem r_load {ad : Addr} (hx : sv sl x = some (.pointer (some ad))) (h1 : one P t = true) (hc : w.cell? ad = some v) : Runs P ⟨dst, .load t x, ty, pos, aft, g⟩ n sl w v w := fun f hf => by
  unfold one at h1
  cases hu : P.underlying t with
  | none => rw [hu] at h1; cases h1
  | some d =>
    rw [hu] at h1
    have : (isAgg t).run P w = .ok false w := by
      simp only [isAgg, Sem.run_bind, run_underlying hu, Result.andThen_ok]
      cases d <;> simp_all
    simp [execOp, hf.ev hx, Instr.loadAt, Instr.sureAddr, loadVar, this, run_load, hc]
end
structure HP (W0 W : World) (bs : List (Nat × List Value × Nat)) : Prop where
  old : Below W0.heap.size W0 W
  at_ : ∀ p ∈ bs, W.heap[p.1]? = some (.cells p.2.1.toArray p.2.2 (0, 0))
  new : ∀ p ∈ bs, W0.heap.size ≤ p.1
  nd : (bs.map (·.1)).Nodup
namespace HP
variable {W0 W W' : World} {bs : List (Nat × List Value × Nat)} {g i o t : Nat} {cs cs' : List Value} {v : Value}
theorem start (W : World) : HP W W [] := ⟨Below.refl _ _, (fun _ h => by cases h), (fun _ h => by cases h), List.nodup_nil⟩
theorem blk (h : HP W0 W bs) (hi : bs[i]? = some (g, cs, t)) : W.heap[g]? = some (.cells cs.toArray t (0, 0)) := h.at_ _ (List.mem_of_getElem? hi)
theorem lt (h : HP W0 W bs) (hi : bs[i]? = some (g, cs, t)) : g < W.heap.size := by
  rcases Nat.lt_or_ge g W.heap.size with h2 | h2
  · exact h2
  · have := h.blk hi
    rw [Array.getElem?_eq_none h2] at this
    cases this
theorem ge (h : HP W0 W bs) (hi : bs[i]? = some (g, cs, t)) : W0.heap.size ≤ g := h.new _ (List.mem_of_getElem? hi)
theorem cell (h : HP W0 W bs) (hi : bs[i]? = some (g, cs, t)) (hv : cs[o]? = some v) : W.cell? ⟨g, o, none⟩ = some v := by
  simp [World.cell?, h.blk hi, hv]
theorem free (h : HP W0 W bs) (hi : bs[i]? = some (g, cs, t)) (o : Nat) : W.frozen? ⟨g, o, none⟩ = false := by
  simp [World.frozen?, h.blk hi]
theorem below (h : HP W0 W bs) (hb : Below W.heap.size W W') : HP W0 W' bs := by
  have hle : W0.heap.size ≤ W.heap.size := h.old.size
  refine ⟨h.old.trans (hb.mono hle), fun p hp => ?_, h.new, h.nd⟩
  have h1 := h.at_ p hp
  have : p.1 < W.heap.size := by
    rcases Nat.lt_or_ge p.1 W.heap.size with h2 | h2
    · exact h2
    · rw [Array.getElem?_eq_none h2] at h1; cases h1
  rw [hb.block _ this, h1]
theorem grown (h : HP W0 W bs) (hg : W.grownBy W' none) : HP W0 W' bs :=
  h.below ((Below.refl _ _).grown hg (Nat.le_refl _) (fun k hk => by cases hk))
theorem drew (h : HP W0 W bs) : HP W0 { W with drawn := W.drawn + 1 } bs := h.below (Below.refl _ _).drew
theorem drewN (h : HP W0 W bs) (n : Nat) : HP W0 (W.drewN n) bs := h.grown ⟨rfl, rfl, rfl, Nat.le_refl _, fun _ _ _ => rfl⟩
theorem push (h : HP W0 W bs) (hb : Below W.heap.size W W') (hg : W.heap.size ≤ g) (hW : W'.heap[g]? = some (.cells cs.toArray t (0, 0))) : HP W0 W' ((g, cs, t) :: bs) := by
  have h' := h.below hb
  have hle : W0.heap.size ≤ W.heap.size := h.old.size
  refine ⟨h'.old, fun p hp => ?_, fun p hp => ?_, ?_⟩
  · rcases List.mem_cons.1 hp with rfl | hp
    · exact hW
    · exact h'.at_ p hp
  · rcases List.mem_cons.1 hp with rfl | hp
    · exact Nat.le_trans hle hg
    · exact h.new p hp
  · rw [List.map_cons, List.nodup_cons]
    refine ⟨fun hm => ?_, h.nd⟩
    obtain ⟨p, hp, e⟩ := List.mem_map.1 hm
    obtain ⟨j, hj⟩ := List.mem_iff_getElem?.1 hp
    have := h.lt (g := p.1) (cs := p.2.1) (t := p.2.2) hj
    simp only at e hg
    omega
theorem alloc (h : HP W0 W bs) (cs : List Value) (t : Nat) : HP W0 (W.alloc (.cells cs.toArray t)) ((W.heap.size, cs, t) :: bs) :=
  h.push ((Below.refl _ _).alloc (Nat.le_refl _) _) (Nat.le_refl _) (heap_alloc_last W _)
theorem mod (h : HP W0 W bs) (hi : bs[i]? = some (g, cs, t)) (hg : W.grownBy W' (some g)) (hW : W'.heap[g]? = some (.cells cs'.toArray t (0, 0))) : HP W0 W' (bs.set i (g, cs', t)) := by
  have hnd := h.nd
  have hge := h.ge hi
  have hle : W0.heap.size ≤ W.heap.size := h.old.size
  have hkeys : (bs.set i (g, cs', t)).map (·.1) = bs.map (·.1) := by
    rw [List.map_set]
    apply List.ext_getElem?
    intro j
    by_cases hj : i = j
    · subst hj
      obtain ⟨hlt, he⟩ := List.getElem?_eq_some_iff.1 hi
      rw [List.getElem?_set_self (by simpa using hlt), List.getElem?_map, hi]
      rfl
    · rw [List.getElem?_set_ne hj]
  refine ⟨h.old.grown hg hle (fun k hk => by cases hk; exact hge), fun p hp => ?_, fun p hp => ?_, by rw [hkeys]; exact hnd⟩
  · obtain ⟨j, hj⟩ := List.mem_iff_getElem?.1 hp
    by_cases hji : i = j
    · subst hji
      obtain ⟨hlt, _⟩ := List.getElem?_eq_some_iff.1 hi
      rw [List.getElem?_set_self hlt] at hj
      cases hj
      exact hW
    · rw [List.getElem?_set_ne hji] at hj
      have hlt := h.lt (g := p.1) (cs := p.2.1) (t := p.2.2) hj
      have hne : p.1 ≠ g := fun e => by
        have h1 : (bs.map (·.1))[j]? = some p.1 := by rw [List.getElem?_map, hj]; rfl
        have h2 : (bs.map (·.1))[i]? = some g := by rw [List.getElem?_map, hi]; rfl
        rw [e] at h1
        exact hji (((List.getElem?_inj (by obtain ⟨hq, _⟩ := List.getElem?_eq_some_iff.1 h2; exact hq) hnd).1 (h2.trans h1.symm)))
      rw [hg.block _ hlt (fun e => hne (by cases e; rfl))]
      exact h.at_ p (List.mem_of_getElem? hj)
  · have : p.1 ∈ (bs.set i (g, cs', t)).map (·.1) := List.mem_map_of_mem hp
    rw [hkeys] at this
    obtain ⟨q, hq, e⟩ := List.mem_map.1 this
    rw [← e]
    exact h.new q hq
theorem row (h : HP W0 W bs) (hi : bs[i]? = some (g, cs, t)) (cs' : List Value) : HP W0 (W.setRow g cs'.toArray) (bs.set i (g, cs', t)) :=
  h.mod hi ⟨rfl, rfl, rfl, by simp, fun k hk hne => setRow_other W g k _ (fun e => hne (by rw [e]))⟩ (setRow_heap W g _ _ t (0, 0) (h.blk hi))
theorem set (h : HP W0 W bs) (hi : bs[i]? = some (g, cs, t)) (o : Nat) (v : Value) : HP W0 (W.setCell ⟨g, o, none⟩ v) (bs.set i (g, cs.set o v, t)) := by
  have e := setCell_eq_setRow W g o cs.toArray t (0, 0) v (h.blk hi)
  rw [e]
  have := h.row hi (cs.set o v)
  simpa using this
theorem sub {bs' : List (Nat × List Value × Nat)} (h : HP W0 W bs) (hs : bs'.Sublist bs) : HP W0 W bs' :=
  ⟨h.old, fun p hp => h.at_ p (hs.subset hp), fun p hp => h.new p (hs.subset hp), (hs.map _).nodup h.nd⟩
end HP
section
variable {P : Program} {Q : Exit → Act → World → Prop} {n : Nat} {sl : List (Nat × Value)} {W0 W W' : World} {ops : Array Oper} {rest : List Oper} {d : Nat} {ty t t2 : TypeId} {pos : String} {aft : Array Edge} {gd : Option (Nat × Bool)} {dst : Option Tmp} {v u z : Value} {x y : Operand} {bs : List (Nat × List Value × Nat)} {g i o t' : Nat} {cs cs' : List Value}
theorem r_loads {ad : Addr} {c : List Value} {dd : TypeDesc} (hx : sv sl x = some (.pointer (some ad))) (hu : P.underlying t = some dd) (hd : dd.isRow = true) (hi : (P.info? t).map (·.size) = some c.length) (hc : ∀ j u, c[j]? = some u → W.cell? (ad.add j) = some u) :
    Runs P ⟨dst, .load t x, ty, pos, aft, gd⟩ n sl W (.agg c.toArray) W := fun f hf => by
  have hl := run_loadCells_list (P := P) W ad c hc
  have hagg : (isAgg t).run P W = .ok true W := by
    simp only [isAgg, Sem.run_bind, run_underlying hu, Result.andThen_ok]
    cases dd <;> simp_all [TypeDesc.isRow]
  obtain ⟨q, hq, hs⟩ := Option.map_eq_some_iff.1 hi
  simp [execOp, hf.ev hx, Instr.loadAt, Instr.sureAddr, loadVar, hagg, sizeOf, typeInfo, hq, hs, hl]
theorem HP.cells (h : HP W0 W bs) (hi : bs[i]? = some (g, cs, t')) {o : Nat} {c : List Value} (hc : ∀ j u, c[j]? = some u → cs[o + j]? = some u) : ∀ j u, c[j]? = some u → W.cell? ((⟨g, o, none⟩ : Addr).add j) = some u := fun j u hj => by
  rw [Addr.add_mid]
  exact h.cell hi (hc j u hj)
theorem u_store (hP : HP W0 W bs) (hi : bs[i]? = some (g, cs, t')) (ho : o < cs.length) (hx : sv sl x = some (.pointer (some ⟨g, o, none⟩))) (hy : sv sl y = some v) (hv : v.oneCell' = true) (hc : v.cells = #[v]) (hz : (P.info? t).map (·.size) = some 1) :
    RunsU P ⟨dst, .store t x y, ty, pos, aft, gd⟩ n sl W (W.setCell ⟨g, o, none⟩ v) := fun f hf => by
  obtain ⟨q, hq, hs⟩ := Option.map_eq_some_iff.1 hz
  have h1 := hP.cell hi (List.getElem?_eq_getElem ho)
  have h2 := hP.free hi o
  simp [execOp, hf.ev hx, hf.ev hy, Instr.storeAt, Instr.sureAddr, storeVar, sizeOf, typeInfo, hq, hs, hc, storeCells, Addr.add_mid, run_store _ _ _ _ _ hv, h1, h2]
theorem setCell_grown (w : World) (b i : Nat) (v : Value) : w.grownBy (w.setCell ⟨b, i, none⟩ v) (some b) :=
  ⟨rfl, rfl, rfl, by simp [World.setCell], fun k _ hk => Below.heap_setCell _ _ _ _ (fun e => hk (by simp [e]))⟩
theorem setRow_grown (w : World) (g : Nat) (cs : Array Value) : w.grownBy (w.setRow g cs) (some g) :=
  ⟨rfl, rfl, rfl, by simp, fun i hi hne => setRow_other w g i cs (fun h => hne (by rw [h]))⟩
theorem ow_store (hP : HP W0 W bs) (i : Nat) (hi : bs[i]? = some (g, cs, t')) (ho : o < cs.length) (hx : sv sl x = some (.pointer (some ⟨g, o, none⟩))) (hy : sv sl y = some v) (hv : v.oneCell' = true) (hc : v.cells = #[v]) (hz : (P.info? t).map (·.size) = some 1)
    (h : ∀ W', W.grownBy W' (some g) → HP W0 W' (bs.set i (g, cs.set o v, t')) → OW P ops Q rest n sl W') : OW P ops Q (⟨none, .store t x y, ty, pos, aft, none⟩ :: rest) n sl W :=
  ow_unit (u_store hP hi ho hx hy hv hc hz) (h _ (setCell_grown _ _ _ _) (hP.set hi o v))
theorem ow_stores (hP : HP W0 W bs) (i : Nat) (hi : bs[i]? = some (g, cs, t')) {ws : List Value} (hx : sv sl x = some (.pointer (some ⟨g, 0, none⟩))) (hy : sv sl y = some (.agg ws.toArray)) (hv : ∀ v ∈ ws, v.oneCell' = true) (hl : ws.length = cs.length) (hz : (P.info? t).map (·.size) = some ws.length)
    (h : ∀ W', W.grownBy W' (some g) → HP W0 W' (bs.set i (g, ws, t')) → OW P ops Q rest n sl W') : OW P ops Q (⟨none, .store t x y, ty, pos, aft, none⟩ :: rest) n sl W := by
  have hr : RunsU P ⟨none, .store t x y, ty, pos, aft, none⟩ n sl W (W.setRow g ws.toArray) := fun f hf => by
    obtain ⟨q, hq, hs⟩ := Option.map_eq_some_iff.1 hz
    have hst := run_storeCells_at P g 0 t' ws 0 cs.toArray W (hP.blk hi) (by simp; omega) hv
    have hd : cs.drop ws.length = [] := List.drop_eq_nil_of_le (by omega)
    simp only [Nat.add_zero, Nat.zero_add, List.take_zero, List.nil_append, hd, List.append_nil] at hst
    simp [execOp, hf.ev hx, hf.ev hy, Instr.storeAt, Instr.sureAddr, storeVar, sizeOf, typeInfo, hq, hs, Value.cells, hst]
  exact ow_unit hr (h _ (setRow_grown _ _ _) (hP.row hi ws))
theorem ow_box (hP : HP W0 W bs) {ws : List Value} (hx : sv sl x = some v) (hw : v.cells = ws.toArray) (hd : Nat.blt d n = true)
    (h : ∀ g W', W.heap.size = g → W.grownBy W' none → HP W0 W' ((g, ws, t) :: bs) → OW P ops Q rest n ((d, .pointer (some ⟨g, 0, none⟩)) :: sl) W') : OW P ops Q (⟨some d, .box t x, ty, pos, aft, none⟩ :: rest) n sl W := by
  refine ow_step (v := .pointer (some ⟨W.heap.size, 0, none⟩)) (w' := W.alloc (.cells ws.toArray t)) (fun f hf => ?_) hd (h _ _ rfl (World.grownBy_alloc W _ none) (hP.alloc ws t))
  simp [execOp, hf.ev hx, Instr.box, newVar, newRow, hw]
theorem ow_alloc (hP : HP W0 W bs) {ws : List Value} (hw : (P.info? t).map (fun j => j.zero.map Value.cells) = some (some ws.toArray)) (hd : Nat.blt d n = true)
    (h : ∀ g W', W.heap.size = g → W.grownBy W' none → HP W0 W' ((g, ws, t) :: bs) → OW P ops Q rest n ((d, .pointer (some ⟨g, 0, none⟩)) :: sl) W') : OW P ops Q (⟨some d, .alloc t, ty, pos, aft, none⟩ :: rest) n sl W := by
  obtain ⟨j, hj, hz⟩ := Option.map_eq_some_iff.1 hw
  obtain ⟨z, hz, hc⟩ := Option.map_eq_some_iff.1 hz
  refine ow_step (v := .pointer (some ⟨W.heap.size, 0, none⟩)) (w' := W.alloc (.cells ws.toArray t)) (fun f hf => ?_) hd (h _ _ rfl (World.grownBy_alloc W _ none) (hP.alloc ws t))
  simp [execOp, Instr.alloc, zeroValue, typeInfo, hj, hz, newVar, newRow, hc]
end
section
variable {P : Program} {Q : Exit → Act → World → Prop} {n : Nat} {sl : List (Nat × Value)} {W0 W W' : World} {ops : Array Oper} {rest : List Oper} {d : Nat} {ty t e : TypeId} {pos : String} {aft : Array Edge} {gd : Option (Nat × Bool)} {dst : Option Tmp} {v u z : Value} {x y : Operand} {bs : List (Nat × List Value × Nat)} {g o o' m c t' len sz : Nat} {k k2 : IntKind} {i j : Int} {cs : List Value} {A : Option Addr}
theorem r_indexArr (hx : sv sl x = some (.pointer (some ⟨g, o, none⟩))) (hy : sv sl y = some (.int k i)) (hu : P.underlying t = some (.array len e)) (hsz : (P.info? e).map (·.size) = some sz) (hi : 0 ≤ i ∧ i < len) (ho : o + i.toNat * sz = o') : Runs P ⟨dst, .indexAddr t x y, ty, pos, aft, gd⟩ n sl W (.pointer (some ⟨g, o', none⟩)) W := fun f hf => by
  obtain ⟨q, hq, hs⟩ := Option.map_eq_some_iff.1 hsz
  subst ho
  simp [execOp, hf.ev hx, hf.ev hy, Instr.indexAt, run_underlying hu, asIntOf, Instr.sureAddr, hi, run_sizeOf hq, hs, Addr.add_lit]
theorem r_indexSl {ad : Addr} (hx : sv sl x = some (.slice (some ad) m c)) (hy : sv sl y = some (.int k i)) (hu : P.underlying t = some (.slice e)) (hsz : (P.info? e).map (·.size) = some sz) (hi : 0 ≤ i ∧ i < m) : Runs P ⟨dst, .indexAddr t x y, ty, pos, aft, gd⟩ n sl W (.pointer (some (ad.add (i.toNat * sz)))) W := fun f hf => by
  obtain ⟨q, hq, hs⟩ := Option.map_eq_some_iff.1 hsz
  simp [execOp, hf.ev hx, hf.ev hy, Instr.indexAt, run_underlying hu, asIntOf, hi, run_sizeOf hq, hs]
theorem r_indexSl' (hx : sv sl x = some (.slice (some ⟨g, o, none⟩) m c)) (hy : sv sl y = some (.int k i)) (hu : P.underlying t = some (.slice e)) (hsz : (P.info? e).map (·.size) = some sz) (hi : 0 ≤ i ∧ i < m) (ho : o + i.toNat * sz = o') : Runs P ⟨dst, .indexAddr t x y, ty, pos, aft, gd⟩ n sl W (.pointer (some ⟨g, o', none⟩)) W := by
  have := r_indexSl (P := P) (n := n) (W := W) (dst := dst) (ty := ty) (pos := pos) (aft := aft) (gd := gd) hx hy hu hsz hi
  rwa [Addr.add_lit, ho] at this
theorem r_indexVal (hx : sv sl x = some (.agg cs.toArray)) (hy : sv sl y = some (.int k i)) (hu : P.underlying t = some (.array len e)) (h1 : one P e = true) (hsz : (P.info? e).map (·.size) = some 1) (hi : 0 ≤ i ∧ i < len) (hv : cs[i.toNat]? = some v) : Runs P ⟨dst, .index t x y, ty, pos, aft, gd⟩ n sl W v W := fun f hf => by
  obtain ⟨q, hq, hs⟩ := Option.map_eq_some_iff.1 hsz
  unfold one at h1
  cases hue : P.underlying e with
  | none => rw [hue] at h1; cases h1
  | some dd =>
    rw [hue] at h1
    have : (isAgg e).run P W = .ok false W := by
      simp only [isAgg, Sem.run_bind, run_underlying hue, Result.andThen_ok]
      cases dd <;> simp_all
    simp [execOp, hf.ev hx, hf.ev hy, Instr.index, run_underlying hu, asIntOf, hi, run_sizeOf hq, hs, part, this, hv]
theorem run_bound (i : Int) (b : Nat) (code : BoundsCode) (w : World) (h : 0 ≤ i ∧ i ≤ b) : (Instr.sliceBound (.int k i) b code).run P w = .ok i.toNat w := by
  simp [Instr.sliceBound, asIntOf, h]
theorem r_sliceTo (hx : sv sl x = some (.slice A m c)) (hy : sv sl y = some (.int k i)) (hu : P.underlying t = some (.slice e)) (hsz : (P.info? e).map (·.size) = some sz) (hi : 0 ≤ i ∧ i ≤ c) : Runs P ⟨dst, .slice t x none (some y) none, ty, pos, aft, gd⟩ n sl W (.slice A i.toNat c) W := fun f hf => by
  obtain ⟨q, hq, hs⟩ := Option.map_eq_some_iff.1 hsz
  have h2 : ∀ a : Option Addr, a.map (·.add 0) = a := fun a => by cases a <;> simp [Addr.add_zero']
  simp only [execOp, hf.ev hx, hf.ev hy, Option.map_none, Option.map_some, Instr.sliceAt, run_underlying hu, Sem.run_bind, Result.andThen_ok, Instr.slice, Instr.sliceBounds, run_bound i c _ _ hi, Sem.run_pure, run_sizeOf hq, Nat.zero_mul, h2, ite_self, Nat.sub_zero]
theorem r_sliceFrom (hx : sv sl x = some (.slice A m c)) (hy : sv sl y = some (.int k i)) (hu : P.underlying t = some (.slice e)) (hsz : (P.info? e).map (·.size) = some sz) (hi : 0 ≤ i ∧ i ≤ m) : Runs P ⟨dst, .slice t x (some y) none none, ty, pos, aft, gd⟩ n sl W (.slice (if c = i.toNat then A else A.map (·.add (i.toNat * sz))) (m - i.toNat) (c - i.toNat)) W := fun f hf => by
  obtain ⟨q, hq, hs⟩ := Option.map_eq_some_iff.1 hsz
  simp [execOp, hf.ev hx, hf.ev hy, Instr.sliceAt, run_underlying hu, Instr.slice, Instr.sliceBounds, run_bound i m _ _ hi, run_sizeOf hq, hs]
theorem r_sliceArr (hx : sv sl x = some (.pointer (some ⟨g, o, none⟩))) (hu : P.underlying t = some (.array len e)) (hsz : (P.info? e).map (·.size) = some sz) : Runs P ⟨dst, .slice t x none none none, ty, pos, aft, gd⟩ n sl W (.slice (some ⟨g, o, none⟩) len len) W := fun f hf => by
  obtain ⟨q, hq, hs⟩ := Option.map_eq_some_iff.1 hsz
  simp [execOp, hf.ev hx, Instr.sliceAt, run_underlying hu, Instr.sureAddr, Instr.sliceBounds, run_sizeOf hq, Addr.add_zero']
theorem r_build {parts : Array (Nat × Operand)} {vs : List Value} (hargs : svs sl (parts.toList.map (·.2)) = some vs) (hb : ∀ w, (Instr.build t ((parts.toList.map (·.1)).zip vs).toArray).run P w = .ok v w) : Runs P ⟨dst, .build t parts, ty, pos, aft, gd⟩ n sl W v W := fun f hf => by
  have h1 := hf.evs hargs
  have h2 : parts.map (fun p => (p.1, f.eval p.2)) = ((parts.toList.map (·.1)).zip vs).toArray := by
    rw [← h1]
    apply Array.ext'
    rw [Array.toList_map, List.map_map]
    generalize parts.toList = l
    induction l with
    | nil => rfl
    | cons p r ih => simp_all
  simp [execOp, h2, hb]
theorem ow_copyS {s : ByteArray} {dT sT : TypeId} (hP : HP W0 W bs) (q : Nat) (hq : bs[q]? = some (g, cs, t')) (hx : sv sl x = some (.slice (some ⟨g, o, none⟩) m c)) (hy : sv sl y = some (.string s)) (hle : s.size ≤ m) (hfit : o + s.size ≤ cs.length) (hu : P.underlying dT = some (.slice e)) (hsz : (P.info? e).map (·.size) = some 1) (hd : Nat.blt d n = true)
    (h : ∀ W', W.grownBy W' (some g) → HP W0 W' (bs.set q (g, cs.take o ++ Lib.byteCells s.data.toList ++ cs.drop (o + s.size), t')) → OW P ops Q rest n ((d, goInt s.size) :: sl) W') : OW P ops Q (⟨some d, .call ⟨.builtin .copy, #[x, y], #[dT, sT]⟩, ty, pos, aft, none⟩ :: rest) n sl W := by
  refine ow_step (v := goInt s.size) (w' := W.setRow g (cs.take o ++ Lib.byteCells s.data.toList ++ cs.drop (o + s.size)).toArray) (fun f hf => ?_) hd (h _ (setRow_grown _ _ _) (hP.row hq _))
  have hr := Lib.run_copy_row_string (P := P) W dT sT ty e g o m c s cs.toArray t' hu hsz (hP.blk hq) hle (by simpa using hfit)
  simp [execOp, resolve, invoke, builtin, hf.ev hx, hf.ev hy, hr]
end
theorem madeCells_one (z : Value) (n : Nat) : madeCells #[z] n = (List.replicate n z).toArray := by
  apply Array.ext'
  rw [toList_madeCells_one]
section
variable {P : Program} {Q : Exit → Act → World → Prop} {n : Nat} {sl : List (Nat × Value)} {W0 W W' : World} {ops : Array Oper} {rest : List Oper} {d : Nat} {ty t e : TypeId} {pos : String} {aft : Array Edge} {gd : Option (Nat × Bool)} {dst : Option Tmp} {v u z : Value} {x y : Operand} {bs : List (Nat × List Value × Nat)} {g o m c t' : Nat} {k k2 : IntKind} {i : Int} {cs : List Value} {A : Option Addr} {j : TypeInfo}
theorem ow_make (hP : HP W0 W bs) {q : Int} (hx : sv sl x = some (.int k i)) (hy : sv sl y = some (.int k2 q)) (hu : P.underlying t = some (.slice e)) (hj : P.info? e = some j) (hz : j.zero = some z) (hi : 0 ≤ i ∧ i ≤ q ∧ q ≤ 9223372036854775807 ∧ (j.bytes : Int) * q ≤ 281474976710656) (hd : Nat.blt d n = true)
    (h : ∀ g W', W.heap.size = g → W.grownBy W' none → HP W0 W' ((g, (madeCells z.cells (q.toNat * j.size)).toList, e) :: bs) → OW P ops Q rest n ((d, .slice (some ⟨g, 0, none⟩) i.toNat q.toNat) :: sl) W') : OW P ops Q (⟨some d, .makeSlice t x y, ty, pos, aft, none⟩ :: rest) n sl W := by
  have hr := run_make (P := P) W t e j z hu hj hz k k2 i q hi.1 hi.2.1 hi.2.2.2 hi.2.2.1
  refine ow_step (v := .slice (some ⟨W.heap.size, 0, none⟩) i.toNat q.toNat) (w' := W.alloc (.cells (madeCells z.cells (q.toNat * j.size)) e)) (fun f hf => by simp [execOp, hf.ev hx, hf.ev hy, hr]) hd (h _ _ rfl (World.grownBy_alloc W _ none) ?_)
  have := hP.alloc (madeCells z.cells (q.toNat * j.size)).toList e
  simpa using this
theorem ow_make1 (hP : HP W0 W bs) {q : Int} {N M : Nat} (hx : sv sl x = some (.int k i)) (hy : sv sl y = some (.int k2 q)) (hu : P.underlying t = some (.slice e)) (hj : (P.info? e).map (fun j => (j.zero, j.size, j.bytes)) = some (some z, 1, m)) (hz : z.cells = #[z]) (hi : 0 ≤ i ∧ i ≤ q ∧ q ≤ 9223372036854775807 ∧ (m : Int) * q ≤ 281474976710656) (hN : i.toNat = N) (hM : q.toNat = M) (hd : Nat.blt d n = true)
    (h : ∀ g W', W.heap.size = g → W.grownBy W' none → HP W0 W' ((g, List.replicate M z, e) :: bs) → OW P ops Q rest n ((d, .slice (some ⟨g, 0, none⟩) N M) :: sl) W') : OW P ops Q (⟨some d, .makeSlice t x y, ty, pos, aft, none⟩ :: rest) n sl W := by
  obtain ⟨jj, hj1, hj2⟩ := Option.map_eq_some_iff.1 hj
  simp only [Prod.mk.injEq] at hj2
  obtain ⟨h1, h2, h3⟩ := hj2
  subst hN; subst hM
  refine ow_make hP hx hy hu hj1 h1 ⟨hi.1, hi.2.1, hi.2.2.1, by rw [h3]; exact hi.2.2.2⟩ hd (fun g W' hg hgr hP' => h g W' hg hgr ?_)
  rw [h2, Nat.mul_one, hz, madeCells_one] at hP'
  exact hP'
theorem ow_copy {dT sT : TypeId} {ws : List Value} {ad : Addr} {m2 c2 sz : Nat} (hP : HP W0 W bs) (q : Nat) (hq : bs[q]? = some (g, cs, t')) (hx : sv sl x = some (.slice (some ⟨g, o, none⟩) m c)) (hy : sv sl y = some (.slice (some ad) m2 c2)) (hu : P.underlying dT = some (.slice e)) (hsz : (P.info? e).map (·.size) = some sz) (hn : ws.length = Nat.min m2 m * sz) (hsrc : ∀ j u, ws[j]? = some u → W.cell? (ad.add j) = some u) (h1 : ∀ v ∈ ws, v.oneCell' = true) (hfit : o + ws.length ≤ cs.length) (hd : Nat.blt d n = true)
    (h : ∀ W', W.grownBy W' (some g) → HP W0 W' (bs.set q (g, cs.take o ++ ws ++ cs.drop (o + ws.length), t')) → OW P ops Q rest n ((d, goInt (Nat.min m2 m)) :: sl) W') : OW P ops Q (⟨some d, .call ⟨.builtin .copy, #[x, y], #[dT, sT]⟩, ty, pos, aft, none⟩ :: rest) n sl W := by
  obtain ⟨jj, hj, hs⟩ := Option.map_eq_some_iff.1 hsz
  have hl := run_loadCells_list (P := P) W ad ws hsrc
  have hst := run_storeCells_at P g o t' ws 0 cs.toArray W (hP.blk hq) (by simpa using hfit) h1
  simp only [Nat.add_zero, Nat.zero_add, List.toList_toArray] at hst
  refine ow_step (v := goInt (Nat.min m2 m)) (w' := W.setRow g (cs.take o ++ ws ++ cs.drop (o + ws.length)).toArray) (fun f hf => ?_) hd (h _ (setRow_grown _ _ _) (hP.row hq _))
  simp [execOp, resolve, invoke, builtin, hf.ev hx, hf.ev hy, Builtin.copy_, run_underlying hu, Builtin.lenOf, Builtin.firstCells, sizeOf, typeInfo, hj, hs, ← hn, hl, hst]
theorem ow_copy0 {dT sT : TypeId} {B : Option Addr} {m2 c2 sz : Nat} (hx : sv sl x = some (.slice A m c)) (hy : sv sl y = some (.slice B m2 c2)) (hu : P.underlying dT = some (.slice e)) (hsz : (P.info? e).map (·.size) = some sz) (hn : Nat.min m2 m = 0) (hd : Nat.blt d n = true)
    (h : OW P ops Q rest n ((d, goInt 0) :: sl) W) : OW P ops Q (⟨some d, .call ⟨.builtin .copy, #[x, y], #[dT, sT]⟩, ty, pos, aft, none⟩ :: rest) n sl W := by
  obtain ⟨jj, hj, hs⟩ := Option.map_eq_some_iff.1 hsz
  refine ow_step (v := goInt 0) (w' := W) (fun f hf => ?_) hd h
  have h0 : ∀ a : Addr, (loadCells a 0).run P W = .ok #[] W := fun a => run_loadCells_list (P := P) W a [] (fun j u hj => by cases hj)
  cases A <;> cases B <;> simp [execOp, resolve, invoke, builtin, hf.ev hx, hf.ev hy, Builtin.copy_, run_underlying hu, Builtin.lenOf, Builtin.firstCells, sizeOf, typeInfo, hj, hs, hn, h0, storeCells]
end
theorem ow_var {P : Program} {Q : Exit → Act → World → Prop} {n : Nat} {sl : List (Nat × Value)} {W0 W : World} {ops : Array Oper} {rest : List Oper} {d : Nat} {ty ty2 t : TypeId} {pos pos2 : String} {aft aft2 : Array Edge} {x : Operand} {bs : List (Nat × List Value × Nat)} {ws : List Value}
    (hP : HP W0 W bs) (hx : sv ((d, .pointer (some ⟨W.heap.size, 0, none⟩)) :: sl) x = some (.agg ws.toArray)) (hw : (P.info? t).map (fun j => j.zero.map fun z => (z.cells.size, j.size)) = some (some (ws.length, ws.length))) (hv : ∀ v ∈ ws, v.oneCell' = true) (hd : Nat.blt d n = true)
    (h : ∀ g W', W.heap.size = g → W.grownBy W' none → HP W0 W' ((g, ws, t) :: bs) → OW P ops Q rest n ((d, .pointer (some ⟨g, 0, none⟩)) :: sl) W') : OW P ops Q (⟨some d, .alloc t, ty, pos, aft, none⟩ :: ⟨none, .store t (.tmp d) x, ty2, pos2, aft2, none⟩ :: rest) n sl W := by
  obtain ⟨j, hj, hz⟩ := Option.map_eq_some_iff.1 hw
  obtain ⟨z, hz, hc⟩ := Option.map_eq_some_iff.1 hz
  simp only [Prod.mk.injEq] at hc
  refine ow_alloc hP (ws := z.cells.toList) (by rw [hj]; simp [hz]) hd (fun g W1 hg hgr hP1 => ?_)
  subst hg
  refine ow_stores hP1 0 rfl (x := .tmp d) (by simp [sv, get]) hx hv (by simp [hc.1]) (by rw [hj]; simp [hc.2]) (fun W2 hg2 hP2 => ?_)
  refine h _ _ rfl ?_ hP2
  exact ⟨hg2.os.trans hgr.os, hg2.tape.trans hgr.tape, hg2.output.trans hgr.output, Nat.le_trans hgr.size hg2.size, fun k hk _ => (hg2.block k (Nat.lt_of_lt_of_le hk hgr.size) (fun e => by cases e; omega)).trans (hgr.block k hk (fun e => by cases e))⟩
section
variable {P : Program} {Q : Exit → Act → World → Prop} {n : Nat} {sl : List (Nat × Value)} {W0 W : World} {ops : Array Oper} {rest : List Oper} {d : Nat} {ty t e t2 : TypeId} {pos : String} {aft : Array Edge} {x : Operand} {bs : List (Nat × List Value × Nat)} {ws : List Value} {gd : Option (Nat × Bool)} {dst : Option Tmp}
theorem ow_buildSlice {parts : Array (Nat × Operand)} {vs : List Value} {len : Nat} (hP : HP W0 W bs) (hargs : svs sl (parts.toList.map (·.2)) = some vs) (hb : ∀ w, (Instr.buildSlice t len ((parts.toList.map (·.1)).zip vs).toArray).run P w = .ok (.slice (some ⟨w.heap.size, 0, none⟩) len len) (w.alloc (.cells ws.toArray e))) (hd : Nat.blt d n = true)
    (h : ∀ g W', W.heap.size = g → W.grownBy W' none → HP W0 W' ((g, ws, e) :: bs) → OW P ops Q rest n ((d, .slice (some ⟨g, 0, none⟩) len len) :: sl) W') : OW P ops Q (⟨some d, .buildSlice t len parts, ty, pos, aft, none⟩ :: rest) n sl W := by
  refine ow_step (v := .slice (some ⟨W.heap.size, 0, none⟩) len len) (w' := W.alloc (.cells ws.toArray e)) (fun f hf => ?_) hd (h _ _ rfl (World.grownBy_alloc W _ none) (hP.alloc ws e))
  have h1 := hf.evs hargs
  have h2 : parts.map (fun p => (p.1, f.eval p.2)) = ((parts.toList.map (·.1)).zip vs).toArray := by
    rw [← h1]
    apply Array.ext'
    rw [Array.toList_map, List.map_map]
    generalize parts.toList = l
    induction l with
    | nil => rfl
    | cons p r ih => simp_all
  simp [execOp, h2, hb]
end
namespace HP
theorem perm {W0 W : World} {bs bs' : List (Nat × List Value × Nat)} (h : HP W0 W bs) (p : bs'.Perm bs) : HP W0 W bs' :=
  ⟨h.old, fun q hq => h.at_ q (p.subset hq), fun q hq => h.new q (p.subset hq), ((p.map _).nodup_iff).2 h.nd⟩
theorem nodup_set {α : Type} : ∀ (l : List α) (i : Nat) (x : α), x ∉ l → l.Nodup → (l.set i x).Nodup
  | [], i, x, h, hd => by simp
  | a :: r, 0, x, h, hd => by
    simp only [List.set_cons_zero, List.nodup_cons] at hd ⊢
    exact ⟨fun hm => h (List.mem_cons_of_mem _ hm), hd.2⟩
  | a :: r, i + 1, x, h, hd => by
    simp only [List.set_cons_succ, List.nodup_cons] at hd ⊢
    refine ⟨fun hm => ?_, nodup_set r i x (fun hm => h (List.mem_cons_of_mem _ hm)) hd.2⟩
    rcases List.mem_or_eq_of_mem_set hm with hm | rfl
    · exact hd.1 hm
    · exact h List.mem_cons_self
theorem swap {W0 W W' : World} {bs : List (Nat × List Value × Nat)} {i g g' t t' : Nat} {cs cs' : List Value} (h : HP W0 W bs) (hi : bs[i]? = some (g, cs, t)) (hg : W.grownBy W' (some g)) (hn : g' = g ∨ W.heap.size ≤ g') (hW : W'.heap[g']? = some (.cells cs'.toArray t' (0, 0))) : HP W0 W' (bs.set i (g', cs', t')) := by
  have hge := h.ge hi
  have hlt := h.lt hi
  have hle : W0.heap.size ≤ W.heap.size := h.old.size
  have hkeys : (bs.set i (g', cs', t')).map (·.1) = (bs.map (·.1)).set i g' := by rw [List.map_set]
  refine ⟨h.old.grown hg hle (fun k hk => by cases hk; exact hge), fun p hp => ?_, fun p hp => ?_, ?_⟩
  · obtain ⟨j, hj⟩ := List.mem_iff_getElem?.1 hp
    by_cases hji : i = j
    · subst hji
      obtain ⟨hl, _⟩ := List.getElem?_eq_some_iff.1 hi
      rw [List.getElem?_set_self hl] at hj
      cases hj
      exact hW
    · rw [List.getElem?_set_ne hji] at hj
      have hlt := h.lt (g := p.1) (cs := p.2.1) (t := p.2.2) hj
      have hne : p.1 ≠ g := fun e => by
        have h1 : (bs.map (·.1))[j]? = some p.1 := by rw [List.getElem?_map, hj]; rfl
        have h2 : (bs.map (·.1))[i]? = some g := by rw [List.getElem?_map, hi]; rfl
        rw [e] at h1
        exact hji (((List.getElem?_inj (by obtain ⟨hq, _⟩ := List.getElem?_eq_some_iff.1 h2; exact hq) h.nd).1 (h2.trans h1.symm)))
      rw [hg.block _ hlt (fun e => hne (by cases e; rfl))]
      exact h.at_ p (List.mem_of_getElem? hj)
  · obtain ⟨j, hj⟩ := List.mem_iff_getElem?.1 hp
    by_cases hji : i = j
    · subst hji
      obtain ⟨hl, _⟩ := List.getElem?_eq_some_iff.1 hi
      rw [List.getElem?_set_self hl] at hj
      cases hj
      rcases hn with rfl | hn
      · exact hge
      · exact Nat.le_trans hle hn
    · rw [List.getElem?_set_ne hji] at hj
      exact h.new p (List.mem_of_getElem? hj)
  · rw [hkeys]
    have hgi : (bs.map (·.1))[i]? = some g := by rw [List.getElem?_map, hi]; rfl
    rcases hn with rfl | hn
    · have : (bs.map (·.1)).set i g' = bs.map (·.1) := by
        apply List.ext_getElem?
        intro j
        by_cases hj : i = j
        · subst hj
          obtain ⟨hl, _⟩ := List.getElem?_eq_some_iff.1 hgi
          rw [List.getElem?_set_self hl, hgi]
        · rw [List.getElem?_set_ne hj]
      rw [this]; exact h.nd
    · have hout : g' ∉ bs.map (·.1) := fun hm => by
        obtain ⟨p, hp, e⟩ := List.mem_map.1 hm
        obtain ⟨j, hj⟩ := List.mem_iff_getElem?.1 hp
        have := h.lt (g := p.1) (cs := p.2.1) (t := p.2.2) hj
        have e' : p.1 = g' := e
        omega
      exact nodup_set _ _ _ hout h.nd
end HP
structure Takes (P : Program) (xT : TypeId) (x : Value) (m sz : Nat) (news : List Value) (w : World) : Prop where
  ty : (∃ e, P.underlying xT = some (.slice e)) ∨ P.underlying xT = some .string
  len : ∀ w', (Builtin.lenOf x).run P w' = .ok m w'
  now : (Builtin.firstCells sz m x).run P w = .ok news.toArray w
  drew : (Builtin.firstCells sz m x).run P w.drew = .ok news.toArray w.drew
  size : news.length = m * sz
  one : ∀ v ∈ news, v.oneCell' = true
theorem takes_slice {P : Program} {xT e : TypeId} {ad : Addr} {m c sz : Nat} {news : List Value} {w : World} (hu : P.underlying xT = some (.slice e)) (hl : news.length = m * sz) (hc : ∀ j u, news[j]? = some u → w.cell? (ad.add j) = some u) (h1 : ∀ v ∈ news, v.oneCell' = true) : Takes P xT (.slice (some ad) m c) m sz news w := by
  have h2 := run_loadCells_list (P := P) w ad news hc
  have h3 := run_loadCells_list (P := P) w.drew ad news (fun j u hj => by rw [World.cell?_drew]; exact hc j u hj)
  rw [hl] at h2 h3
  exact ⟨.inl ⟨_, hu⟩, fun w' => by simp [Builtin.lenOf], by simp [Builtin.firstCells, h2], by simp [Builtin.firstCells, h3], hl, h1⟩
theorem takes_nil {P : Program} {xT e : TypeId} {A : Option Addr} {c sz : Nat} {w : World} (hu : P.underlying xT = some (.slice e)) : Takes P xT (.slice A 0 c) 0 sz [] w := by
  have h0 : ∀ (a : Addr) (w : World), (loadCells a 0).run P w = .ok #[] w := fun a w => run_loadCells_list (P := P) w a [] (fun j u hj => by cases hj)
  refine ⟨.inl ⟨_, hu⟩, fun w' => by simp [Builtin.lenOf], ?_, ?_, by simp, fun v hv => by cases hv⟩ <;> cases A <;> simp [Builtin.firstCells, h0]
theorem run_append_takes {P : Program} {w : World} {t xT ty e : TypeId} {j : TypeInfo} {z : Value} (ht : P.underlying t = some (.slice e)) (hi : P.info? e = some j) (hz : j.zero = some z) {x : Value} {m : Nat} {news : List Value} (hx : Takes P xT x m j.size news w)
    {A : Option Addr} {n cap : Nat} {olds spare : List Value} (hA : (A = none ∧ n = 0 ∧ cap = 0 ∧ olds = []) ∨ ∃ g, A = some ⟨g, 0, none⟩ ∧ w.heap[g]? = some (.cells (olds ++ spare).toArray e (0, 0))) (hlo : olds.length = n * j.size) (hls : (olds ++ spare).length = cap * j.size) (hnc : n ≤ cap)
    (h63 : n + m ≤ 9223372036854775807) (hb : (n + m) * j.bytes ≤ 140737488355328) :
    ∃ A' cap' w', (Builtin.append_ #[t, xT] ty #[.slice A n cap, x]).run P w = .ok (.slice A' (n + m) cap') w' ∧ n + m ≤ cap' ∧
      ((A = none ∧ m = 0 ∧ A' = none ∧ cap' = 0 ∧ w' = w) ∨ (∃ g, A = some ⟨g, 0, none⟩ ∧ A' = A ∧ cap' = cap ∧ w' = w.setRow g (olds ++ news ++ spare.drop news.length).toArray) ∨
       (A' = some ⟨w.heap.size, 0, none⟩ ∧ 0 < m ∧ w' = w.drew.alloc (.cells (olds ++ news ++ (Builtin.zeroCells z.cells (cap' - (n + m))).toList).toArray e))) := by
  obtain ⟨hd, hl, hf, hf', hnl, h1⟩ := hx
  by_cases hroom : n + m ≤ cap
  · rcases hA with ⟨rfl, rfl, rfl, rfl⟩ | ⟨g, rfl, hg⟩
    · have hm : m = 0 := by omega
      subst hm
      refine ⟨none, 0, w, ?_, by omega, .inl ⟨rfl, rfl, rfl, rfl, rfl⟩⟩
      rcases hd with ⟨e', hd⟩ | hd <;> simp [Builtin.append_, run_underlying ht, run_underlying hd, sizeOf, typeInfo, hi, hl, hf]
    · have hst := run_storeCells_at P g (n * j.size) e news 0 (olds ++ spare).toArray w hg (by
        simp only [List.size_toArray, Nat.add_zero, hls, hnl, ← Nat.add_mul]; exact Nat.mul_le_mul_right _ hroom) h1
      have e1 : (olds ++ spare).take (n * j.size) = olds := by rw [← hlo, List.take_left]
      have e2 : (olds ++ spare).drop (n * j.size + news.length) = spare.drop news.length := by rw [← hlo, List.drop_append]; simp [List.drop_eq_nil_of_le]
      simp only [Nat.add_zero, List.toList_toArray, e1, e2] at hst
      refine ⟨some ⟨g, 0, none⟩, cap, _, ?_, hroom, .inr (.inl ⟨g, rfl, rfl, rfl, rfl⟩)⟩
      rcases hd with ⟨e', hd⟩ | hd <;> simp [Builtin.append_, run_underlying ht, run_underlying hd, sizeOf, typeInfo, hi, hl, hf, hroom, Addr.add_lit, hst]
  · have holds : (Builtin.firstCells j.size n (.slice A n cap)).run P w.drew = .ok olds.toArray w.drew := by
      rcases hA with ⟨rfl, rfl, rfl, rfl⟩ | ⟨g, rfl, hg⟩
      · simp [Builtin.firstCells]
      · have := run_loadCells_list (P := P) w.drew ⟨g, 0, none⟩ olds (fun q u hq => by
          rw [Addr.add_mid, Nat.zero_add]
          have : w.cell? ⟨g, q, none⟩ = some u := by
            simp [World.cell?, hg, List.getElem?_append, (List.getElem?_eq_some_iff.1 hq).1]
            exact (List.getElem?_eq_some_iff.1 hq).2
          exact this)
        rw [hlo] at this
        simp [Builtin.firstCells, this]
    have h63' : ¬ (9223372036854775807 < ((n + m : Nat) : Int)) := by omega
    have hfit := growslice_fits (need := n + m) (old := cap) (bytes := j.bytes) (by omega) hb
    have h48' : ¬ (281474976710656 < Builtin.nextslicecap (n + m) cap * j.bytes) := by omega
    refine ⟨some ⟨w.heap.size, 0, none⟩, grownCap w (n + m) cap e, w.drew.alloc (.cells (olds ++ news ++ (Builtin.zeroCells z.cells (grownCap w (n + m) cap e - (n + m))).toList).toArray e), ?_, grownCap_ge _ _ _ _, .inr (.inr ⟨rfl, by omega, rfl⟩)⟩
    have eqa : ∀ zz : Array Value, olds.toArray ++ (news.toArray ++ zz) = (olds ++ (news ++ zz.toList)).toArray := fun zz => by apply Array.ext'; simp
    have hfo : (Question.appendCap (n + m) cap e).forced = false := rfl
    simp only [Int.natCast_add] at h63'
    rcases hd with ⟨e', hd⟩ | hd <;> simp [Builtin.append_, run_underlying ht, run_underlying hd, sizeOf, typeInfo, hi, hl, hf', holds, hroom, h63', h48', hfo, askRoom, zeroValue, hz, newRow, grownCap, List.append_assoc] <;> rw [eqa]
def Grow (W0 W : World) (bs : List (Nat × List Value × Nat)) (v : Value) (n : Nat) (cells : List Value) (e sz : Nat) : Prop :=
  (v = .slice none 0 0 ∧ n = 0 ∧ cells = [] ∧ HP W0 W bs) ∨ ∃ g cap spare, v = .slice (some ⟨g, 0, none⟩) n cap ∧ n ≤ cap ∧ cells.length = n * sz ∧ (cells ++ spare).length = cap * sz ∧ HP W0 W ((g, cells ++ spare, e) :: bs)
namespace Grow
variable {W0 W W' : World} {bs : List (Nat × List Value × Nat)} {v : Value} {n e sz : Nat} {cells : List Value}
theorem start (h : HP W0 W bs) : Grow W0 W bs (.slice none 0 0) 0 [] e sz := .inl ⟨rfl, rfl, rfl, h⟩
theorem hp (h : Grow W0 W bs v n cells e sz) : HP W0 W bs := by
  rcases h with ⟨_, _, _, h⟩ | ⟨g, cap, spare, _, _, _, _, h⟩
  · exact h
  · exact h.sub (List.sublist_cons_self _ _)
theorem below (h : Grow W0 W bs v n cells e sz) (hb : Below W.heap.size W W') : Grow W0 W' bs v n cells e sz := by
  rcases h with ⟨h1, h2, h3, h⟩ | ⟨g, cap, spare, h1, h2, h3, h4, h⟩
  · exact .inl ⟨h1, h2, h3, h.below hb⟩
  · exact .inr ⟨g, cap, spare, h1, h2, h3, h4, h.below hb⟩
theorem grown (h : Grow W0 W bs v n cells e sz) (hg : W.grownBy W' none) : Grow W0 W' bs v n cells e sz := h.below ((Below.refl _ _).grown hg (Nat.le_refl _) (fun k hk => by cases hk))
theorem drew (h : Grow W0 W bs v n cells e sz) : Grow W0 { W with drawn := W.drawn + 1 } bs v n cells e sz := h.below (Below.refl _ _).drew
theorem drewN (h : Grow W0 W bs v n cells e sz) (k : Nat) : Grow W0 (W.drewN k) bs v n cells e sz := h.grown ⟨rfl, rfl, rfl, Nat.le_refl _, fun _ _ _ => rfl⟩
theorem push {g t : Nat} {cs : List Value} (h : Grow W0 W bs v n cells e sz) (hb : Below W.heap.size W W') (hg : W.heap.size ≤ g) (hW : W'.heap[g]? = some (.cells cs.toArray t (0, 0))) : Grow W0 W' ((g, cs, t) :: bs) v n cells e sz := by
  rcases h with ⟨h1, h2, h3, h⟩ | ⟨g', cap, spare, h1, h2, h3, h4, h⟩
  · exact .inl ⟨h1, h2, h3, h.push hb hg hW⟩
  · exact .inr ⟨g', cap, spare, h1, h2, h3, h4, (h.push hb hg hW).perm (List.Perm.swap _ _ _)⟩
theorem alloc (h : Grow W0 W bs v n cells e sz) (cs : List Value) (t : Nat) : Grow W0 (W.alloc (.cells cs.toArray t)) ((W.heap.size, cs, t) :: bs) v n cells e sz :=
  h.push ((Below.refl _ _).alloc (Nat.le_refl _) _) (Nat.le_refl _) (heap_alloc_last W _)
theorem mod {i g t : Nat} {cs cs' : List Value} (h : Grow W0 W bs v n cells e sz) (hi : bs[i]? = some (g, cs, t)) (hg : W.grownBy W' (some g)) (hW : W'.heap[g]? = some (.cells cs'.toArray t (0, 0))) : Grow W0 W' (bs.set i (g, cs', t)) v n cells e sz := by
  rcases h with ⟨h1, h2, h3, h⟩ | ⟨g', cap, spare, h1, h2, h3, h4, h⟩
  · exact .inl ⟨h1, h2, h3, h.mod hi hg hW⟩
  · exact .inr ⟨g', cap, spare, h1, h2, h3, h4, h.mod (i := i + 1) hi hg hW⟩
theorem sub {bs' : List (Nat × List Value × Nat)} (h : Grow W0 W bs v n cells e sz) (hs : bs'.Sublist bs) : Grow W0 W bs' v n cells e sz := by
  rcases h with ⟨h1, h2, h3, h⟩ | ⟨g', cap, spare, h1, h2, h3, h4, h⟩
  · exact .inl ⟨h1, h2, h3, h.sub hs⟩
  · exact .inr ⟨g', cap, spare, h1, h2, h3, h4, h.sub (hs.cons_cons _)⟩
theorem form (h : Grow W0 W bs v n cells e sz) : ∃ A cap, v = .slice A n cap := by
  rcases h with ⟨h1, h2, h3, h⟩ | ⟨g', cap, spare, h1, h2, h3, h4, h⟩
  · exact ⟨none, 0, by rw [h1, h2]⟩
  · exact ⟨_, cap, h1⟩
theorem len (h : Grow W0 W bs v n cells e sz) : cells.length = n * sz := by
  rcases h with ⟨h1, h2, h3, h⟩ | ⟨g', cap, spare, h1, h2, h3, h4, h⟩
  · simp [h2, h3]
  · exact h3
end Grow
theorem ow_append {P : Program} {Q : Exit → Act → World → Prop} {N : Nat} {sl : List (Nat × Value)} {W0 W : World} {ops : Array Oper} {rest : List Oper} {d : Nat} {ty t xT e : TypeId} {pos : String} {aft : Array Edge} {x y : Operand} {bs : List (Nat × List Value × Nat)} {v u z : Value} {n m sz bytes : Nat} {cells news : List Value}
    (hG : Grow W0 W bs v n cells e sz) (hx : sv sl x = some v) (hy : sv sl y = some u) (ht : P.underlying t = some (.slice e)) (hj : (P.info? e).map (fun j => (j.zero, j.size, j.bytes)) = some (some z, sz, bytes)) (hzc : z.cells.size = sz) (hT : Takes P xT u m sz news W) (h63 : n + m ≤ 9223372036854775807) (hb : (n + m) * bytes ≤ 140737488355328) (hd : Nat.blt d N = true)
    (h : ∀ v' W', W.grownBy W' v.ownBlock → Grow W0 W' bs v' (n + m) (cells ++ news) e sz → OW P ops Q rest N ((d, v') :: sl) W') : OW P ops Q (⟨some d, .call ⟨.builtin .append, #[x, y], #[t, xT]⟩, ty, pos, aft, none⟩ :: rest) N sl W := by
  obtain ⟨j, hj1, hj2⟩ := Option.map_eq_some_iff.1 hj
  simp only [Prod.mk.injEq] at hj2
  obtain ⟨hz, rfl, rfl⟩ := hj2
  have hP := hG.hp
  have run : ∀ {A : Option Addr} {cap : Nat} {v' : Value} {w' : World}, v = .slice A n cap → (Builtin.append_ #[t, xT] ty #[.slice A n cap, u]).run P W = .ok v' w' → OW P ops Q rest N ((d, v') :: sl) w' → OW P ops Q (⟨some d, .call ⟨.builtin .append, #[x, y], #[t, xT]⟩, ty, pos, aft, none⟩ :: rest) N sl W := fun {A cap v' w'} hv hr hk =>
    ow_step (fun f hf => by
      have e1 := hf.ev hx
      rw [hv] at e1
      simp [execOp, resolve, invoke, builtin, e1, hf.ev hy, hr]) hd hk
  have done : ∀ (n0 : Nat) (olds : List Value) (cap' : Nat), n0 + m ≤ cap' → olds.length = n0 * j.size → Grow W0 (W.drew.alloc (.cells (olds ++ news ++ (Builtin.zeroCells z.cells (cap' - (n0 + m))).toList).toArray e)) bs (.slice (some ⟨W.heap.size, 0, none⟩) (n0 + m) cap') (n0 + m) (olds ++ news) e j.size ∧ ∀ row, W.grownBy (W.drew.alloc (.cells (olds ++ news ++ (Builtin.zeroCells z.cells (cap' - (n0 + m))).toList).toArray e)) row := fun n0 olds cap' hc ho => by
    have hl : (olds ++ news).length = (n0 + m) * j.size := by rw [List.length_append, ho, hT.size, Nat.add_mul]
    refine ⟨.inr ⟨_, cap', (Builtin.zeroCells z.cells (cap' - (n0 + m))).toList, rfl, hc, hl, ?_, ?_⟩, fun row => ⟨rfl, rfl, rfl, by simp, fun k hk _ => Below.heap_alloc W.drew _ k hk⟩⟩
    · rw [List.length_append, hl, Array.length_toList, size_zeroCells, hzc, ← Nat.add_mul]
      congr 1
      omega
    · exact (hP.drew).alloc _ _
  rcases hG with ⟨rfl, rfl, rfl, _⟩ | ⟨g, cap, spare, rfl, hnc, hl, hl2, hP'⟩
  · obtain ⟨A', cap', w', hr, hc, hw⟩ := run_append_takes (P := P) (w := W) (ty := ty) (A := none) (n := 0) (cap := 0) (olds := []) (spare := []) ht hj1 hz hT (.inl ⟨rfl, rfl, rfl, rfl⟩) (by simp) (by simp) (Nat.le_refl _) h63 hb
    rcases hw with ⟨_, rfl, rfl, rfl, rfl⟩ | ⟨g, hg, _⟩ | ⟨rfl, hm, rfl⟩
    · have hn : news = [] := List.eq_nil_of_length_eq_zero (by rw [hT.size, Nat.zero_mul])
      subst hn
      exact run rfl hr (h _ _ ⟨rfl, rfl, rfl, Nat.le_refl _, fun _ _ _ => rfl⟩ (.inl ⟨rfl, rfl, rfl, hP⟩))
    · cases hg
    · obtain ⟨k1, k2⟩ := done 0 [] cap' hc (by simp)
      exact run rfl hr (h _ _ (k2 _) k1)
  · obtain ⟨A', cap', w', hr, hc, hw⟩ := run_append_takes (P := P) (w := W) (ty := ty) (A := some ⟨g, 0, none⟩) (n := n) (cap := cap) (olds := cells) (spare := spare) ht hj1 hz hT (.inr ⟨g, rfl, hP'.blk (i := 0) rfl⟩) hl hl2 hnc h63 hb
    rcases hw with ⟨hA, _⟩ | ⟨g', hg, rfl, rfl, rfl⟩ | ⟨rfl, hm, rfl⟩
    · cases hA
    · cases hg
      refine run rfl hr (h _ _ (setRow_grown _ _ _) (.inr ⟨g, _, spare.drop news.length, rfl, hc, by rw [List.length_append, hl, hT.size, Nat.add_mul], ?_, hP'.row (i := 0) rfl _⟩))
      have h3 : news.length ≤ spare.length := by
        rw [List.length_append, hl] at hl2
        have : (n + m) * j.size ≤ _ * j.size := Nat.mul_le_mul_right j.size hc
        rw [Nat.add_mul, ← hT.size, ← hl2] at this
        omega
      rw [List.length_append, List.length_append, List.length_drop]
      rw [List.length_append] at hl2
      omega
    · obtain ⟨k1, k2⟩ := done n cells cap' hc hl
      exact run rfl hr (h _ _ (k2 _) k1)
section
variable {P : Program} {Q : Exit → Act → World → Prop} {n : Nat} {sl : List (Nat × Value)} {W : World} {ops : Array Oper} {rest : List Oper} {d : Nat} {ty : TypeId} {pos : String} {aft : Array Edge} {f : FuncId} {args : List Operand} {ats : Array TypeId} {vs : List Value}
def Enters (P : Program) (f : FuncId) : Prop := ∀ args w, (callFunc f args).run P w = .ok (.enter f args) w
theorem run_call (he : Enters P f) {a : Act} (ha : Fits n sl a) (hargs : svs sl args = some vs) {dst : Option Tmp} {g : Option (Nat × Bool)} :
    (execOp a.eval ⟨dst, .call ⟨.value (.func f), args.toArray, ats⟩, ty, pos, aft, g⟩).run P W = .ok (.enter f vs.toArray) W := by
  have h1 := ha.evs hargs
  have h2 := he vs.toArray W
  simp [execOp, resolve, Deferred.ofValue, invoke, Act.eval, h1, h2]
theorem ow_call {R : Ending → World → Prop} (he : Enters P f) (hargs : svs sl args = some vs) (hc : Calls P f vs.toArray W R) (hd : Nat.blt d n = true)
    (h : ∀ e W', R e W' → ∃ v, e = .returned v ∧ OW P ops Q rest n ((d, v) :: sl) W') : OW P ops Q (⟨some d, .call ⟨.value (.func f), args.toArray, ats⟩, ty, pos, aft, none⟩ :: rest) n sl W := fun a ha => by
  refine wpList_plain rfl fun K hK => ?_
  unfold Oper.wp
  rw [run_call he ha hargs, Oper.upon_enter]
  refine hc.mono fun e W' hr => ?_
  obtain ⟨v, rfl, hk⟩ := h e W' hr
  exact hK _ _ (hk _ (ha.put hd v))
end
def Mild (Q : Exit → Act → World → Prop) : Prop := ∀ c d v a w, Q (.panic c) (a.put d v) w → Q (.panic c) a w
theorem mild_then {K : Act → World → Prop} {Q : Exit → Act → World → Prop} (h : Mild Q) : Mild (Exit.then K Q) := h
theorem mild_block {id : Nat} {Q : Exit → Act → World → Prop} (h : Mild Q) : Mild (Exit.inBlock id Q) := h
theorem mild_body {P : Program} {fn : Func} {R : Ending → World → Prop} : Mild (bodyPost P fn R) := fun c d v a w h => by
  cases d with
  | none => exact h
  | some d => exact h
def HW (P : Program) (ops : Array Oper) (Q : Exit → Act → World → Prop) (S : World → Prop) (fuel : Nat) (listed : Array Bool) (n : Nat) (sl : List (Nat × Value)) (w : World) : Prop :=
  ∀ a, Fits n sl a → wpAnyH P .any ops Q S fuel listed a w
section
variable {P : Program} {Q : Exit → Act → World → Prop} {S : World → Prop} {n : Nat} {sl : List (Nat × Value)} {w w' : World} {ops : Array Oper} {listed listed' : Array Bool} {fuel i d : Nat} {op : Op} {ty : TypeId} {pos : String} {aft : Array Edge} {v : Value} {oi : Oper}
theorem cw_held {id : Nat} (S : World → Prop) (hm : P.follows .mixedOrders = true) (h : HW P ops Q S ops.size (Array.replicate ops.size false) n sl { w with drawn := w.drawn + 1 }) : CW P (.region id ops true) Q n sl w := fun a ha => wp_region_held hm (h a ha)
theorem hw_take (i : Nat) {oi : Oper} {d : Nat} (hi : ops[i]? = some oi) (hg : oi.guard = none) (hdst : oi.dst = some d) (hs : Region.noSelect ops = true) (hf : Region.free .any ops listed i = true) (hr : (Region.ready .any ops listed).contains i = true) (hQ : Mild Q)
    (hS : S w) (hy : ∀ w, S w → Runs P oi n sl w v w) (hd : Nat.blt d n = true) (h : HW P ops Q S fuel (listed.setIfInBounds i true) n ((d, v) :: sl) w) : HW P ops Q S (fuel + 1) listed n sl w := fun a ha => by
  refine wpAnyH_take hi hs hf hr (fun c a w hq => hQ c _ _ a w hq) (.inl ⟨by simp [Region.wanted, hg], fun w hw => hy w hw a ha⟩) hS ?_
  rw [hdst]
  exact h _ (ha.put hd v)
def NW (P : Program) (ops : Array Oper) (Q : Exit → Act → World → Prop) (S : World → Prop) (fuel : Nat) (listed : Array Bool) (n : Nat) (sl : List (Nat × Value)) (w : World) (i : Nat) : Prop :=
  ∀ a, Fits n sl a → wpOp P ops Q i (fun a' w' => S w' ∧ wpAnyH P .any ops Q S fuel (listed.setIfInBounds i true) a' w') a w
theorem hw_all (rs : List Nat) (hr : Region.ready .any ops listed = rs) (hne : rs ≠ []) (h : ∀ i ∈ rs, NW P ops Q S fuel listed n sl w i) : HW P ops Q S (fuel + 1) listed n sl w := fun a ha =>
  wpAnyH_all hr hne (fun i hi => h i hi a ha)
theorem hw_one (i : Nat) (hr : Region.ready .any ops listed = [i]) (h : NW P ops Q S fuel listed n sl w i) : HW P ops Q S (fuel + 1) listed n sl w :=
  hw_all [i] hr (by simp) (fun j hj => by rw [List.mem_singleton] at hj; subst hj; exact h)
theorem hw_done (hr : Region.ready .any ops listed = []) (h : EW Q .normal n sl w) : HW P ops Q S fuel listed n sl w := fun a ha => wpAnyH_done hr (h a ha) fuel
theorem nw_of {oi : Oper} (hi : ops[i]? = some oi) (h : OW P ops (Exit.then (fun a' w' => S w' ∧ wpAnyH P .any ops Q S fuel (listed.setIfInBounds i true) a' w') Q) [oi] n sl w) (hQ : LetsOut (Exit.then (fun a' w' => S w' ∧ wpAnyH P .any ops Q S fuel (listed.setIfInBounds i true) a' w') Q) → LetsOut Q) : NW P ops Q S fuel listed n sl w i := fun a ha => by
  have h1 := h a ha
  unfold wpOp
  rw [hi]
  unfold wpList at h1
  simp only
  split
  · rename_i hw
    rw [if_pos hw] at h1
    rcases h1 with h1 | ⟨h1, h2⟩
    · left
      unfold Oper.wp at h1 ⊢
      revert h1
      generalize (execOp a.eval oi).run P w = r
      intro h1
      cases r with
      | ok x w' =>
        cases x <;> simp only [Oper.upon] at h1 ⊢
        case value v => exact h1
        case skip => exact h1
        case defer v => exact h1
        case enter f args => exact h1.mono (fun e w' he => by cases e <;> exact he)
        case row r args => exact h1.mono (fun v w' he => he)
      | halt x w' =>
        cases x <;> simp only [Oper.upon] at h1 ⊢
        case panic v => exact h1
    · exact .inr ⟨h1, hQ h2⟩
  · rename_i hw
    rw [if_neg hw] at h1
    exact h1
theorem lets_then {K : Act → World → Prop} : LetsOut (Exit.then K Q) → LetsOut Q := fun ⟨a, w, h⟩ => ⟨a, w, h⟩
theorem ew_held (hS : S w) (h : HW P ops Q S fuel (listed.setIfInBounds i true) n sl w) : EW (Exit.then (fun a' w' => S w' ∧ wpAnyH P .any ops Q S fuel (listed.setIfInBounds i true) a' w') Q) .normal n sl w := fun a ha => ⟨hS, h a ha⟩
end
def QW (P : Program) (ops : Array Oper) (C : World → Prop) (Q : Act → Prop) (rest : List Oper) (n : Nat) (sl : List (Nat × Value)) : Prop := ∀ a, Fits n sl a → wpQuiet P ops C Q rest a
section
variable {P : Program} {Q : Exit → Act → World → Prop} {Q1 : Act → Prop} {C : World → Prop} {n : Nat} {sl : List (Nat × Value)} {w : World} {ops : Array Oper} {rest : List Oper} {d : Nat} {op : Op} {ty : TypeId} {pos : String} {aft : Array Edge} {v : Value}
theorem cw_quiet {id : Nat} {l : List Oper} (C : World → Prop) (hm : P.follows .mixedOrders = true) (hB : Region.lexB .any l.toArray = true) (hC : C { w with drawn := w.drawn + 1 })
    (h : QW P l.toArray C (fun a' => ∀ w', C w' → Q .normal a' w') l n sl) : CW P (.region id l.toArray true) Q n sl w := fun a ha =>
  wp_region_quiet hm hB hC (by simpa using h a ha)
theorem qw_nil (h : ∀ w', C w' → EW Q .normal n sl w') : QW P ops C (fun a' => ∀ w', C w' → Q .normal a' w') [] n sl := fun a ha w' hw => h w' hw a ha
theorem qw_step (hr : ∀ w, C w → Runs P ⟨some d, op, ty, pos, aft, none⟩ n sl w v w) (hd : Nat.blt d n = true) (h : QW P ops C Q1 rest n ((d, v) :: sl)) : QW P ops C Q1 (⟨some d, op, ty, pos, aft, none⟩ :: rest) n sl := fun a ha => by
  unfold wpQuiet
  rw [if_pos (by rfl)]
  exact ⟨v, fun w hw => by unfold Oper.quietAt; rw [hr w hw a ha]; exact ⟨rfl, rfl⟩, h _ (ha.put hd v)⟩
theorem qw_call {f : FuncId} {args : List Operand} {ats : Array TypeId} {vs : List Value} (he : Enters P f) (hargs : svs sl args = some vs) (hc : ∀ w, C w → Calls P f vs.toArray w (fun e w' => e = .returned v ∧ C w')) (hd : Nat.blt d n = true) (h : QW P ops C Q1 rest n ((d, v) :: sl)) :
    QW P ops C Q1 (⟨some d, .call ⟨.value (.func f), args.toArray, ats⟩, ty, pos, aft, none⟩ :: rest) n sl := fun a ha => by
  unfold wpQuiet
  rw [if_pos (by rfl)]
  exact ⟨v, fun w hw => by unfold Oper.quietAt; rw [run_call he ha hargs]; exact ⟨rfl, hc w hw⟩, h _ (ha.put hd v)⟩
theorem qw_guard {dst : Option Tmp} {j : Nat} {b want : Bool} {t : Nat} (hd : (ops[j]?).bind (·.dst) = some t) (hv : get sl t = some (.bool b)) (hs : Nat.blt t n = true) (hb : (b == want) = true)
    (h : QW P ops C Q1 (⟨dst, op, ty, pos, aft, none⟩ :: rest) n sl) : QW P ops C Q1 (⟨dst, op, ty, pos, aft, some (j, want)⟩ :: rest) n sl := fun a ha => by
  have h1 := h a ha
  have h2 := wanted_at (o := ⟨dst, op, ty, pos, aft, some (j, want)⟩) ha rfl hd hv hs
  unfold wpQuiet at h1 ⊢
  rw [h2, hb, if_pos rfl]
  rw [if_pos (by rfl)] at h1
  exact h1
theorem qw_pass {j : Nat} {b want : Bool} {t : Nat} (hd : (ops[j]?).bind (·.dst) = some t) (hv : get sl t = some (.bool b)) (hs : Nat.blt t n = true) (hb : (b == want) = false) (hn : Nat.blt d n = true)
    (h : QW P ops C Q1 rest n ((d, undef) :: sl)) : QW P ops C Q1 (⟨some d, op, ty, pos, aft, some (j, want)⟩ :: rest) n sl := fun a ha => by
  have h2 := wanted_at (o := ⟨some d, op, ty, pos, aft, some (j, want)⟩) ha rfl hd hv hs
  unfold wpQuiet
  rw [h2, hb, if_neg (by simp)]
  exact h _ (ha.put hn undef)
end
section
variable {P : Program} {Q : Exit → Act → World → Prop} {Q1 : Act → Prop} {C : World → Prop} {n : Nat} {sl sl' : List (Nat × Value)} {w w' : World} {ops : Array Oper} {l rest : List Oper} {p m d t j : Nat} {b e want : Bool} {op : Op} {ty : TypeId} {pos : String} {aft : Array Edge} {I : World → Prop}
theorem wpList_app {Q : Exit → Act → World → Prop} {K : Act → World → Prop} : ∀ (l1 l2 : List Oper) (a : Act) (w : World), wpList P ops (Exit.then K Q) l1 a w → (∀ a w, K a w → wpList P ops Q l2 a w) → wpList P ops Q (l1 ++ l2) a w
  | [], l2, a, w, h, k => k a w h
  | o :: r, l2, a, w, h, k => by
    rw [List.cons_append]
    unfold wpList at h ⊢
    split
    · rename_i hw
      rw [if_pos hw] at h
      rcases h with h | ⟨h1, h2⟩
      · refine .inl ?_
        unfold Oper.wp at h ⊢
        revert h
        generalize (execOp a.eval o).run P w = r'
        intro h
        cases r' with
        | ok x w' =>
          cases x <;> simp only [Oper.upon] at h ⊢
          case value v => exact wpList_app r l2 _ _ h k
          case skip => exact wpList_app r l2 _ _ h k
          case defer v => exact wpList_app r l2 _ _ h k
          case enter f args => exact h.mono (fun e w' he => by
            cases e with
            | returned v => exact wpList_app r l2 _ _ he k
            | panicked c => exact he
            | outgrown => exact he)
          case row row args => exact h.mono (fun v w' he => wpList_app r l2 _ _ he k)
        | halt x w' =>
          cases x <;> simp only [Oper.upon] at h ⊢
          case panic v => exact h
      · exact .inr ⟨h1, h2⟩
    · rename_i hw
      rw [if_neg hw] at h
      exact wpList_app r l2 _ _ h k
theorem ow_join (k : Nat) {I : World → Prop} {v : Value} (h1 : OW P ops (Exit.then (fun a w' => Fits n ((p, v) :: sl) a ∧ I w') Q) (l.take k) n sl w) (h2 : ∀ w', I w' → OW P ops Q (l.drop k) n ((p, v) :: sl) w') : OW P ops Q l n sl w := fun a ha => by
  have := wpList_app (P := P) (ops := ops) (Q := Q) (l.take k) (l.drop k) a w (h1 a ha) (fun a w' hk => h2 w' hk.2 a hk.1)
  rwa [List.take_append_drop] at this
theorem ow_and (k : Nat) (I : World → Prop) (hb : get sl m = some (.bool b))
    (h1 : b = true → OW P ops (Exit.then (fun a w' => Fits n ((p, .bool e) :: sl) a ∧ I w') Q) (l.take k) n sl w)
    (h0 : b = false → OW P ops (Exit.then (fun a w' => Fits n ((p, .bool false) :: sl) a ∧ I w') Q) (l.take k) n sl w)
    (h2 : ∀ w', I w' → OW P ops Q (l.drop k) n ((p, .bool (b && e)) :: sl) w') : OW P ops Q l n sl w := by
  cases b with
  | true => exact ow_join k (h1 rfl) h2
  | false => exact ow_join k (h0 rfl) h2
theorem ow_or (k : Nat) (I : World → Prop) (hb : get sl m = some (.bool b))
    (h1 : b = false → OW P ops (Exit.then (fun a w' => Fits n ((p, .bool e) :: sl) a ∧ I w') Q) (l.take k) n sl w)
    (h0 : b = true → OW P ops (Exit.then (fun a w' => Fits n ((p, .bool true) :: sl) a ∧ I w') Q) (l.take k) n sl w)
    (h2 : ∀ w', I w' → OW P ops Q (l.drop k) n ((p, .bool (b || e)) :: sl) w') : OW P ops Q l n sl w := by
  cases b with
  | true => exact ow_join k (h0 rfl) h2
  | false => exact ow_join k (h1 rfl) h2
theorem subs_cons {S : List (Nat × Value)} {v : Value} (hp : get sl' p = some v) (hs : subs S sl') : subs ((p, v) :: S) sl' := ⟨hp, hs⟩
theorem ew_logic {v : Value} (hp : get sl' p = some v) (hs : subs sl sl') (hI : I w) : EW (Exit.then (fun a w' => Fits n ((p, v) :: sl) a ∧ I w') Q) .normal n sl' w := fun a ha => ⟨ha.sub (subs_cons hp hs), hI⟩
theorem ow_passU {v : Value} (hd : (ops[j]?).bind (·.dst) = some t) (hv : get sl t = some v) (hu : v = undef) (hn : Nat.blt d n = true)
    (h : OW P ops Q rest n ((d, undef) :: sl) w) : OW P ops Q (⟨some d, op, ty, pos, aft, some (j, want)⟩ :: rest) n sl w := fun a ha => by
  subst hu
  have h1 := ha.at_ t _ hv
  have h2 : Region.wanted ⟨some d, op, ty, pos, aft, some (j, want)⟩ (yielded ops a.tmps) = false := by
    have h3 : yielded ops a.tmps j = none := by
      simp only [yielded, hd, Option.bind_some]
      cases hq : a.tmps[t]? with
      | none => rfl
      | some u =>
        have : a.tmps.getD t undef = u := by rw [Array.getD_eq_getD_getElem?, hq]; rfl
        rw [this] at h1
        subst h1
        rfl
    simp [Region.wanted, h3]
  unfold wpList
  rw [h2, if_neg (by simp)]
  exact h _ (ha.put hn undef)
theorem r_pickT {x y c : Operand} {v : Value} {dst : Option Tmp} {g : Option (Nat × Bool)} (hc : sv sl c = some (.bool b)) (hb : b = true) (hx : sv sl x = some v) : Runs P ⟨dst, .pick c x y, ty, pos, aft, g⟩ n sl w v w := fun a ha => by
  subst hb; simp [execOp, ha.ev hc, ha.ev hx, asBool]
theorem r_pickF {x y c : Operand} {v : Value} {dst : Option Tmp} {g : Option (Nat × Bool)} (hc : sv sl c = some (.bool b)) (hb : b = false) (hy : sv sl y = some v) : Runs P ⟨dst, .pick c x y, ty, pos, aft, g⟩ n sl w v w := fun a ha => by
  subst hb; simp [execOp, ha.ev hc, ha.ev hy, asBool]
theorem wpQuiet_app {K Q1 : Act → Prop} : ∀ (l1 l2 : List Oper) (a : Act), wpQuiet P ops C K l1 a → (∀ a, K a → wpQuiet P ops C Q1 l2 a) → wpQuiet P ops C Q1 (l1 ++ l2) a
  | [], l2, a, h, k => k a h
  | o :: r, l2, a, h, k => by
    rw [List.cons_append]
    unfold wpQuiet at h ⊢
    split
    · rename_i hw
      rw [if_pos hw] at h
      obtain ⟨v, h1, h2⟩ := h
      exact ⟨v, h1, wpQuiet_app r l2 _ h2 k⟩
    · rename_i hw
      rw [if_neg hw] at h
      exact wpQuiet_app r l2 _ h k
theorem qw_join (k : Nat) {v : Value} (h1 : QW P ops C (fun a => Fits n ((p, v) :: sl) a) (l.take k) n sl) (h2 : QW P ops C Q1 (l.drop k) n ((p, v) :: sl)) : QW P ops C Q1 l n sl := fun a ha => by
  have := wpQuiet_app (P := P) (ops := ops) (C := C) (Q1 := Q1) (l.take k) (l.drop k) a (h1 a ha) (fun a hk => h2 a hk)
  rwa [List.take_append_drop] at this
theorem qw_and (k : Nat) (hb : get sl m = some (.bool b))
    (h1 : b = true → QW P ops C (fun a => Fits n ((p, .bool e) :: sl) a) (l.take k) n sl)
    (h0 : b = false → QW P ops C (fun a => Fits n ((p, .bool false) :: sl) a) (l.take k) n sl)
    (h2 : QW P ops C Q1 (l.drop k) n ((p, .bool (b && e)) :: sl)) : QW P ops C Q1 l n sl := by
  cases b with
  | true => exact qw_join k (h1 rfl) h2
  | false => exact qw_join k (h0 rfl) h2
theorem qw_or (k : Nat) (hb : get sl m = some (.bool b))
    (h1 : b = false → QW P ops C (fun a => Fits n ((p, .bool e) :: sl) a) (l.take k) n sl)
    (h0 : b = true → QW P ops C (fun a => Fits n ((p, .bool true) :: sl) a) (l.take k) n sl)
    (h2 : QW P ops C Q1 (l.drop k) n ((p, .bool (b || e)) :: sl)) : QW P ops C Q1 l n sl := by
  cases b with
  | true => exact qw_join k (h0 rfl) h2
  | false => exact qw_join k (h1 rfl) h2
theorem qw_end {v : Value} (hp : get sl' p = some v) (hs : subs sl sl') : QW P ops C (fun a => Fits n ((p, v) :: sl) a) [] n sl' := fun a ha => ha.sub (subs_cons hp hs)
theorem qw_passU {v : Value} (hd : (ops[j]?).bind (·.dst) = some t) (hv : get sl t = some v) (hu : v = undef) (hn : Nat.blt d n = true)
    (h : QW P ops C Q1 rest n ((d, undef) :: sl)) : QW P ops C Q1 (⟨some d, op, ty, pos, aft, some (j, want)⟩ :: rest) n sl := fun a ha => by
  subst hu
  have h1 := ha.at_ t _ hv
  have h2 : Region.wanted ⟨some d, op, ty, pos, aft, some (j, want)⟩ (yielded ops a.tmps) = false := by
    have h3 : yielded ops a.tmps j = none := by
      simp only [yielded, hd, Option.bind_some]
      cases hq : a.tmps[t]? with
      | none => rfl
      | some u =>
        have : a.tmps.getD t undef = u := by rw [Array.getD_eq_getD_getElem?, hq]; rfl
        rw [this] at h1
        subst h1
        rfl
    simp [Region.wanted, h3]
  unfold wpQuiet
  rw [h2, if_neg (by simp)]
  exact h _ (ha.put hn undef)
end
section
variable {P : Program} {n : Nat} {sl : List (Nat × Value)} {w : World} {dst : Option Tmp} {ty t t2 : TypeId} {pos : String} {aft : Array Edge} {g : Option (Nat × Bool)} {x y : Operand} {b c : Bool}
theorem r_beq (hx : sv sl x = some (.bool b)) (hy : sv sl y = some (.bool c)) (ht : P.underlying t = some .bool) : Runs P ⟨dst, .binOp .eql t x y t2, ty, pos, aft, g⟩ n sl w (.bool (b == c)) w := fun f hf => by
  simp [execOp, hf.ev hx, hf.ev hy, eqGuard_at_bool, run_eql_bool _ _ _ _ ht]
theorem r_bne (hx : sv sl x = some (.bool b)) (hy : sv sl y = some (.bool c)) (ht : P.underlying t = some .bool) : Runs P ⟨dst, .binOp .neq t x y t2, ty, pos, aft, g⟩ n sl w (.bool (!(b == c))) w := fun f hf => by
  simp [execOp, hf.ev hx, hf.ev hy, eqGuard_at_bool, run_neq_bool _ _ _ _ ht]
theorem r_sadd {s s2 : ByteArray} (hx : sv sl x = some (.string s)) (hy : sv sl y = some (.string s2)) (h : s.size + s2.size ≤ 9223372036854775807) : Runs P ⟨dst, .binOp .add t x y t2, ty, pos, aft, g⟩ n sl w (.string (s ++ s2)) w := fun f hf => by
  simp [execOp, hf.ev hx, hf.ev hy, eqGuard_add, binOp_string_add, run_string_add_if]
  omega
end
section
variable {P : Program} {Q : Exit → Act → World → Prop} {Q1 : Act → Prop} {n : Nat} {sl : List (Nat × Value)} {W0 w : World} {bs : List (Nat × List Value × Nat)} {ops : Array Oper} {l : List Oper} {p m : Nat} {b e : Bool}
theorem cw_quietP {id : Nat} {l : List Oper} (hP : HP W0 w bs) (hm : P.follows .mixedOrders = true) (hB : Region.lexB .any l.toArray = true)
    (h : QW P l.toArray (fun w' => HP W0 w' bs) (fun a' => ∀ w', HP W0 w' bs → Q .normal a' w') l n sl) : CW P (.region id l.toArray true) Q n sl w := cw_quiet _ hm hB hP.drew h
theorem ow_andP (k : Nat) (hP : HP W0 w bs) (hb : get sl m = some (.bool b))
    (h1 : b = true → OW P ops (Exit.then (fun a w' => Fits n ((p, .bool e) :: sl) a ∧ HP W0 w' bs) Q) (l.take k) n sl w)
    (h0 : b = false → OW P ops (Exit.then (fun a w' => Fits n ((p, .bool false) :: sl) a ∧ HP W0 w' bs) Q) (l.take k) n sl w)
    (h2 : ∀ w', HP W0 w' bs → OW P ops Q (l.drop k) n ((p, .bool (b && e)) :: sl) w') : OW P ops Q l n sl w := ow_and k (fun w' => HP W0 w' bs) hb h1 h0 h2
theorem ow_orP (k : Nat) (hP : HP W0 w bs) (hb : get sl m = some (.bool b))
    (h1 : b = false → OW P ops (Exit.then (fun a w' => Fits n ((p, .bool e) :: sl) a ∧ HP W0 w' bs) Q) (l.take k) n sl w)
    (h0 : b = true → OW P ops (Exit.then (fun a w' => Fits n ((p, .bool true) :: sl) a ∧ HP W0 w' bs) Q) (l.take k) n sl w)
    (h2 : ∀ w', HP W0 w' bs → OW P ops Q (l.drop k) n ((p, .bool (b || e)) :: sl) w') : OW P ops Q l n sl w := ow_or k (fun w' => HP W0 w' bs) hb h1 h0 h2
end
end Go.Proofs.YtlhmbncalonomaaDoor.Sx
namespace Go.Proofs.YtlhmbncalonomaaDoor.Sx
open Go.RowKit
set_option linter.unusedVariables false
set_option linter.unusedSimpArgs false
def DoesUpon (P : Program) (R : Value → World → Prop) : Result Next → Prop
  | .ok (.value v) w => R v w
  | .ok .skip w => R undef w
  | .ok (.enter f args) w => Calls P f args w (fun e w' => ∃ v, e = .returned v ∧ R v w')
  | _ => False
def Does (P : Program) (ops : Array Oper) (o : Oper) (a : Act) (w : World) (R : Value → World → Prop) : Prop :=
  if Region.wanted o (yielded ops a.tmps) then DoesUpon P R ((execOp a.eval o).run P w) else R undef w
theorem Does.wp {P : Program} {ops : Array Oper} {Q : Exit → Act → World → Prop} {o : Oper} {a : Act} {w : World} {R : Value → World → Prop} {K : Act → World → Prop} {i : Nat} (hi : ops[i]? = some o) (h : Does P ops o a w R) (hK : ∀ v w', R v w' → K (a.put o.dst v) w') : wpOp P ops Q i K a w := by
  unfold wpOp
  rw [hi]
  unfold Does at h
  simp only
  split
  · rename_i hw
    rw [if_pos hw] at h
    refine .inl ?_
    unfold Oper.wp
    revert h
    generalize (execOp a.eval o).run P w = r
    intro h
    cases r with
    | ok x w' =>
      cases x <;> simp only [DoesUpon] at h <;> simp only [Oper.upon]
      case value v => exact hK _ _ h
      case skip => exact hK _ _ h
      case enter f args => exact h.mono (fun e w'' ⟨v, he, hr⟩ => by subst he; exact hK _ _ hr)
    | halt x w' => simp only [DoesUpon] at h
  · rename_i hw
    rw [if_neg hw] at h
    exact hK _ _ h
section
variable {P : Program} {ops : Array Oper} {Q : Exit → Act → World → Prop} {n : Nat} {sl : List (Nat × Value)} {w : World}
end
section
variable {P : Program} {ops : Array Oper} {Q : Exit → Act → World → Prop} {n : Nat} {sl sl2 : List (Nat × Value)} {w : World}
end
theorem Fits.more {n : Nat} {sl : List (Nat × Value)} {a : Act} (h : Fits n sl a) {d : Nat} {v : Value} (e : a.tmps.getD d undef = v) : Fits n ((d, v) :: sl) a :=
  ⟨h.defers, h.size, fun t u g => by
    simp only [get] at g
    cases hb : Nat.beq d t with
    | true =>
      rw [hb] at g
      obtain rfl := Nat.eq_of_beq_eq_true hb
      simp at g
      rw [e, g]
    | false => rw [hb] at g; exact h.at_ t u g⟩
section
variable {P : Program} {ops : Array Oper} {n : Nat} {sl : List (Nat × Value)} {w w' : World} {a : Act} {R : Value → World → Prop} {d : Nat} {op : Op} {ty : TypeId} {pos : String} {aft : Array Edge} {v : Value}
end
section
variable {P : Program} {n : Nat} {sl : List (Nat × Value)} {W : World} {dst : Option Tmp} {ty t e : TypeId} {pos : String} {aft : Array Edge} {g : Option (Nat × Bool)} {ws : List Value}
end
theorem run_append_zeros {P : Program} {w : World} {t xT ty e : TypeId} {k : IntKind} {j : TypeInfo} {z : Value} (ht : P.underlying t = some (.slice e)) (hx : P.underlying xT = some (.int k)) (hi : P.info? e = some j) (hz : j.zero = some z) {m : Nat} {news : List Value} (hn : (Builtin.zeroCells z.cells m).toList = news) (hnl : news.length = m * j.size) (h1 : ∀ v ∈ news, v.oneCell' = true)
    {A : Option Addr} {n cap : Nat} {olds spare : List Value} (hA : (A = none ∧ n = 0 ∧ cap = 0 ∧ olds = []) ∨ ∃ g, A = some ⟨g, 0, none⟩ ∧ w.heap[g]? = some (.cells (olds ++ spare).toArray e (0, 0))) (hlo : olds.length = n * j.size) (hls : (olds ++ spare).length = cap * j.size) (hnc : n ≤ cap)
    (h63 : n + m ≤ 9223372036854775807) (hb : (n + m) * j.bytes ≤ 140737488355328) :
    ∃ A' cap' w', (Builtin.append_ #[t, xT] ty #[.slice A n cap, .int .i64 m]).run P w = .ok (.slice A' (n + m) cap') w' ∧ n + m ≤ cap' ∧
      ((A = none ∧ m = 0 ∧ A' = none ∧ cap' = 0 ∧ w' = w) ∨ (∃ g, A = some ⟨g, 0, none⟩ ∧ A' = A ∧ cap' = cap ∧ w' = w.setRow g (olds ++ news ++ spare.drop news.length).toArray) ∨
       (A' = some ⟨w.heap.size, 0, none⟩ ∧ 0 < m ∧ w' = w.drew.alloc (.cells (olds ++ news ++ (Builtin.zeroCells z.cells (cap' - (n + m))).toList).toArray e))) := by
  have hw : IntKind.i64.wrap (m : Int) = (m : Int) := IntWalk.i64_in _ (by omega)
  have hneg : ¬ ((m : Int) < 0) := by omega
  have hmb : m * j.bytes ≤ 140737488355328 := Nat.le_trans (Nat.mul_le_mul_right _ (by omega)) hb
  have h48 : ¬ (281474976710656 < (m : Int) * (j.bytes : Int)) := by
    have h2 := Int.ofNat_le.2 hmb
    rw [Int.natCast_mul] at h2
    omega
  have hna : Builtin.zeroCells z.cells m = news.toArray := by rw [← hn]
  have hnew : ∀ w' : World, (if m * j.size = 0 then (pure #[] : Sem (Array Value)) else do pure (Builtin.zeroCells (← zeroValue e).cells m)).run P w' = .ok news.toArray w' := fun w' => by
    by_cases h0 : m * j.size = 0
    · rw [if_pos h0]
      have : news = [] := List.eq_nil_of_length_eq_zero (by omega)
      rw [this]; rfl
    · rw [if_neg h0]
      simp [zeroValue, typeInfo, hi, hz, ← hn]
  by_cases hroom : n + m ≤ cap
  · rcases hA with ⟨rfl, rfl, rfl, rfl⟩ | ⟨g, rfl, hg⟩
    · have hm : m = 0 := by omega
      subst hm
      refine ⟨none, 0, w, ?_, by omega, .inl ⟨rfl, rfl, rfl, rfl, rfl⟩⟩
      have hw0 : IntKind.i64.wrap 0 = 0 := by decide
      simp [Builtin.append_, run_underlying ht, run_underlying hx, sizeOf, typeInfo, hi, asInt, asIntOf, hw0]
    · have hst := run_storeCells_at P g (n * j.size) e news 0 (olds ++ spare).toArray w hg (by
        simp only [List.size_toArray, Nat.add_zero, hls, hnl, ← Nat.add_mul]; exact Nat.mul_le_mul_right _ hroom) h1
      have e1 : (olds ++ spare).take (n * j.size) = olds := by rw [← hlo, List.take_left]
      have e2 : (olds ++ spare).drop (n * j.size + news.length) = spare.drop news.length := by rw [← hlo, List.drop_append]; simp [List.drop_eq_nil_of_le]
      simp only [Nat.add_zero, List.toList_toArray, e1, e2] at hst
      refine ⟨some ⟨g, 0, none⟩, cap, _, ?_, hroom, .inr (.inl ⟨g, rfl, rfl, rfl, rfl⟩)⟩
      by_cases h0 : m * j.size = 0
      · have hnn : news = [] := List.eq_nil_of_length_eq_zero (by omega)
        subst hnn
        simp [Builtin.append_, run_underlying ht, run_underlying hx, sizeOf, typeInfo, hi, asInt, asIntOf, hw, hneg, h48, hroom, Addr.add_lit, h0] at hst ⊢
        simp [hst]
      · simp [Builtin.append_, run_underlying ht, run_underlying hx, sizeOf, typeInfo, hi, asInt, asIntOf, hw, hneg, h48, hroom, Addr.add_lit, h0, zeroValue, hz, hna] at hst ⊢
        simp [hst]
  · have holds : (Builtin.firstCells j.size n (.slice A n cap)).run P w.drew = .ok olds.toArray w.drew := by
      rcases hA with ⟨rfl, rfl, rfl, rfl⟩ | ⟨g, rfl, hg⟩
      · simp [Builtin.firstCells]
      · have := run_loadCells_list (P := P) w.drew ⟨g, 0, none⟩ olds (fun q u hq => by
          rw [Addr.add_mid, Nat.zero_add]
          have : w.cell? ⟨g, q, none⟩ = some u := by
            simp [World.cell?, hg, List.getElem?_append, (List.getElem?_eq_some_iff.1 hq).1]
            exact (List.getElem?_eq_some_iff.1 hq).2
          exact this)
        rw [hlo] at this
        simp [Builtin.firstCells, this]
    have h63' : ¬ (9223372036854775807 < ((n + m : Nat) : Int)) := by omega
    have hfit := growslice_fits (need := n + m) (old := cap) (bytes := j.bytes) (by omega) hb
    have h48' : ¬ (281474976710656 < Builtin.nextslicecap (n + m) cap * j.bytes) := by omega
    refine ⟨some ⟨w.heap.size, 0, none⟩, grownCap w (n + m) cap e, w.drew.alloc (.cells (olds ++ news ++ (Builtin.zeroCells z.cells (grownCap w (n + m) cap e - (n + m))).toList).toArray e), ?_, grownCap_ge _ _ _ _, .inr (.inr ⟨rfl, by omega, rfl⟩)⟩
    have eqa : ∀ zz : Array Value, olds.toArray ++ (news.toArray ++ zz) = (olds ++ (news ++ zz.toList)).toArray := fun zz => by apply Array.ext'; simp
    have hfo : (Question.appendCap (n + m) cap e).forced = false := rfl
    simp only [Int.natCast_add] at h63'
    by_cases h0 : m * j.size = 0
    · have hnn : news = [] := List.eq_nil_of_length_eq_zero (by omega)
      subst hnn
      simp [Builtin.append_, run_underlying ht, run_underlying hx, sizeOf, typeInfo, hi, asInt, asIntOf, hw, hneg, h48, hroom, h63', h48', hfo, askRoom, zeroValue, hz, newRow, grownCap, List.append_assoc, holds, h0]
      congr 2
      apply Array.ext'
      simp
    · simp [Builtin.append_, run_underlying ht, run_underlying hx, sizeOf, typeInfo, hi, asInt, asIntOf, hw, hneg, h48, hroom, h63', h48', hfo, askRoom, zeroValue, hz, newRow, grownCap, List.append_assoc, holds, h0, hna]
      rw [eqa]
theorem ow_appendZ {P : Program} {Q : Exit → Act → World → Prop} {N : Nat} {sl : List (Nat × Value)} {W0 W : World} {ops : Array Oper} {rest : List Oper} {d : Nat} {ty t xT e : TypeId} {k : IntKind} {pos : String} {aft : Array Edge} {x y : Operand} {bs : List (Nat × List Value × Nat)} {v z : Value} {n m sz bytes : Nat} {cells news : List Value}
    (hG : Grow W0 W bs v n cells e sz) (hx : sv sl x = some v) {mi : Int} (hmi : mi = (m : Int)) (hy : sv sl y = some (.int .i64 mi)) (ht : P.underlying t = some (.slice e)) (hxT : P.underlying xT = some (.int k)) (hj : (P.info? e).map (fun j => (j.zero, j.size, j.bytes)) = some (some z, sz, bytes)) (hzc : z.cells.size = sz) (hn : (Builtin.zeroCells z.cells m).toList = news) (hnl : news.length = m * sz) (h1 : ∀ v ∈ news, v.oneCell' = true) (h63 : n + m ≤ 9223372036854775807) (hb : (n + m) * bytes ≤ 140737488355328) (hd : Nat.blt d N = true)
    (h : ∀ v' W', W.grownBy W' v.ownBlock → Grow W0 W' bs v' (n + m) (cells ++ news) e sz → OW P ops Q rest N ((d, v') :: sl) W') : OW P ops Q (⟨some d, .call ⟨.builtin .append, #[x, y], #[t, xT]⟩, ty, pos, aft, none⟩ :: rest) N sl W := by
  subst hmi
  obtain ⟨j, hj1, hj2⟩ := Option.map_eq_some_iff.1 hj
  simp only [Prod.mk.injEq] at hj2
  obtain ⟨hz, rfl, rfl⟩ := hj2
  have hP := hG.hp
  have run : ∀ {A : Option Addr} {cap : Nat} {v' : Value} {w' : World}, v = .slice A n cap → (Builtin.append_ #[t, xT] ty #[.slice A n cap, .int .i64 (m : Int)]).run P W = .ok v' w' → OW P ops Q rest N ((d, v') :: sl) w' → OW P ops Q (⟨some d, .call ⟨.builtin .append, #[x, y], #[t, xT]⟩, ty, pos, aft, none⟩ :: rest) N sl W := fun {A cap v' w'} hv hr hk =>
    ow_step (fun f hf => by
      have e1 := hf.ev hx
      rw [hv] at e1
      simp [execOp, resolve, invoke, builtin, e1, hf.ev hy, hr]) hd hk
  have done : ∀ (n0 : Nat) (olds : List Value) (cap' : Nat), n0 + m ≤ cap' → olds.length = n0 * j.size → Grow W0 (W.drew.alloc (.cells (olds ++ news ++ (Builtin.zeroCells z.cells (cap' - (n0 + m))).toList).toArray e)) bs (.slice (some ⟨W.heap.size, 0, none⟩) (n0 + m) cap') (n0 + m) (olds ++ news) e j.size ∧ ∀ row, W.grownBy (W.drew.alloc (.cells (olds ++ news ++ (Builtin.zeroCells z.cells (cap' - (n0 + m))).toList).toArray e)) row := fun n0 olds cap' hc ho => by
    have hl : (olds ++ news).length = (n0 + m) * j.size := by rw [List.length_append, ho, hnl, Nat.add_mul]
    refine ⟨.inr ⟨_, cap', (Builtin.zeroCells z.cells (cap' - (n0 + m))).toList, rfl, hc, hl, ?_, ?_⟩, fun row => ⟨rfl, rfl, rfl, by simp, fun k hk _ => Below.heap_alloc W.drew _ k hk⟩⟩
    · rw [List.length_append, hl, Array.length_toList, size_zeroCells, hzc, ← Nat.add_mul]
      congr 1
      omega
    · exact (hP.drew).alloc _ _
  rcases hG with ⟨rfl, rfl, rfl, _⟩ | ⟨g, cap, spare, rfl, hnc, hl, hl2, hP'⟩
  · obtain ⟨A', cap', w', hr, hc, hw⟩ := run_append_zeros (P := P) (w := W) (ty := ty) (A := none) (n := 0) (cap := 0) (olds := []) (spare := []) ht hxT hj1 hz hn hnl h1 (.inl ⟨rfl, rfl, rfl, rfl⟩) (by simp) (by simp) (Nat.le_refl _) h63 hb
    rcases hw with ⟨_, rfl, rfl, rfl, rfl⟩ | ⟨g, hg, _⟩ | ⟨rfl, hm, rfl⟩
    · have hn : news = [] := List.eq_nil_of_length_eq_zero (by rw [hnl, Nat.zero_mul])
      rw [hn] at h
      exact run rfl hr (h _ _ ⟨rfl, rfl, rfl, Nat.le_refl _, fun _ _ _ => rfl⟩ (.inl ⟨rfl, rfl, rfl, hP⟩))
    · cases hg
    · obtain ⟨k1, k2⟩ := done 0 [] cap' hc (by simp)
      exact run rfl hr (h _ _ (k2 _) k1)
  · obtain ⟨A', cap', w', hr, hc, hw⟩ := run_append_zeros (P := P) (w := W) (ty := ty) (A := some ⟨g, 0, none⟩) (n := n) (cap := cap) (olds := cells) (spare := spare) ht hxT hj1 hz hn hnl h1 (.inr ⟨g, rfl, hP'.blk (i := 0) rfl⟩) hl hl2 hnc h63 hb
    rcases hw with ⟨hA, _⟩ | ⟨g', hg, rfl, rfl, rfl⟩ | ⟨rfl, hm, rfl⟩
    · cases hA
    · cases hg
      refine run rfl hr (h _ _ (setRow_grown _ _ _) (.inr ⟨g, _, spare.drop news.length, rfl, hc, by rw [List.length_append, hl, hnl, Nat.add_mul], ?_, hP'.row (i := 0) rfl _⟩))
      have h3 : news.length ≤ spare.length := by
        rw [List.length_append, hl] at hl2
        have : (n + m) * j.size ≤ _ * j.size := Nat.mul_le_mul_right j.size hc
        rw [Nat.add_mul, ← hnl, ← hl2] at this
        omega
      rw [List.length_append, List.length_append, List.length_drop]
      rw [List.length_append] at hl2
      omega
    · obtain ⟨k1, k2⟩ := done n cells cap' hc hl
      exact run rfl hr (h _ _ (k2 _) k1)
theorem zeroCells_one (z : Value) (hz : z.cells = #[z]) (m : Nat) : (Builtin.zeroCells z.cells m).toList = List.replicate m z := by
  unfold Builtin.zeroCells
  rw [hz]
  apply List.ext_getElem?
  intro i
  simp [List.getElem?_replicate]
  by_cases h : i < m
  · simp [h, Nat.mod_one]
  · simp [h]
end Go.Proofs.YtlhmbncalonomaaDoor.Sx
