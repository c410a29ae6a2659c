/- Own text. A region that draws its order, whose operations may make memory: what a slot holds may hang on the world, so long as it goes on to hold. -/
import Derived.Test.YtlhmbncalonomaaDoorSx
namespace Go.Proofs.YtlhmbncalonomaaDoor.Sx
open Go.RowKit
set_option linter.unusedVariables false
set_option linter.unusedSimpArgs false

/-- Of an operation's result: R of the value and the world. -/
def DoesUpon (P : Program) (R : Value → World → Prop) : Result Next → Prop
  | .ok (.value v) w => R v w
  | .ok .skip w => R undef w
  | .ok (.enter f args) w => Calls P f args w (fun e w' => ∃ v, e = .returned v ∧ R v w')
  | _ => False
/-- The operation, or its being passed over. -/
def Does (P : Program) (ops : Array Oper) (o : Oper) (a : Act) (w : World) (R : Value → World → Prop) : Prop :=
  if Region.wanted o (yielded ops a.tmps) then DoesUpon P R ((execOp a.eval o).run P w) else R undef w
theorem Does.wp {P : Program} {ops : Array Oper} {Q : Exit → Act → World → Prop} {o : Oper} {a : Act} {w : World} {R : Value → World → Prop} {K : Act → World → Prop} {i : Nat} (hi : ops[i]? = some o) (h : Does P ops o a w R) (hK : ∀ v w', R v w' → K (a.put o.dst v) w') : wpOp P ops Q i K a w := by
  unfold wpOp
  rw [hi]
  unfold Does at h
  simp only
  split
  · rename_i hw
    rw [if_pos hw] at h
    refine .inl ?_
    unfold Oper.wp
    revert h
    generalize (execOp a.eval o).run P w = r
    intro h
    cases r with
    | ok x w' =>
      cases x <;> simp only [DoesUpon] at h <;> simp only [Oper.upon]
      case value v => exact hK _ _ h
      case skip => exact hK _ _ h
      case enter f args => exact h.mono (fun e w'' ⟨v, he, hr⟩ => by subst he; exact hK _ _ hr)
    | halt x w' => simp only [DoesUpon] at h
  · rename_i hw
    rw [if_neg hw] at h
    exact hK _ _ h
/-- How many have not come up. -/
def unl (listed : Array Bool) : Nat := listed.toList.countP (fun b => !b)
theorem countP_set_true : ∀ (l : List Bool) (i : Nat), l[i]? = some false → (l.set i true).countP (fun b => !b) + 1 = l.countP (fun b => !b)
  | [], i, h => by simp at h
  | b :: r, 0, h => by simp at h; subst h; simp
  | b :: r, i + 1, h => by
    have := countP_set_true r i (by simpa using h)
    simp only [List.set_cons_succ, List.countP_cons]
    omega
theorem unl_set {listed : Array Bool} {i : Nat} (h : listed.getD i true = false) : unl (listed.setIfInBounds i true) + 1 = unl listed := by
  unfold unl
  rw [Array.toList_setIfInBounds]
  refine countP_set_true _ _ ?_
  rw [Array.getD_eq_getD_getElem?] at h
  rw [Array.getElem?_toList]
  cases hq : listed[i]? with
  | none => rw [hq] at h; simp at h
  | some b => rw [hq] at h; simp at h; rw [h]
theorem unl_zero {listed : Array Bool} (h : unl listed = 0) (i : Nat) : listed.getD i true = true := by
  unfold unl at h
  rw [List.countP_eq_zero] at h
  rw [Array.getD_eq_getD_getElem?]
  cases hq : listed[i]? with
  | none => rfl
  | some b => have := h b (by rw [← Array.getElem?_toList] at hq; exact List.mem_of_getElem? hq); simpa using this
/-- Edges go down, no two write one slot, and whoever reads a slot of the region waits for it. -/
def stableB (ops : Array Oper) (sl : List (Nat × Value)) (n : Nat) : Bool :=
  (List.range ops.size).all fun i => match ops[i]? with
    | none => true
    | some o => o.after.all (fun e => !Region.binds .any e || Nat.blt e.on i) &&
      (match o.dst with
       | none => true
       | some d => Nat.blt d n && sl.all (fun p => !(Nat.beq p.1 d))) &&
      (List.range ops.size).all fun j => match ops[j]? with
        | none => true
        | some oj => Nat.beq j i || match oj.dst with
          | none => true
          | some d => (o.dst != some d)
def afters (o : Oper) : List Nat := (o.after.toList.filter (fun e => Region.binds .any e)).map (·.on)
section
variable {P : Program} {ops : Array Oper} {Q : Exit → Act → World → Prop} {n : Nat} {sl : List (Nat × Value)} {w : World}
/-- What is known in the middle: the slots of those that have come up hold what they should. -/
def Mid (ops : Array Oper) (V : Nat → World → Value → Prop) (C : World → Prop) (n : Nat) (sl : List (Nat × Value)) (listed : Array Bool) (a : Act) (w : World) : Prop :=
  C w ∧ Fits n sl a ∧ ∀ (j : Nat) (o : Oper) d, ops[j]? = some o → o.dst = some d → listed.getD j false = true → V j w (a.tmps.getD d undef)
theorem get_none : ∀ {sl : List (Nat × Value)} {d t : Nat} {v : Value}, sl.all (fun p => !(Nat.beq p.1 d)) = true → get sl t = some v → t ≠ d
  | [], d, t, v, _, e => by simp [get] at e
  | (k, u) :: r, d, t, v, h, e => by
    simp only [List.all_cons, Bool.and_eq_true, Bool.not_eq_true'] at h
    simp only [get] at e
    cases hb : Nat.beq k t with
    | true =>
      obtain rfl := Nat.eq_of_beq_eq_true hb
      intro he
      subst he
      rw [show Nat.beq k k = true from by simp] at h
      exact absurd h.1 (by simp)
    | false => rw [hb] at e; exact get_none h.2 e
theorem getD_put_ne {a : Act} {d t : Nat} {v : Value} (h : d ≠ t) : (a.put (some d) v).tmps.getD t undef = a.tmps.getD t undef := by
  simp only [Act.put, Array.getD_eq_getD_getElem?]
  rw [Array.getElem?_setIfInBounds_ne h]
theorem wpAny_stable (V : Nat → World → Value → Prop) (C : World → Prop) (T : World → World → Prop) (hB : stableB ops sl n = true) (hT : ∀ (j : Nat) (w w' : World) v, T w w' → V j w v → V j w' v)
    (hops : ∀ (i : Nat) o, ops[i]? = some o → ∀ a w, C w → Fits n sl a → (∀ (j : Nat) (oj : Oper) d, j ∈ afters o → ops[j]? = some oj → oj.dst = some d → V j w (a.tmps.getD d undef)) → Does P ops o a w (fun v w' => C w' ∧ T w w' ∧ V i w' v))
    (hend : ∀ a w, C w → Fits n sl a → (∀ (j : Nat) (oj : Oper) d, ops[j]? = some oj → oj.dst = some d → V j w (a.tmps.getD d undef)) → Q .normal a w) :
    ∀ (fuel : Nat) (listed : Array Bool) (a : Act) (w : World), listed.size = ops.size → unl listed ≤ fuel → Mid ops V C n sl listed a w → wpAny P .any ops Q fuel listed a w := by
  have hB' := hB
  simp only [stableB, List.all_eq_true, List.mem_range] at hB
  have down : ∀ (i : Nat) o e, ops[i]? = some o → e ∈ o.after → Region.binds .any e = true → e.on < i := fun i o e hi he hb => by
    have := hB i (Array.getElem?_eq_some_iff.1 hi).1
    rw [hi] at this
    simp only [Bool.and_eq_true] at this
    have h1 := Array.all_eq_true_iff_forall_mem.1 this.1.1 e he
    rw [hb] at h1
    simp at h1
    exact h1
  have inb : ∀ (i : Nat) o d, ops[i]? = some o → o.dst = some d → Nat.blt d n = true ∧ sl.all (fun p => !(Nat.beq p.1 d)) = true := fun i o d hi hd => by
    have := hB i (Array.getElem?_eq_some_iff.1 hi).1
    rw [hi] at this
    simp only [Bool.and_eq_true] at this
    have h1 := this.1.2
    rw [hd] at h1
    simp only [Bool.and_eq_true] at h1
    exact h1
  have dif : ∀ (i j : Nat) o oj d, ops[i]? = some o → ops[j]? = some oj → j ≠ i → oj.dst = some d → o.dst ≠ some d := fun i j o oj d hi hj hne hd => by
    have := hB i (Array.getElem?_eq_some_iff.1 hi).1
    rw [hi] at this
    simp only [Bool.and_eq_true, List.all_eq_true, List.mem_range] at this
    have h1 := this.2 j (Array.getElem?_eq_some_iff.1 hj).1
    rw [hj] at h1
    simp only [Bool.or_eq_true] at h1
    rcases h1 with h1 | h1
    · exact absurd (Nat.eq_of_beq_eq_true h1) hne
    · rw [hd] at h1
      intro e
      rw [e] at h1
      simp at h1
  have all : ∀ (listed : Array Bool), listed.size = ops.size → Region.ready .any ops listed = [] → ∀ j, j < ops.size → listed.getD j false = true := by
    intro listed hs hr j
    induction j using Nat.strongRecOn with
    | _ j ih =>
      intro hj
      cases hl : listed.getD j false with
      | true => rfl
      | false =>
        have hmem : j ∈ Region.ready .any ops listed := by
          rw [mem_ready]
          refine ⟨?_, ops[j], Array.getElem?_eq_getElem hj, fun e he hb => ?_⟩
          · rw [Array.getD_eq_getD_getElem?, Array.getElem?_eq_getElem (by omega)] at hl ⊢
            exact hl
          · have := down j _ e (Array.getElem?_eq_getElem hj) he hb
            exact ih e.on this (by omega)
        rw [hr] at hmem
        cases hmem
  intro fuel
  induction fuel with
  | zero =>
    intro listed a w hs hu hM
    have h0 : unl listed = 0 := by omega
    have hr : Region.ready .any ops listed = [] := by
      rw [List.eq_nil_iff_forall_not_mem]
      intro j hj
      have := (mem_ready.1 hj).1
      rw [unl_zero h0 j] at this
      cases this
    exact ⟨hr, hend a w hM.1 hM.2.1 (fun j oj d hj hd => hM.2.2 j oj d hj hd (all listed hs hr j (Array.getElem?_eq_some_iff.1 hj).1))⟩
  | succ fuel ih =>
    intro listed a w hs hu hM
    refine ⟨fun hr => hend a w hM.1 hM.2.1 (fun j oj d hj hd => hM.2.2 j oj d hj hd (all listed hs hr j (Array.getElem?_eq_some_iff.1 hj).1)), fun i hi => ?_⟩
    obtain ⟨h0, o, ho, hall⟩ := mem_ready.1 hi
    have hlt : i < ops.size := (Array.getElem?_eq_some_iff.1 ho).1
    refine Does.wp ho (hops i o ho a w hM.1 hM.2.1 (fun j oj d hj hoj hd => hM.2.2 j oj d hoj hd ?_)) (fun v w' ⟨hC', hT', hV'⟩ => ih _ _ _ (by simp [hs]) (by have := unl_set h0; omega) ?_)
    · obtain ⟨e, he, rfl⟩ := List.mem_map.1 hj
      rw [List.mem_filter] at he
      exact hall e (Array.mem_toList_iff.1 he.1) he.2
    · refine ⟨hC', ?_, fun j oj d hoj hd hl => ?_⟩
      · cases hod : o.dst with
        | none => exact hM.2.1
        | some d =>
          obtain ⟨hb, hn⟩ := inb i o d ho hod
          refine ⟨hM.2.1.defers, by simp [Act.put, hM.2.1.size], fun t u e => ?_⟩
          rw [getD_put_ne (Ne.symm (get_none hn e))]
          exact hM.2.1.at_ t u e
      · by_cases hji : j = i
        · subst hji
          obtain rfl : oj = o := by rw [ho] at hoj; exact (Option.some.inj hoj).symm
          rw [hd]
          obtain ⟨hb, hn⟩ := inb j oj d ho hd
          have hd' : d < n := Nat.lt_of_succ_le (Nat.le_of_ble_eq_true hb)
          rw [show (a.put (some d) v).tmps.getD d undef = v by simp [Act.put, hM.2.1.size, hd']]
          exact hV'
        · have hl' : listed.getD j false = true := by rw [getD_set_ne false (Ne.symm hji)] at hl; exact hl
          have hV := hT j w w' _ hT' (hM.2.2 j oj d hoj hd hl')
          cases hod : o.dst with
          | none => exact hV
          | some d2 =>
            have hne : d2 ≠ d := fun e => by subst e; exact dif i j o oj d2 ho hoj hji hd hod
            rw [getD_put_ne hne]
            exact hV
theorem cw_stable {id : Nat} (V : Nat → World → Value → Prop) (C : World → Prop) (T : World → World → Prop) (hm : P.follows .mixedOrders = true) (hB : stableB ops sl n = true) (hC : C { w with drawn := w.drawn + 1 }) (hT : ∀ (j : Nat) (w w' : World) v, T w w' → V j w v → V j w' v)
    (hops : ∀ (i : Nat) o, ops[i]? = some o → ∀ a w, C w → Fits n sl a → (∀ (j : Nat) (oj : Oper) d, j ∈ afters o → ops[j]? = some oj → oj.dst = some d → V j w (a.tmps.getD d undef)) → Does P ops o a w (fun v w' => C w' ∧ T w w' ∧ V i w' v))
    (hend : ∀ a w, C w → Fits n sl a → (∀ (j : Nat) (oj : Oper) d, ops[j]? = some oj → oj.dst = some d → V j w (a.tmps.getD d undef)) → Q .normal a w) : CW P (.region id ops true) Q n sl w := fun a ha => by
  refine wp_region_any hm (wpAny_stable V C T hB hT hops hend ops.size _ _ _ (by simp) ?_ ⟨hC, ha, fun j o d _ _ hl => ?_⟩)
  · unfold unl
    rw [Array.toList_replicate]
    exact Nat.le_trans List.countP_le_length (by simp)
  · exfalso
    rw [Array.getD_eq_getD_getElem?, Array.getElem?_replicate] at hl
    split at hl <;> simp at hl
end
/-- Every operation but the last is waited for by another one. -/
def tiedB (ops : Array Oper) : Bool := (List.range (ops.size - 1)).all fun i => (List.range ops.size).any fun j => match ops[j]? with
  | none => false
  | some o => (afters o).contains i
/-- As 'stableB', but the last operation may write over a slot that is known. -/
def stableTB (ops : Array Oper) (sl sl2 : List (Nat × Value)) (n : Nat) : Bool :=
  stableB ops sl2 n && tiedB ops && (List.range (ops.size - 1)).all fun i => match ops[i]? with
    | none => true
    | some o => match o.dst with
      | none => true
      | some d => sl.all (fun p => !(Nat.beq p.1 d))
section
variable {P : Program} {ops : Array Oper} {Q : Exit → Act → World → Prop} {n : Nat} {sl sl2 : List (Nat × Value)} {w : World}
theorem wpAny_stableT (V : Nat → World → Value → Prop) (C : World → Prop) (T : World → World → Prop) (hB : stableTB ops sl sl2 n = true) (hT : ∀ (j : Nat) (w w' : World) v, T w w' → V j w v → V j w' v)
    (hops : ∀ (i : Nat) o, ops[i]? = some o → ∀ a w, C w → Fits n sl a → (∀ (j : Nat) (oj : Oper) d, (afters o).contains j = true → ops[j]? = some oj → oj.dst = some d → V j w (a.tmps.getD d undef)) → Does P ops o a w (fun v w' => C w' ∧ T w w' ∧ V i w' v))
    (hend : ∀ a w, C w → Fits n sl2 a → (∀ (j : Nat) (oj : Oper) d, ops[j]? = some oj → oj.dst = some d → V j w (a.tmps.getD d undef)) → Q .normal a w) :
    ∀ (fuel : Nat) (listed : Array Bool) (a : Act) (w : World), listed.size = ops.size → unl listed ≤ fuel → Mid ops V C n sl2 listed a w → (listed.getD (ops.size - 1) false = false → Fits n sl a) →
      (∀ (j : Nat) o, ops[j]? = some o → listed.getD j false = true → ∀ i, (afters o).contains i = true → listed.getD i false = true) → wpAny P .any ops Q fuel listed a w := by
  simp only [stableTB, Bool.and_eq_true] at hB
  obtain ⟨⟨hB, htie⟩, hsl⟩ := hB
  simp only [stableB, List.all_eq_true, List.mem_range] at hB
  simp only [tiedB, List.all_eq_true, List.any_eq_true, List.mem_range] at htie
  simp only [List.all_eq_true, List.mem_range] at hsl
  have down : ∀ (i : Nat) o e, ops[i]? = some o → e ∈ o.after → Region.binds .any e = true → e.on < i := fun i o e hi he hb => by
    have := hB i (Array.getElem?_eq_some_iff.1 hi).1
    rw [hi] at this
    simp only [Bool.and_eq_true] at this
    have h1 := Array.all_eq_true_iff_forall_mem.1 this.1.1 e he
    rw [hb] at h1
    simp at h1
    exact h1
  have downA : ∀ (i : Nat) o k, ops[i]? = some o → (afters o).contains k = true → k < i := fun i o k hi hk => by
    rw [List.contains_iff_mem] at hk
    obtain ⟨e, he, rfl⟩ := List.mem_map.1 hk
    rw [List.mem_filter] at he
    exact down i o e hi (Array.mem_toList_iff.1 he.1) he.2
  have inb : ∀ (i : Nat) o d, ops[i]? = some o → o.dst = some d → Nat.blt d n = true ∧ sl2.all (fun p => !(Nat.beq p.1 d)) = true := fun i o d hi hd => by
    have := hB i (Array.getElem?_eq_some_iff.1 hi).1
    rw [hi] at this
    simp only [Bool.and_eq_true] at this
    have h1 := this.1.2
    rw [hd] at h1
    simp only [Bool.and_eq_true] at h1
    exact h1
  have insl : ∀ (i : Nat) o d, ops[i]? = some o → i < ops.size - 1 → o.dst = some d → sl.all (fun p => !(Nat.beq p.1 d)) = true := fun i o d hi hlt hd => by
    have := hsl i hlt
    rw [hi] at this
    simp only [hd] at this
    exact this
  have dif : ∀ (i j : Nat) o oj d, ops[i]? = some o → ops[j]? = some oj → j ≠ i → oj.dst = some d → o.dst ≠ some d := fun i j o oj d hi hj hne hd => by
    have := hB i (Array.getElem?_eq_some_iff.1 hi).1
    rw [hi] at this
    simp only [Bool.and_eq_true, List.all_eq_true, List.mem_range] at this
    have h1 := this.2 j (Array.getElem?_eq_some_iff.1 hj).1
    rw [hj] at h1
    simp only [Bool.or_eq_true] at h1
    rcases h1 with h1 | h1
    · exact absurd (Nat.eq_of_beq_eq_true h1) hne
    · rw [hd] at h1
      intro e
      rw [e] at h1
      simp at h1
  have all : ∀ (listed : Array Bool), listed.size = ops.size → Region.ready .any ops listed = [] → ∀ j, j < ops.size → listed.getD j false = true := by
    intro listed hs hr j
    induction j using Nat.strongRecOn with
    | _ j ih =>
      intro hj
      cases hl : listed.getD j false with
      | true => rfl
      | false =>
        have hmem : j ∈ Region.ready .any ops listed := by
          rw [mem_ready]
          refine ⟨?_, ops[j], Array.getElem?_eq_getElem hj, fun e he hb => ?_⟩
          · rw [Array.getD_eq_getD_getElem?, Array.getElem?_eq_getElem (by omega)] at hl ⊢
            exact hl
          · have := down j _ e (Array.getElem?_eq_getElem hj) he hb
            exact ih e.on this (by omega)
        rw [hr] at hmem
        cases hmem
  have lastUn : ∀ (listed : Array Bool), (∀ (j : Nat) o, ops[j]? = some o → listed.getD j false = true → ∀ i, (afters o).contains i = true → listed.getD i false = true) → ∀ (d i : Nat), ops.size - 1 - i = d → i < ops.size → listed.getD i false = false → listed.getD (ops.size - 1) false = false := by
    intro listed hdc d
    induction d using Nat.strongRecOn with
    | _ d ih =>
      intro i hd hi hl
      by_cases he : i = ops.size - 1
      · subst he; exact hl
      · obtain ⟨j, hj, hc⟩ := htie i (by omega)
        rw [Array.getElem?_eq_getElem hj] at hc
        simp only at hc
        have hlt := downA j _ i (Array.getElem?_eq_getElem hj) hc
        have hlj : listed.getD j false = false := by
          cases h : listed.getD j false with
          | false => rfl
          | true => have := hdc j _ (Array.getElem?_eq_getElem hj) h i hc; rw [hl] at this; cases this
        exact ih (ops.size - 1 - j) (by omega) j rfl hj hlj
  intro fuel
  induction fuel with
  | zero =>
    intro listed a w hs hu hM hF hdc
    have h0 : unl listed = 0 := by omega
    have hr : Region.ready .any ops listed = [] := by
      rw [List.eq_nil_iff_forall_not_mem]
      intro j hj
      have := (mem_ready.1 hj).1
      rw [unl_zero h0 j] at this
      cases this
    exact ⟨hr, hend a w hM.1 hM.2.1 (fun j oj d hj hd => hM.2.2 j oj d hj hd (all listed hs hr j (Array.getElem?_eq_some_iff.1 hj).1))⟩
  | succ fuel ih =>
    intro listed a w hs hu hM hF hdc
    refine ⟨fun hr => hend a w hM.1 hM.2.1 (fun j oj d hj hd => hM.2.2 j oj d hj hd (all listed hs hr j (Array.getElem?_eq_some_iff.1 hj).1)), fun i hi => ?_⟩
    obtain ⟨h0, o, ho, hall⟩ := mem_ready.1 hi
    have hlt : i < ops.size := (Array.getElem?_eq_some_iff.1 ho).1
    have h0' : listed.getD i false = false := by
      rw [Array.getD_eq_getD_getElem?, Array.getElem?_eq_getElem (by omega)] at h0 ⊢
      exact h0
    have hFa := hF (lastUn listed hdc _ i rfl hlt h0')
    have hdeps : ∀ k, (afters o).contains k = true → listed.getD k false = true := fun k hk => by
      rw [List.contains_iff_mem] at hk
      obtain ⟨e, he, rfl⟩ := List.mem_map.1 hk
      rw [List.mem_filter] at he
      exact hall e (Array.mem_toList_iff.1 he.1) he.2
    refine Does.wp ho (hops i o ho a w hM.1 hFa (fun j oj d hj hoj hd => hM.2.2 j oj d hoj hd (hdeps j hj))) (fun v w' ⟨hC', hT', hV'⟩ => ih _ _ _ (by simp [hs]) (by have := unl_set h0; omega) ?_ ?_ ?_)
    · refine ⟨hC', ?_, fun j oj d hoj hd hl => ?_⟩
      · cases hod : o.dst with
        | none => exact hM.2.1
        | some d =>
          obtain ⟨hb, hn⟩ := inb i o d ho hod
          refine ⟨hM.2.1.defers, by simp [Act.put, hM.2.1.size], fun t u e => ?_⟩
          rw [getD_put_ne (Ne.symm (get_none hn e))]
          exact hM.2.1.at_ t u e
      · by_cases hji : j = i
        · subst hji
          obtain rfl : oj = o := by rw [ho] at hoj; exact (Option.some.inj hoj).symm
          rw [hd]
          obtain ⟨hb, hn⟩ := inb j oj d ho hd
          have hd' : d < n := Nat.lt_of_succ_le (Nat.le_of_ble_eq_true hb)
          rw [show (a.put (some d) v).tmps.getD d undef = v by simp [Act.put, hM.2.1.size, hd']]
          exact hV'
        · have hl' : listed.getD j false = true := by rw [getD_set_ne false (Ne.symm hji)] at hl; exact hl
          have hV := hT j w w' _ hT' (hM.2.2 j oj d hoj hd hl')
          cases hod : o.dst with
          | none => exact hV
          | some d2 =>
            have hne : d2 ≠ d := fun e => by subst e; exact dif i j o oj d2 ho hoj hji hd hod
            rw [getD_put_ne hne]
            exact hV
    · intro hl
      have hne : i ≠ ops.size - 1 := fun e => by
        subst e
        rw [Array.getD_eq_getD_getElem?, Array.getElem?_setIfInBounds_self_of_lt (by omega)] at hl
        cases hl
      cases hod : o.dst with
      | none => exact hFa
      | some d =>
        have hn := insl i o d ho (by omega) hod
        refine ⟨hFa.defers, by simp [Act.put, hFa.size], fun t u e => ?_⟩
        rw [getD_put_ne (Ne.symm (get_none hn e))]
        exact hFa.at_ t u e
    · intro j oj hoj hl k hk
      by_cases hji : j = i
      · subst hji
        obtain rfl : oj = o := by rw [ho] at hoj; exact (Option.some.inj hoj).symm
        exact getD_set_true (hdeps k hk)
      · rw [getD_set_ne false (Ne.symm hji)] at hl
        exact getD_set_true (hdc j oj hoj hl k hk)
theorem cw_stableT {id : Nat} (V : Nat → World → Value → Prop) (C : World → Prop) (T : World → World → Prop) (hm : P.follows .mixedOrders = true) (hB : stableTB ops sl sl2 n = true) (hs2 : subs sl2 sl) (hne : Nat.blt 0 ops.size = true) (hC : C { w with drawn := w.drawn + 1 }) (hT : ∀ (j : Nat) (w w' : World) v, T w w' → V j w v → V j w' v)
    (hops : ∀ (i : Nat) o, ops[i]? = some o → ∀ a w, C w → Fits n sl a → (∀ (j : Nat) (oj : Oper) d, (afters o).contains j = true → ops[j]? = some oj → oj.dst = some d → V j w (a.tmps.getD d undef)) → Does P ops o a w (fun v w' => C w' ∧ T w w' ∧ V i w' v))
    (hend : ∀ a w, C w → Fits n sl2 a → (∀ (j : Nat) (oj : Oper) d, ops[j]? = some oj → oj.dst = some d → V j w (a.tmps.getD d undef)) → Q .normal a w) : CW P (.region id ops true) Q n sl w := fun a ha => by
  refine wp_region_any hm (wpAny_stableT V C T hB hT hops hend ops.size _ _ _ (by simp) ?_ ⟨hC, ha.sub hs2, fun j o d _ _ hl => ?_⟩ (fun _ => ha) (fun j o _ hl => ?_))
  · unfold unl
    rw [Array.toList_replicate]
    exact Nat.le_trans List.countP_le_length (by simp)
  · exfalso
    rw [Array.getD_eq_getD_getElem?, Array.getElem?_replicate] at hl
    split at hl <;> simp at hl
  · exfalso
    rw [Array.getD_eq_getD_getElem?, Array.getElem?_replicate] at hl
    split at hl <;> simp at hl
/-- Each operation by itself. -/
def EachOp (F : Nat → Oper → Prop) : Nat → List Oper → Prop
  | _, [] => True
  | k, o :: r => F k o ∧ EachOp F (k + 1) r
theorem eachOp_at {F : Nat → Oper → Prop} : ∀ {l : List Oper} {k : Nat}, EachOp F k l → ∀ i o, l[i]? = some o → F (k + i) o
  | [], k, _, i, o, ho => by simp at ho
  | p :: r, k, h, 0, o, ho => by simp at ho; subst ho; exact h.1
  | p :: r, k, h, i + 1, o, ho => by
    have := eachOp_at h.2 i o (by simpa using ho)
    rw [show k + 1 + i = k + (i + 1) by omega] at this
    exact this
theorem ops_each {l : List Oper} {F : Nat → Oper → Prop} (h : EachOp F 0 l) : ∀ i o, l.toArray[i]? = some o → F i o := fun i o ho => by
  have := eachOp_at h i o (by rw [List.getElem?_toArray] at ho; exact ho)
  rwa [Nat.zero_add] at this
end
/-! ### One operation -/
theorem Fits.more {n : Nat} {sl : List (Nat × Value)} {a : Act} (h : Fits n sl a) {d : Nat} {v : Value} (e : a.tmps.getD d undef = v) : Fits n ((d, v) :: sl) a :=
  ⟨h.defers, h.size, fun t u g => by
    simp only [get] at g
    cases hb : Nat.beq d t with
    | true =>
      rw [hb] at g
      obtain rfl := Nat.eq_of_beq_eq_true hb
      simp at g
      rw [e, g]
    | false => rw [hb] at g; exact h.at_ t u g⟩
section
variable {P : Program} {ops : Array Oper} {n : Nat} {sl : List (Nat × Value)} {w w' : World} {a : Act} {R : Value → World → Prop} {d : Nat} {op : Op} {ty : TypeId} {pos : String} {aft : Array Edge} {v : Value}
theorem does_run {dst : Option Tmp} (ha : Fits n sl a) (hr : Runs P ⟨dst, op, ty, pos, aft, none⟩ n sl w v w') (h : R v w') : Does P ops ⟨dst, op, ty, pos, aft, none⟩ a w R := by
  unfold Does
  rw [if_pos (by rfl), hr a ha]
  exact h
theorem does_call {dst : Option Tmp} {f : FuncId} {args : List Operand} {ats : Array TypeId} {vs : List Value} (ha : Fits n sl a) (he : Enters P f) (hargs : svs sl args = some vs) (hc : Calls P f vs.toArray w (fun e w' => ∃ v, e = .returned v ∧ R v w')) :
    Does P ops ⟨dst, .call ⟨.value (.func f), args.toArray, ats⟩, ty, pos, aft, none⟩ a w R := by
  unfold Does
  rw [if_pos (by rfl), run_call he ha hargs]
  exact hc
/-- A list of what the slots hold. -/
def vat (Vs : List (World → Value → Prop)) (j : Nat) (w : World) (v : Value) : Prop := match Vs[j]? with
  | some V => V w v
  | none => True
theorem vat_mono {T : World → World → Prop} : ∀ {Vs : List (World → Value → Prop)}, (∀ V ∈ Vs, ∀ w w' v, T w w' → V w v → V w' v) → ∀ (j : Nat) (w w' : World) v, T w w' → vat Vs j w v → vat Vs j w' v := fun {Vs} h j w w' v ht hv => by
  unfold vat at *
  cases hq : Vs[j]? with
  | none => trivial
  | some V => rw [hq] at hv; exact h V (List.mem_of_getElem? hq) _ _ _ ht hv
theorem vat_at {Vs : List (World → Value → Prop)} {j : Nat} {w : World} {v : Value} {V : World → Value → Prop} (h : vat Vs j w v) (hj : Vs[j]? = some V) : V w v := by
  unfold vat at h; rw [hj] at h; exact h
theorem vat_mk {Vs : List (World → Value → Prop)} {j : Nat} {w : World} {v : Value} {V : World → Value → Prop} (hj : Vs[j]? = some V) (h : V w v) : vat Vs j w v := by
  unfold vat; rw [hj]; exact h
/-- A slot that holds one value whatever comes. -/
abbrev isV (v : Value) : World → Value → Prop := fun _ u => u = v
theorem vat_is {Vs : List (World → Value → Prop)} {j : Nat} {w : World} {v : Value} (hj : Vs[j]? = some (isV v)) : vat Vs j w v := by
  unfold vat; rw [hj]
/-- Whatever the index: one goal for each. -/
theorem ops_all {l : List Oper} {F : Nat → Oper → Prop} (h : ∀ i, (hi : i < l.length) → F i l[i]) : ∀ (i : Nat) o, l.toArray[i]? = some o → F i o := fun i o ho => by
  rw [List.getElem?_toArray] at ho
  obtain ⟨hi, e⟩ := List.getElem?_eq_some_iff.1 ho
  subst e
  exact h i hi
end
section
variable {P : Program} {n : Nat} {sl : List (Nat × Value)} {W : World} {dst : Option Tmp} {ty t e : TypeId} {pos : String} {aft : Array Edge} {g : Option (Nat × Bool)} {ws : List Value}
theorem r_buildSlice {parts : Array (Nat × Operand)} {vs : List Value} {len : Nat} (hargs : svs sl (parts.toList.map (·.2)) = some vs) (hb : ∀ w, (Instr.buildSlice t len ((parts.toList.map (·.1)).zip vs).toArray).run P w = .ok (.slice (some ⟨w.heap.size, 0, none⟩) len len) (w.alloc (.cells ws.toArray e))) :
    Runs P ⟨dst, .buildSlice t len parts, ty, pos, aft, g⟩ n sl W (.slice (some ⟨W.heap.size, 0, none⟩) len len) (W.alloc (.cells ws.toArray e)) := fun f hf => by
  have h1 := hf.evs hargs
  have h2 : parts.map (fun p => (p.1, f.eval p.2)) = ((parts.toList.map (·.1)).zip vs).toArray := by
    rw [← h1]
    apply Array.ext'
    rw [Array.toList_map, List.map_map]
    generalize parts.toList = l
    induction l with
    | nil => rfl
    | cons p r ih => simp_all
  simp [execOp, h2, hb]
/-- A block of one's own that holds these cells, wherever it lies. -/
def isNew (len : Nat) (ws : List Value) (e : Nat) : World → Value → Prop := fun w v => ∃ g, v = .slice (some ⟨g, 0, none⟩) len len ∧ w.heap[g]? = some (.cells ws.toArray e (0, 0))
theorem isNew_mono {len : Nat} {ws : List Value} {e : Nat} {w w' : World} {v : Value} (hb : Below w.heap.size w w') (h : isNew len ws e w v) : isNew len ws e w' v := by
  obtain ⟨g, h1, h2⟩ := h
  exact ⟨g, h1, (hb.block g (Array.getElem?_eq_some_iff.1 h2).1).trans h2⟩
end
/-! ### append of zeros: 'append(x, make([]T, m)...)' -/
theorem run_append_zeros {P : Program} {w : World} {t xT ty e : TypeId} {k : IntKind} {j : TypeInfo} {z : Value} (ht : P.underlying t = some (.slice e)) (hx : P.underlying xT = some (.int k)) (hi : P.info? e = some j) (hz : j.zero = some z) {m : Nat} {news : List Value} (hn : (Builtin.zeroCells z.cells m).toList = news) (hnl : news.length = m * j.size) (h1 : ∀ v ∈ news, v.oneCell' = true)
    {A : Option Addr} {n cap : Nat} {olds spare : List Value} (hA : (A = none ∧ n = 0 ∧ cap = 0 ∧ olds = []) ∨ ∃ g, A = some ⟨g, 0, none⟩ ∧ w.heap[g]? = some (.cells (olds ++ spare).toArray e (0, 0))) (hlo : olds.length = n * j.size) (hls : (olds ++ spare).length = cap * j.size) (hnc : n ≤ cap)
    (h63 : n + m ≤ 9223372036854775807) (hb : (n + m) * j.bytes ≤ 140737488355328) :
    ∃ A' cap' w', (Builtin.append_ #[t, xT] ty #[.slice A n cap, .int .i64 m]).run P w = .ok (.slice A' (n + m) cap') w' ∧ n + m ≤ cap' ∧
      ((A = none ∧ m = 0 ∧ A' = none ∧ cap' = 0 ∧ w' = w) ∨ (∃ g, A = some ⟨g, 0, none⟩ ∧ A' = A ∧ cap' = cap ∧ w' = w.setRow g (olds ++ news ++ spare.drop news.length).toArray) ∨
       (A' = some ⟨w.heap.size, 0, none⟩ ∧ 0 < m ∧ w' = w.drew.alloc (.cells (olds ++ news ++ (Builtin.zeroCells z.cells (cap' - (n + m))).toList).toArray e))) := by
  have hw : IntKind.i64.wrap (m : Int) = (m : Int) := IntWalk.i64_in _ (by omega)
  have hneg : ¬ ((m : Int) < 0) := by omega
  have hmb : m * j.bytes ≤ 140737488355328 := Nat.le_trans (Nat.mul_le_mul_right _ (by omega)) hb
  have h48 : ¬ (281474976710656 < (m : Int) * (j.bytes : Int)) := by
    have h2 := Int.ofNat_le.2 hmb
    rw [Int.natCast_mul] at h2
    omega
  have hna : Builtin.zeroCells z.cells m = news.toArray := by rw [← hn]
  have hnew : ∀ w' : World, (if m * j.size = 0 then (pure #[] : Sem (Array Value)) else do pure (Builtin.zeroCells (← zeroValue e).cells m)).run P w' = .ok news.toArray w' := fun w' => by
    by_cases h0 : m * j.size = 0
    · rw [if_pos h0]
      have : news = [] := List.eq_nil_of_length_eq_zero (by omega)
      rw [this]; rfl
    · rw [if_neg h0]
      simp [zeroValue, typeInfo, hi, hz, ← hn]
  by_cases hroom : n + m ≤ cap
  · rcases hA with ⟨rfl, rfl, rfl, rfl⟩ | ⟨g, rfl, hg⟩
    · have hm : m = 0 := by omega
      subst hm
      refine ⟨none, 0, w, ?_, by omega, .inl ⟨rfl, rfl, rfl, rfl, rfl⟩⟩
      have hw0 : IntKind.i64.wrap 0 = 0 := by decide
      simp [Builtin.append_, run_underlying ht, run_underlying hx, sizeOf, typeInfo, hi, asInt, asIntOf, hw0]
    · have hst := run_storeCells_at P g (n * j.size) e news 0 (olds ++ spare).toArray w hg (by
        simp only [List.size_toArray, Nat.add_zero, hls, hnl, ← Nat.add_mul]; exact Nat.mul_le_mul_right _ hroom) h1
      have e1 : (olds ++ spare).take (n * j.size) = olds := by rw [← hlo, List.take_left]
      have e2 : (olds ++ spare).drop (n * j.size + news.length) = spare.drop news.length := by rw [← hlo, List.drop_append]; simp [List.drop_eq_nil_of_le]
      simp only [Nat.add_zero, List.toList_toArray, e1, e2] at hst
      refine ⟨some ⟨g, 0, none⟩, cap, _, ?_, hroom, .inr (.inl ⟨g, rfl, rfl, rfl, rfl⟩)⟩
      by_cases h0 : m * j.size = 0
      · have hnn : news = [] := List.eq_nil_of_length_eq_zero (by omega)
        subst hnn
        simp [Builtin.append_, run_underlying ht, run_underlying hx, sizeOf, typeInfo, hi, asInt, asIntOf, hw, hneg, h48, hroom, Addr.add_lit, h0] at hst ⊢
        simp [hst]
      · simp [Builtin.append_, run_underlying ht, run_underlying hx, sizeOf, typeInfo, hi, asInt, asIntOf, hw, hneg, h48, hroom, Addr.add_lit, h0, zeroValue, hz, hna] at hst ⊢
        simp [hst]
  · have holds : (Builtin.firstCells j.size n (.slice A n cap)).run P w.drew = .ok olds.toArray w.drew := by
      rcases hA with ⟨rfl, rfl, rfl, rfl⟩ | ⟨g, rfl, hg⟩
      · simp [Builtin.firstCells]
      · have := run_loadCells_list (P := P) w.drew ⟨g, 0, none⟩ olds (fun q u hq => by
          rw [Addr.add_mid, Nat.zero_add]
          have : w.cell? ⟨g, q, none⟩ = some u := by
            simp [World.cell?, hg, List.getElem?_append, (List.getElem?_eq_some_iff.1 hq).1]
            exact (List.getElem?_eq_some_iff.1 hq).2
          exact this)
        rw [hlo] at this
        simp [Builtin.firstCells, this]
    have h63' : ¬ (9223372036854775807 < ((n + m : Nat) : Int)) := by omega
    have hfit := growslice_fits (need := n + m) (old := cap) (bytes := j.bytes) (by omega) hb
    have h48' : ¬ (281474976710656 < Builtin.nextslicecap (n + m) cap * j.bytes) := by omega
    refine ⟨some ⟨w.heap.size, 0, none⟩, grownCap w (n + m) cap e, w.drew.alloc (.cells (olds ++ news ++ (Builtin.zeroCells z.cells (grownCap w (n + m) cap e - (n + m))).toList).toArray e), ?_, grownCap_ge _ _ _ _, .inr (.inr ⟨rfl, by omega, rfl⟩)⟩
    have eqa : ∀ zz : Array Value, olds.toArray ++ (news.toArray ++ zz) = (olds ++ (news ++ zz.toList)).toArray := fun zz => by apply Array.ext'; simp
    have hfo : (Question.appendCap (n + m) cap e).forced = false := rfl
    simp only [Int.natCast_add] at h63'
    by_cases h0 : m * j.size = 0
    · have hnn : news = [] := List.eq_nil_of_length_eq_zero (by omega)
      subst hnn
      simp [Builtin.append_, run_underlying ht, run_underlying hx, sizeOf, typeInfo, hi, asInt, asIntOf, hw, hneg, h48, hroom, h63', h48', hfo, askRoom, zeroValue, hz, newRow, grownCap, List.append_assoc, holds, h0]
      congr 2
      apply Array.ext'
      simp
    · simp [Builtin.append_, run_underlying ht, run_underlying hx, sizeOf, typeInfo, hi, asInt, asIntOf, hw, hneg, h48, hroom, h63', h48', hfo, askRoom, zeroValue, hz, newRow, grownCap, List.append_assoc, holds, h0, hna]
      rw [eqa]
theorem ow_appendZ {P : Program} {Q : Exit → Act → World → Prop} {N : Nat} {sl : List (Nat × Value)} {W0 W : World} {ops : Array Oper} {rest : List Oper} {d : Nat} {ty t xT e : TypeId} {k : IntKind} {pos : String} {aft : Array Edge} {x y : Operand} {bs : List (Nat × List Value × Nat)} {v z : Value} {n m sz bytes : Nat} {cells news : List Value}
    (hG : Grow W0 W bs v n cells e sz) (hx : sv sl x = some v) {mi : Int} (hmi : mi = (m : Int)) (hy : sv sl y = some (.int .i64 mi)) (ht : P.underlying t = some (.slice e)) (hxT : P.underlying xT = some (.int k)) (hj : (P.info? e).map (fun j => (j.zero, j.size, j.bytes)) = some (some z, sz, bytes)) (hzc : z.cells.size = sz) (hn : (Builtin.zeroCells z.cells m).toList = news) (hnl : news.length = m * sz) (h1 : ∀ v ∈ news, v.oneCell' = true) (h63 : n + m ≤ 9223372036854775807) (hb : (n + m) * bytes ≤ 140737488355328) (hd : Nat.blt d N = true)
    (h : ∀ v' W', W.grownBy W' v.ownBlock → Grow W0 W' bs v' (n + m) (cells ++ news) e sz → OW P ops Q rest N ((d, v') :: sl) W') : OW P ops Q (⟨some d, .call ⟨.builtin .append, #[x, y], #[t, xT]⟩, ty, pos, aft, none⟩ :: rest) N sl W := by
  subst hmi
  obtain ⟨j, hj1, hj2⟩ := Option.map_eq_some_iff.1 hj
  simp only [Prod.mk.injEq] at hj2
  obtain ⟨hz, rfl, rfl⟩ := hj2
  have hP := hG.hp
  have run : ∀ {A : Option Addr} {cap : Nat} {v' : Value} {w' : World}, v = .slice A n cap → (Builtin.append_ #[t, xT] ty #[.slice A n cap, .int .i64 (m : Int)]).run P W = .ok v' w' → OW P ops Q rest N ((d, v') :: sl) w' → OW P ops Q (⟨some d, .call ⟨.builtin .append, #[x, y], #[t, xT]⟩, ty, pos, aft, none⟩ :: rest) N sl W := fun {A cap v' w'} hv hr hk =>
    ow_step (fun f hf => by
      have e1 := hf.ev hx
      rw [hv] at e1
      simp [execOp, resolve, invoke, builtin, e1, hf.ev hy, hr]) hd hk
  have done : ∀ (n0 : Nat) (olds : List Value) (cap' : Nat), n0 + m ≤ cap' → olds.length = n0 * j.size → Grow W0 (W.drew.alloc (.cells (olds ++ news ++ (Builtin.zeroCells z.cells (cap' - (n0 + m))).toList).toArray e)) bs (.slice (some ⟨W.heap.size, 0, none⟩) (n0 + m) cap') (n0 + m) (olds ++ news) e j.size ∧ ∀ row, W.grownBy (W.drew.alloc (.cells (olds ++ news ++ (Builtin.zeroCells z.cells (cap' - (n0 + m))).toList).toArray e)) row := fun n0 olds cap' hc ho => by
    have hl : (olds ++ news).length = (n0 + m) * j.size := by rw [List.length_append, ho, hnl, Nat.add_mul]
    refine ⟨.inr ⟨_, cap', (Builtin.zeroCells z.cells (cap' - (n0 + m))).toList, rfl, hc, hl, ?_, ?_⟩, fun row => ⟨rfl, rfl, rfl, by simp, fun k hk _ => Below.heap_alloc W.drew _ k hk⟩⟩
    · rw [List.length_append, hl, Array.length_toList, size_zeroCells, hzc, ← Nat.add_mul]
      congr 1
      omega
    · exact (hP.drew).alloc _ _
  rcases hG with ⟨rfl, rfl, rfl, _⟩ | ⟨g, cap, spare, rfl, hnc, hl, hl2, hP'⟩
  · obtain ⟨A', cap', w', hr, hc, hw⟩ := run_append_zeros (P := P) (w := W) (ty := ty) (A := none) (n := 0) (cap := 0) (olds := []) (spare := []) ht hxT hj1 hz hn hnl h1 (.inl ⟨rfl, rfl, rfl, rfl⟩) (by simp) (by simp) (Nat.le_refl _) h63 hb
    rcases hw with ⟨_, rfl, rfl, rfl, rfl⟩ | ⟨g, hg, _⟩ | ⟨rfl, hm, rfl⟩
    · have hn : news = [] := List.eq_nil_of_length_eq_zero (by rw [hnl, Nat.zero_mul])
      rw [hn] at h
      exact run rfl hr (h _ _ ⟨rfl, rfl, rfl, Nat.le_refl _, fun _ _ _ => rfl⟩ (.inl ⟨rfl, rfl, rfl, hP⟩))
    · cases hg
    · obtain ⟨k1, k2⟩ := done 0 [] cap' hc (by simp)
      exact run rfl hr (h _ _ (k2 _) k1)
  · obtain ⟨A', cap', w', hr, hc, hw⟩ := run_append_zeros (P := P) (w := W) (ty := ty) (A := some ⟨g, 0, none⟩) (n := n) (cap := cap) (olds := cells) (spare := spare) ht hxT hj1 hz hn hnl h1 (.inr ⟨g, rfl, hP'.blk (i := 0) rfl⟩) hl hl2 hnc h63 hb
    rcases hw with ⟨hA, _⟩ | ⟨g', hg, rfl, rfl, rfl⟩ | ⟨rfl, hm, rfl⟩
    · cases hA
    · cases hg
      refine run rfl hr (h _ _ (setRow_grown _ _ _) (.inr ⟨g, _, spare.drop news.length, rfl, hc, by rw [List.length_append, hl, hnl, Nat.add_mul], ?_, hP'.row (i := 0) rfl _⟩))
      have h3 : news.length ≤ spare.length := by
        rw [List.length_append, hl] at hl2
        have : (n + m) * j.size ≤ _ * j.size := Nat.mul_le_mul_right j.size hc
        rw [Nat.add_mul, ← hnl, ← hl2] at this
        omega
      rw [List.length_append, List.length_append, List.length_drop]
      rw [List.length_append] at hl2
      omega
    · obtain ⟨k1, k2⟩ := done n cells cap' hc hl
      exact run rfl hr (h _ _ (k2 _) k1)
/-- Zeros of one cell. -/
theorem zeroCells_one (z : Value) (hz : z.cells = #[z]) (m : Nat) : (Builtin.zeroCells z.cells m).toList = List.replicate m z := by
  unfold Builtin.zeroCells
  rw [hz]
  apply List.ext_getElem?
  intro i
  simp [List.getElem?_replicate]
  by_cases h : i < m
  · simp [h, Nat.mod_one]
  · simp [h]
end Go.Proofs.YtlhmbncalonomaaDoor.Sx
