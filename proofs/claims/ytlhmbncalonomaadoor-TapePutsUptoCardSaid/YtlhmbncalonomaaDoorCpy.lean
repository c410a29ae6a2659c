/- Own text. The builtin copy into a row of the call's own, for elements of one cell: the row as a list is spliced; all other blocks stay. -/
import Derived.Test.YtlhmbncalonomaaDoorWWords
import Derived.Test.YtlhmbncalonomaaDoorWMore
import Derived.Laws.CopyOwn
namespace Go.Proofs.YtlhmbncalonomaaDoor.Cpy
open Go.RowKit Go.Proofs.YtlhmbncalonomaaDoorW.PrintWords
set_option linter.unusedVariables false

theorem splice_map {α β : Type} (f : α → β) (L : List α) (off : Nat) (cs : List α) : (splice L off cs).map f = splice (L.map f) off (cs.map f) := by
  simp [splice, List.map_take, List.map_drop]

theorem grown_setRow (w : World) (g : Nat) (cs : Array Value) : w.grownBy (w.setRow g cs) (some g) :=
  ⟨rfl, rfl, rfl, by simp, fun i hi hne => setRow_other w g i cs (fun h => hne (by rw [h]))⟩

theorem made_form {α : Type} {d : Kd α} {e base : Nat} {w : World} {ok : Nat → Prop} {v : Value} {xs : List α} {B : Nat} (h : d.R e w base ok v xs) (hat : ∃ b, v.ownBlock = some b ∧ B ≤ b) :
    ∃ g c, v = .slice (some ⟨g, 0, none⟩) xs.length c ∧ B ≤ g := by
  obtain ⟨_, inner, ⟨_, hx⟩, _⟩ := h
  obtain ⟨b, hb, hB⟩ := hat
  rcases hx with ⟨rfl, _⟩ | ⟨g, cap, cur, rfl, _⟩
  · simp [Value.ownBlock] at hb
  · obtain rfl : g = b := by simpa [Value.ownBlock] using hb
    exact ⟨g, cap, rfl, hB⟩

section
variable {P : Program} {o : Oper} {a : Act}

/-- What a copy comes to, as an equation on its run. -/
theorem run_copy_kd {k : IntKind} {W : World} {base : Nat} {ok : Nat → Prop} {g n c : Nat} {xs : List Int} {e : TypeId} (dT sT ty : TypeId) (hu : P.underlying dT = some (.slice e)) (hsz : (P.info? e).map (·.size) = some 1)
    (HR : Kd.R (Kd.int k) e W base ok (.slice (some ⟨g, 0, none⟩) n c) xs) (off dLen dCap sLen sCap : Nat) (sp : Option Addr) (ys : List Int) (hfit : off + dLen ≤ xs.length) (HC : Kd.C (Kd.int k) W sp sLen ys) :
    ∃ w', (Builtin.copy_ #[dT, sT] ty #[.slice (some ⟨g, off, none⟩) dLen dCap, .slice sp sLen sCap]).run P W = .ok (goInt (Nat.min sLen dLen)) w' ∧
      Kd.R (Kd.int k) e w' base ok (.slice (some ⟨g, 0, none⟩) n c) (splice xs off (ys.take dLen)) ∧ W.grownBy w' (some g) := by
  have hlen : ys.length = sLen := HC.1
  have hnl : n = xs.length := (Kd.R_reads' HR).1
  obtain ⟨h1, inner, ⟨hxl, hx⟩, hreps⟩ := HR
  rcases hx with ⟨hx, _⟩ | ⟨g', cap, cur, hv, hbase, hheap, hncap, hcap, hsize, htake⟩
  · cases hx
  obtain ⟨hg', hc'⟩ : g = g' ∧ c = cap := by
    injection hv with e1 e2 e3
    injection e1 with e1
    injection e1 with e1
    exact ⟨e1, e3⟩
  subst hg' hc'
  have hsz1 : (Kd.int k).sz = 1 := rfl
  rw [hsz1, Nat.mul_one] at hxl htake hsize
  have hinner : inner = xs.map (fun x => Value.int k x) := by
    apply List.ext_getElem?
    intro i
    rw [List.getElem?_map]
    by_cases hi : i < xs.length
    · have hp := hreps.2 i xs[i] (List.getElem?_eq_getElem hi)
      rw [hsz1, Nat.mul_one] at hp
      have hp' : (inner.drop i).take 1 = [Value.int k xs[i]] := hp
      have : inner[i]? = some (Value.int k xs[i]) := by
        have h2 := congrArg (fun l : List Value => l[0]?) hp'
        simpa [List.getElem?_take, List.getElem?_drop] using h2
      rw [this, List.getElem?_eq_getElem hi]
      rfl
    · rw [List.getElem?_eq_none (by omega), List.getElem?_eq_none (by omega)]
      rfl
  by_cases h0 : Nat.min sLen dLen = 0
  · have hys : ys.take dLen = [] := by
      apply List.eq_nil_of_length_eq_zero
      rw [List.length_take, hlen, Nat.min_comm]
      exact h0
    refine ⟨W, ?_, ?_, ⟨rfl, rfl, rfl, Nat.le_refl _, fun _ _ _ => rfl⟩⟩
    · rw [run_copy_none (P := P) W dT sT ty e _ _ _ _ _ _ hu hsz h0, h0]
      rfl
    · rw [hys, show splice xs off [] = xs from by simp [splice]]
      exact ⟨h1, inner, ⟨by rw [hsz1]; omega, .inr ⟨g, c, cur, by rw [hnl], hbase, hheap, by omega, hcap, by rw [hsz1]; omega, by rw [hsz1, Nat.mul_one]; exact htake⟩⟩, hreps⟩
  · obtain ⟨ad, rfl, hcells⟩ := HC.2.2 (by have : Nat.min sLen dLen ≤ sLen := Nat.min_le_left _ _; omega)
    have hsrc : ∀ j v, ((ys.take dLen).map (fun x => Value.int k x))[j]? = some v → W.cell? (ad.add j) = some v := by
      intro j v hj
      rw [List.getElem?_map] at hj
      obtain ⟨y, hy, rfl⟩ := Option.map_eq_some_iff.1 hj
      have hy' : ys[j]? = some y := by
        rw [List.getElem?_take] at hy
        split at hy
        · exact hy
        · cases hy
      obtain ⟨cc, hcl, hK, hcc⟩ := hcells j y hy'
      cases (hK : cc = [Value.int k y])
      have := hcc 0 _ rfl
      simpa [hsz1] using this
    have hcl : ((ys.take dLen).map (fun x => Value.int k x)).length = Nat.min sLen dLen := by
      rw [List.length_map, List.length_take, hlen]
      exact Nat.min_comm _ _
    have hm1 : Nat.min sLen dLen ≤ dLen := Nat.min_le_right _ _
    have hcur : cur.size = c := by omega
    have hcs := run_copy_row (P := P) W dT sT ty e g off dLen dCap ad sLen sCap cur e ((ys.take dLen).map (fun x => Value.int k x)) hu hsz hheap hcl hsrc (by omega) (by intro v hv; obtain ⟨x, _, rfl⟩ := List.mem_map.1 hv; rfl)
    rw [hcl] at hcs
    refine ⟨_, hcs, ?_, grown_setRow W g _⟩
    have hyl : (ys.take dLen).length = Nat.min sLen dLen := by rw [List.length_take, hlen]; exact Nat.min_comm _ _
    have hsl : (splice xs off (ys.take dLen)).length = xs.length := length_splice _ _ _ (by omega)
    refine ⟨h1, (splice xs off (ys.take dLen)).map (fun x => Value.int k x), ⟨?_, .inr ⟨g, c, (cur.toList.take off ++ (ys.take dLen).map (fun x => Value.int k x) ++ cur.toList.drop (off + Nat.min sLen dLen)).toArray, ?_, hbase, setRow_heap W g cur _ e (0, 0) hheap, ?_, hcap, ?_, ?_⟩⟩, ?_, ?_⟩
    · rw [List.length_map, hsl, hsz1]
      omega
    · rw [hsl, hnl]
    · rw [hsl]
      omega
    · simp only [List.size_toArray, List.length_append, List.length_take, List.length_drop, Array.length_toList, List.length_map, hsz1, hlen]
      have : Nat.min sLen dLen = min dLen sLen := Nat.min_comm _ _
      omega
    · rw [hsz1, Nat.mul_one, hsl, splice_map]
      rw [hinner] at htake
      have hc2 : cur.toList = xs.map (fun x => Value.int k x) ++ cur.toList.drop xs.length := by
        rw [← htake, List.take_append_drop]
      simp only [splice]
      rw [hc2]
      have e1 : off ≤ (xs.map (fun x => Value.int k x)).length := by rw [List.length_map]; omega
      have e2 : off + Nat.min sLen dLen ≤ (xs.map (fun x => Value.int k x)).length := by rw [List.length_map]; omega
      rw [List.take_append_of_le_length e1, List.drop_append_of_le_length e2, ← List.append_assoc]
      have e3 : ((xs.map (fun x => Value.int k x)).take off ++ (ys.take dLen).map (fun x => Value.int k x) ++ (xs.map (fun x => Value.int k x)).drop (off + Nat.min sLen dLen)).length = xs.length := by
        rw [List.length_append, List.length_append, List.length_take, List.length_drop, hcl, List.length_map, Nat.min_eq_left (by omega)]
        omega
      rw [List.take_append_of_le_length (by rw [e3]; exact Nat.le_refl _), List.take_of_length_le (by rw [e3]; exact Nat.le_refl _), hcl, List.append_assoc]
    · rw [hsz1, Nat.mul_one, List.length_map]
    · intro j p hj
      rw [hsz1, Nat.mul_one]
      show _ = [Value.int k p]
      rw [← List.map_drop, ← List.map_take]
      obtain ⟨hlt, rfl⟩ := List.getElem?_eq_some_iff.1 hj
      rw [List.drop_eq_getElem_cons hlt]
      rfl

/-- copy as an operation of its own. -/
theorem R_copy {k : IntKind} {ops : Array Oper} {rest : List Oper} {Q : Exit → Act → World → Prop} {w0 W : World} {base : Nat} {ok : Nat → Prop} {g n c : Nat} {xs : List Int} {e : TypeId} (hgd : o.guard = none) (d s : Operand) (dT sT : TypeId)
    (ho : o.op = .call { callee := .builtin .copy, args := #[d, s], argTypes := #[dT, sT] }) (hu : P.underlying dT = some (.slice e)) (hsz : (P.info? e).map (·.size) = some 1)
    (HR : Kd.R (Kd.int k) e W base ok (.slice (some ⟨g, 0, none⟩) n c) xs) (off dLen dCap sLen sCap : Nat) (sp : Option Addr) (ys : List Int) (hd : a.eval d = .slice (some ⟨g, off, none⟩) dLen dCap) (hs : a.eval s = .slice sp sLen sCap)
    (hfit : off + dLen ≤ xs.length) (HC : Kd.C (Kd.int k) W sp sLen ys) (hB : Below base w0 W)
    (h : ∀ w', Kd.R (Kd.int k) e w' base ok (.slice (some ⟨g, 0, none⟩) n c) (splice xs off (ys.take dLen)) → W.grownBy w' (some g) → Below base w0 w' → wpList P ops Q rest (a.put o.dst (goInt (Nat.min sLen dLen))) w') :
    wpList P ops Q (o :: rest) a W := by
  obtain ⟨w', hrun, hR, hg⟩ := run_copy_kd (P := P) dT sT o.type hu hsz HR off dLen dCap sLen sCap sp ys hfit HC
  have hw : Region.wanted o (yielded ops a.tmps) = true := by simp [Region.wanted, hgd]
  have hbase : base ≤ g := own_base (Kd.R_own HR).choose_spec g (by simp [Value.ownBlock])
  have hlt : g < W.heap.size := own_lt (Kd.R_own HR).choose_spec g (by simp [Value.ownBlock])
  unfold wpList
  rw [if_pos hw]
  unfold Oper.wp
  simp [execOp, ho, resolve, invoke, builtin, hd, hs, hrun, Result.andThen]
  exact Or.inl (h w' hR hg (pw_below_grown hB (some g) (Nat.le_trans hbase (Nat.le_of_lt hlt)) hg (fun k hk => by cases hk; exact hbase)))

/-- copy as one step of a region that draws. -/
theorem R_copy_step {k : IntKind} {ops : Array Oper} {K : Act → World → Prop} {Q : Exit → Act → World → Prop} {E : Prop} {w0 W : World} {base : Nat} {ok : Nat → Prop} {g n c : Nat} {xs : List Int} {e : TypeId} (hgd : o.guard = none) (d s : Operand) (dT sT : TypeId)
    (ho : o.op = .call { callee := .builtin .copy, args := #[d, s], argTypes := #[dT, sT] }) (hu : P.underlying dT = some (.slice e)) (hsz : (P.info? e).map (·.size) = some 1)
    (HR : Kd.R (Kd.int k) e W base ok (.slice (some ⟨g, 0, none⟩) n c) xs) (off dLen dCap sLen sCap : Nat) (sp : Option Addr) (ys : List Int) (hd : a.eval d = .slice (some ⟨g, off, none⟩) dLen dCap) (hs : a.eval s = .slice sp sLen sCap)
    (hfit : off + dLen ≤ xs.length) (HC : Kd.C (Kd.int k) W sp sLen ys) (hB : Below base w0 W)
    (h : ∀ w', Kd.R (Kd.int k) e w' base ok (.slice (some ⟨g, 0, none⟩) n c) (splice xs off (ys.take dLen)) → W.grownBy w' (some g) → Below base w0 w' → K (a.put o.dst (goInt (Nat.min sLen dLen))) w') :
    if Region.wanted o (yielded ops a.tmps) = true then Oper.wp P o a W K Q else E := by
  obtain ⟨w', hrun, hR, hg⟩ := run_copy_kd (P := P) dT sT o.type hu hsz HR off dLen dCap sLen sCap sp ys hfit HC
  have hw : Region.wanted o (yielded ops a.tmps) = true := by simp [Region.wanted, hgd]
  have hbase : base ≤ g := own_base (Kd.R_own HR).choose_spec g (by simp [Value.ownBlock])
  have hlt : g < W.heap.size := own_lt (Kd.R_own HR).choose_spec g (by simp [Value.ownBlock])
  rw [if_pos hw]
  unfold Oper.wp
  simp [execOp, ho, resolve, invoke, builtin, hd, hs, hrun, Result.andThen]
  exact h w' hR hg (pw_below_grown hB (some g) (Nat.le_trans hbase (Nat.le_of_lt hlt)) hg (fun k hk => by cases hk; exact hbase))
end
end Go.Proofs.YtlhmbncalonomaaDoor.Cpy
