/- Own text. The builtin copy of a string into a row of the call's own; numbers of a string. -/
import Derived.Test.YtlhmbncalonomaaDoorCpy
import Derived.Lib.BufferWrite
namespace Go.Proofs.YtlhmbncalonomaaDoor.Cpy
open Go.RowKit Go.Proofs.YtlhmbncalonomaaDoorW.PrintWords Go.Lib
set_option linter.unusedVariables false

/-- A string's bytes as numbers. -/
def bn (s : ByteArray) : List Int := s.data.toList.map (fun b => (b.toNat : Int))
theorem bn_length (s : ByteArray) : (bn s).length = s.size := by
  simp only [bn, List.length_map, Array.length_toList]
  rfl
theorem bn_cells (s : ByteArray) : byteCells s.data.toList = (bn s).map (fun x => Value.int .u8 x) := by
  simp [byteCells, bn, List.map_map, Function.comp_def]

theorem R_row {P : Program} {k : IntKind} {W : World} {base : Nat} {ok : Nat → Prop} {g n c : Nat} {xs : List Int} {e : TypeId} (HR : Kd.R (Kd.int k) e W base ok (.slice (some ⟨g, 0, none⟩) n c) xs) :
    ∃ cur : Array Value, W.heap[g]? = some (.cells cur e (0, 0)) ∧ cur.size = c ∧ xs.length ≤ c ∧ ∀ (off : Nat) (ys : List Int), off + ys.length ≤ xs.length →
      Kd.R (Kd.int k) e (W.setRow g (cur.toList.take off ++ ys.map (fun x => Value.int k x) ++ cur.toList.drop (off + ys.length)).toArray) base ok (.slice (some ⟨g, 0, none⟩) n c) (splice xs off ys) := by
  have hnl : n = xs.length := (Kd.R_reads' HR).1
  obtain ⟨h1, inner, ⟨hxl, hx⟩, hreps⟩ := HR
  rcases hx with ⟨hx, _⟩ | ⟨g', cap, cur, hv, hbase, hheap, hncap, hcap, hsize, htake⟩
  · cases hx
  obtain ⟨hg', hc'⟩ : g = g' ∧ c = cap := by
    injection hv with e1 e2 e3
    injection e1 with e1
    injection e1 with e1
    exact ⟨e1, e3⟩
  subst hg' hc'
  have hsz1 : (Kd.int k).sz = 1 := rfl
  rw [hsz1, Nat.mul_one] at hxl htake hsize
  have hinner : inner = xs.map (fun x => Value.int k x) := by
    apply List.ext_getElem?
    intro i
    rw [List.getElem?_map]
    by_cases hi : i < xs.length
    · have hp := hreps.2 i xs[i] (List.getElem?_eq_getElem hi)
      rw [hsz1, Nat.mul_one] at hp
      have hp' : (inner.drop i).take 1 = [Value.int k xs[i]] := hp
      have : inner[i]? = some (Value.int k xs[i]) := by
        have h2 := congrArg (fun l : List Value => l[0]?) hp'
        simpa [List.getElem?_take, List.getElem?_drop] using h2
      rw [this, List.getElem?_eq_getElem hi]
      rfl
    · rw [List.getElem?_eq_none (by omega), List.getElem?_eq_none (by omega)]
      rfl
  refine ⟨cur, hheap, by omega, by omega, fun off ys hfit => ?_⟩
  have hsl : (splice xs off ys).length = xs.length := length_splice _ _ _ (by omega)
  refine ⟨h1, (splice xs off ys).map (fun x => Value.int k x), ⟨?_, .inr ⟨g, c, (cur.toList.take off ++ ys.map (fun x => Value.int k x) ++ cur.toList.drop (off + ys.length)).toArray, ?_, hbase, setRow_heap W g cur _ e (0, 0) hheap, ?_, hcap, ?_, ?_⟩⟩, ?_, ?_⟩
  · rw [List.length_map, hsl, hsz1]
    omega
  · rw [hsl, hnl]
  · rw [hsl]
    omega
  · simp only [List.size_toArray, List.length_append, List.length_take, List.length_drop, Array.length_toList, List.length_map, hsz1]
    omega
  · rw [hsz1, Nat.mul_one, hsl, splice_map]
    rw [hinner] at htake
    have hc2 : cur.toList = xs.map (fun x => Value.int k x) ++ cur.toList.drop xs.length := by
      rw [← htake, List.take_append_drop]
    simp only [splice]
    rw [hc2]
    have e1 : off ≤ (xs.map (fun x => Value.int k x)).length := by rw [List.length_map]; omega
    have e2 : off + ys.length ≤ (xs.map (fun x => Value.int k x)).length := by rw [List.length_map]; omega
    rw [List.take_append_of_le_length e1, List.drop_append_of_le_length e2, ← List.append_assoc]
    have e3 : ((xs.map (fun x => Value.int k x)).take off ++ ys.map (fun x => Value.int k x) ++ (xs.map (fun x => Value.int k x)).drop (off + ys.length)).length = xs.length := by
      rw [List.length_append, List.length_append, List.length_take, List.length_drop, List.length_map, List.length_map, Nat.min_eq_left (by omega)]
      omega
    rw [List.take_append_of_le_length (by rw [e3]; exact Nat.le_refl _), List.take_of_length_le (by rw [e3]; exact Nat.le_refl _), List.length_map, List.append_assoc]
  · rw [hsz1, Nat.mul_one, List.length_map]
  · intro j p hj
    rw [hsz1, Nat.mul_one]
    show _ = [Value.int k p]
    rw [← List.map_drop, ← List.map_take]
    obtain ⟨hlt, rfl⟩ := List.getElem?_eq_some_iff.1 hj
    rw [List.drop_eq_getElem_cons hlt]
    rfl

section
variable {P : Program} {o : Oper} {a : Act}
/-- copy of a string that fits, as an operation of its own. -/
theorem R_copyS {ops : Array Oper} {rest : List Oper} {Q : Exit → Act → World → Prop} {w0 W : World} {base : Nat} {ok : Nat → Prop} {g n c : Nat} {xs : List Int} {e : TypeId} (hgd : o.guard = none) (d s : Operand) (dT sT : TypeId)
    (ho : o.op = .call { callee := .builtin .copy, args := #[d, s], argTypes := #[dT, sT] }) (hu : P.underlying dT = some (.slice e)) (hsz : (P.info? e).map (·.size) = some 1)
    (HR : Kd.R (Kd.int .u8) e W base ok (.slice (some ⟨g, 0, none⟩) n c) xs) (off dLen dCap : Nat) (t : ByteArray) (hd : a.eval d = .slice (some ⟨g, off, none⟩) dLen dCap) (hs : a.eval s = .string t) (hle : t.size ≤ dLen)
    (hfit : off + t.size ≤ xs.length) (hB : Below base w0 W)
    (h : ∀ w', Kd.R (Kd.int .u8) e w' base ok (.slice (some ⟨g, 0, none⟩) n c) (splice xs off (bn t)) → W.grownBy w' (some g) → Below base w0 w' → wpList P ops Q rest (a.put o.dst (goInt t.size)) w') :
    wpList P ops Q (o :: rest) a W := by
  obtain ⟨cur, hheap, hcs, hxc, hrow⟩ := R_row (P := P) HR
  have hrun := run_copy_row_string (P := P) W dT sT o.type e g off dLen dCap t cur e hu hsz hheap hle (by omega)
  have hR := hrow off (bn t) (by rw [bn_length]; exact hfit)
  rw [bn_cells] at hrun
  rw [bn_length] at hR
  rw [List.append_assoc] at hrun hR
  have hg := grown_setRow W g (cur.toList.take off ++ ((bn t).map (fun x => Value.int .u8 x) ++ cur.toList.drop (off + t.size))).toArray
  have hw : Region.wanted o (yielded ops a.tmps) = true := by simp [Region.wanted, hgd]
  have hbase : base ≤ g := own_base (Kd.R_own HR).choose_spec g (by simp [Value.ownBlock])
  have hlt : g < W.heap.size := own_lt (Kd.R_own HR).choose_spec g (by simp [Value.ownBlock])
  unfold wpList
  rw [if_pos hw]
  unfold Oper.wp
  simp [execOp, ho, resolve, invoke, builtin, hd, hs, hrun, Result.andThen]
  exact Or.inl (h _ hR hg (pw_below_grown hB (some g) (Nat.le_trans hbase (Nat.le_of_lt hlt)) hg (fun k hk => by cases hk; exact hbase)))
end
end Go.Proofs.YtlhmbncalonomaaDoor.Cpy
