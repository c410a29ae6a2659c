/-
  Own text. Arguments that came in, of whatever shape, opened as the print's kinds (Kd) tell them; and all of them read again behind a call that has changed nothing that was there.
-/
import Derived.Test.YtlhmbncalonomaaDoorWWords
import Derived.Test.YtlhmbncalonomaaDoorRows
import Derived.Deep.Slices
import Derived.ProofKit
import Derived.OpenShut
import Derived.Carry
import Derived.SizedLaws
namespace Go.Proofs.YtlhmbncalonomaaDoor.Opn
open Go.ChangeShapes Go.WideShapes Go.ChangeAt Go.RowKit Go.Proofs.YtlhmbncalonomaaDoorW.PrintWords
set_option linter.unusedVariables false

/-- Whatever reads as data of type T is told by the kind kd: x; its bulk is no more than the datum's; it is sound. -/
def Opens (P : Program) (T : TypeId) {α : Type} (kd : Kd α) (bk : α → Nat) (ok : α → Prop) : Prop :=
  ∀ {H : Type} {enc : TypeId × Value → H} {w : World} {fuel : Nat} {cs : List Value} {d : DataW H} {ps : List MemPlace},
    DataW.trod enc P w 0 (fun _ => true) true fuel T cs = some (d, ps) → ∃ x, kd.K w x cs ∧ bk x ≤ Rows.uptoBulk d ∧ ok x

variable {P : Program} {T : TypeId}

def okInt (k : IntKind) (x : Int) : Prop := (Lit.int k x).wf = true

theorem opens_int {k : IntKind} (h : P.underlying T = some (.int k)) : Opens P T (Kd.int k) (fun _ => 1) (okInt k) := by
  intro H enc w fuel cs d ps ht
  obtain ⟨x, rfl, e, hw⟩ := DataW.trod_int h ht
  obtain ⟨rfl, _⟩ := Prod.mk.inj e
  exact ⟨x, rfl, by simp [Rows.uptoBulk], hw⟩

theorem opens_bool (h : P.underlying T = some .bool) : Opens P T Kd.bool (fun _ => 1) (fun _ => True) := by
  intro H enc w fuel cs d ps ht
  obtain ⟨x, rfl, e⟩ := DataW.trod_bool h ht
  obtain ⟨rfl, _⟩ := Prod.mk.inj e
  exact ⟨x, rfl, by simp [Rows.uptoBulk], trivial⟩

theorem opens_string (h : P.underlying T = some .string) : Opens P T Kd.string (fun s => s.size + 1) (fun s => s.size ≤ maxLen) := by
  intro H enc w fuel cs d ps ht
  obtain ⟨x, rfl, e, hs⟩ := DataW.trod_string h ht
  obtain ⟨rfl, _⟩ := Prod.mk.inj e
  exact ⟨x, rfl, by simp only [Rows.uptoBulk, Array.length_toList]; exact Nat.le_refl _, hs⟩

/-- The bulk of a list. -/
def bkAll {α : Type} (bk : α → Nat) : List α → Nat
  | [] => 0
  | x :: r => bk x + bkAll bk r

theorem bulkAll_append {H : Type} (a b : List (DataW H)) : Rows.uptoBulkAll (a ++ b) = Rows.uptoBulkAll a + Rows.uptoBulkAll b := by
  induction a with
  | nil => simp [Rows.uptoBulkAll]
  | cons x r ih => simp [Rows.uptoBulkAll, ih]; omega

theorem bulkAll_range {H α : Type} (bk : α → Nat) (D : Nat → DataW H) (X : Nat → α) (n : Nat) (h : ∀ i, i < n → bk (X i) ≤ Rows.uptoBulk (D i)) :
    bkAll bk ((List.range n).map X) ≤ Rows.uptoBulkAll ((List.range n).map D) := by
  have g : ∀ l : List Nat, (∀ i ∈ l, i < n) → bkAll bk (l.map X) ≤ Rows.uptoBulkAll (l.map D) := by
    intro l
    induction l with
    | nil => intro _; simp [bkAll, Rows.uptoBulkAll]
    | cons i r ih =>
      intro hl
      have h1 := h i (hl i (by simp))
      have h2 := ih (fun j hj => hl j (by simp [hj]))
      simp only [List.map_cons, bkAll, Rows.uptoBulkAll]
      omega
  exact g _ (fun i hi => List.mem_range.1 hi)

theorem bulk_pos {H : Type} (d : DataW H) : 0 < Rows.uptoBulk d := by
  cases d with
  | lit l => cases l <;> simp [Rows.uptoBulk]
  | _ => simp [Rows.uptoBulk]

theorem opens_slice {E : TypeId} {α : Type} {kd : Kd α} {bk : α → Nat} {ok : α → Prop} (dflt : α) (h : P.underlying T = some (.slice E)) (hc : P.cellsOf E = kd.sz) (he : Opens P E kd bk ok) :
    Opens P T (Kd.slice E kd) (fun xs => bkAll bk xs + 1) (fun xs => xs.length ≤ maxLen ∧ ∀ x ∈ xs, ok x) := by
  intro H enc w fuel cs d ps ht
  rcases Deep.open_slice h ht with ⟨rfl, hx⟩ | ⟨a, len, cap, m, n, D, Pl, rfl, _, hl, hm, hmm, hx, hcell⟩
  · refine ⟨[], ⟨none, 0, rfl, Nat.le_refl _, rfl, by simp, fun h0 => absurd h0 (by simp)⟩, ?_, by simp, by simp⟩
    obtain ⟨rfl, _⟩ := Prod.mk.inj hx
    simp [bkAll, Rows.uptoBulk]
  · have hlm : len ≤ m := by rw [hmm]; simp [hl]
    haveI : Inhabited α := ⟨dflt⟩
    obtain ⟨X, hX⟩ := Deep.choose_lt (α := α) (n := len) (p := fun i x => ∃ c, c.length = kd.sz ∧ kd.K w x c ∧ (∀ j u, c[j]? = some u → w.cell? (a.add (i * kd.sz + j)) = some u) ∧ bk x ≤ Rows.uptoBulk (D i) ∧ ok x) (by
      intro i hi
      obtain ⟨cs', h1, h2⟩ := hcell i (by omega)
      obtain ⟨x, hk, hb, ho⟩ := he h2
      rw [hc] at h1
      obtain ⟨_, hlen, hcs⟩ := World.cells?_some h1
      refine ⟨x, cs', hlen, hk, fun j u hj => ?_, hb, ho⟩
      have hj' : j < kd.sz := by
        have := (List.getElem?_eq_some_iff.1 hj).1
        omega
      rw [← Deep.add_add, hcs j hj', hj])
    obtain ⟨rfl, _⟩ := Prod.mk.inj hx
    have hmx : maxLen = 9223372036854775807 := rfl
    refine ⟨(List.range len).map X, ⟨some a, cap, by simp, by simpa using hl, by simp, by simp; omega, fun _ => ⟨a, rfl, ?_⟩⟩, ?_, by simp; omega, ?_⟩
    · intro j p hj
      rw [List.getElem?_map] at hj
      obtain ⟨i, hi, rfl⟩ := Option.map_eq_some_iff.1 hj
      obtain ⟨hlt, rfl⟩ := List.getElem?_eq_some_iff.1 hi
      have hlt' : j < len := by simpa using hlt
      simp only [List.getElem_range]
      obtain ⟨c, h1, h2, h3, _⟩ := hX j hlt'
      exact ⟨c, h1, h2, h3⟩
    · have := bulkAll_range bk D X len (fun i hi => by obtain ⟨_, _, _, _, h4, _⟩ := hX i hi; exact h4)
      simp only [Rows.uptoBulk]
      omega
    · intro x hx
      obtain ⟨i, hi, rfl⟩ := List.mem_map.1 hx
      obtain ⟨_, _, _, _, _, h5⟩ := hX i (List.mem_range.1 hi)
      exact h5

/-- Fields of a struct from a place on. -/
def OpensF (P : Program) (fs : List Field) (off : Nat) {α : Type} (kd : Kd α) (bk : α → Nat) (ok : α → Prop) : Prop :=
  ∀ {H : Type} {enc : TypeId × Value → H} {w : World} {n : Nat} {cs : List Value} {xs : List (DataW H × List MemPlace)},
    cs.length = off + kd.sz → xs.length = fs.length → (∀ (i : Nat) (f : Field), fs[i]? = some f → DataW.trod enc P w 0 (fun _ => true) true n f.type ((cs.drop f.offset).take (P.cellsOf f.type)) = xs[i]?) →
    ∃ x, kd.K w x (cs.drop off) ∧ bk x ≤ Rows.uptoBulkAll (xs.map (·.1)) ∧ ok x

theorem opensF_last {f : Field} {off : Nat} {α : Type} {kd : Kd α} {bk : α → Nat} {ok : α → Prop} (hoff : f.offset = off) (hc : P.cellsOf f.type = kd.sz) (he : Opens P f.type kd bk ok) : OpensF P [f] off kd bk ok := by
  intro H enc w n cs xs hlen hxs hf
  match xs, hxs with
  | [y], _ =>
    have h0 := hf 0 f rfl
    rw [hoff, hc, List.take_of_length_le (by simp; omega)] at h0
    obtain ⟨x, hk, hb, ho⟩ := he (d := y.1) (ps := y.2) (by simpa using h0)
    exact ⟨x, hk, by simpa [Rows.uptoBulkAll] using hb, ho⟩

theorem opensF_cons {f : Field} {fs : List Field} {off : Nat} {α β : Type} {a : Kd α} {b : Kd β} {bka : α → Nat} {bkb : β → Nat} {oka : α → Prop} {okb : β → Prop} (hoff : f.offset = off) (hc : P.cellsOf f.type = a.sz)
    (he : Opens P f.type a bka oka) (hr : OpensF P fs (off + a.sz) b bkb okb) : OpensF P (f :: fs) off (Kd.pair a b) (fun x => bka x.1 + bkb x.2) (fun x => oka x.1 ∧ okb x.2) := by
  intro H enc w n cs xs hlen hxs hf
  match xs, hxs with
  | y :: ys, hxs =>
    have h0 := hf 0 f rfl
    rw [hoff, hc] at h0
    obtain ⟨x, hk, hb, ho⟩ := he (d := y.1) (ps := y.2) (by simpa using h0)
    have hlen' : cs.length = off + (a.sz + b.sz) := hlen
    obtain ⟨z, hkz, hbz, hoz⟩ := hr (cs := cs) (xs := ys) (by omega) (by simpa using hxs) (fun i g hg => by simpa using hf (i + 1) g (by simpa using hg))
    refine ⟨(x, z), ⟨(cs.drop off).take a.sz, cs.drop (off + a.sz), ?_, hk, hkz⟩, ?_, ho, hoz⟩
    · rw [← List.drop_drop, List.take_append_drop]
    · simp only [List.map_cons, Rows.uptoBulkAll]
      omega

theorem opens_struct {fs : Array Field} {α : Type} {kd : Kd α} {bk : α → Nat} {ok : α → Prop} (h : P.underlying T = some (.struct fs)) (hc : P.cellsOf T = kd.sz) (hf : OpensF P fs.toList 0 kd bk ok) : Opens P T kd (fun x => bk x + 1) ok := by
  intro H enc w fuel cs d ps ht
  obtain ⟨xs, n, rfl, hx, hlen, hsz, hi⟩ := DataW.trod_struct h ht
  obtain ⟨rfl, _⟩ := Prod.mk.inj hx
  obtain ⟨x, hk, hb, ho⟩ := hf (cs := cs) (xs := xs) (by omega) (by simpa using hsz) (fun i f hg => hi i f (by simpa using hg))
  exact ⟨x, by simpa using hk, by simp only [Rows.uptoBulk]; omega, ho⟩

theorem opens_iso {α β : Type} {kd : Kd α} {bk : α → Nat} {ok : α → Prop} (f : β → α) (g : α → β) (hfg : ∀ x, f (g x) = x) (h : Opens P T kd bk ok) : Opens P T (Kd.iso kd f) (fun y => bk (f y)) (fun y => ok (f y)) := by
  intro H enc w fuel cs d ps ht
  obtain ⟨x, hk, hb, ho⟩ := h ht
  exact ⟨g x, by show kd.K w (f (g x)) cs; rw [hfg]; exact hk, by show bk (f (g x)) ≤ _; rw [hfg]; exact hb, by show ok (f (g x)); rw [hfg]; exact ho⟩

theorem Opens.imp {α : Type} {kd : Kd α} {bk bk' : α → Nat} {ok ok' : α → Prop} (h : Opens P T kd bk ok) (hb : ∀ x, bk' x ≤ bk x) (ho : ∀ x, ok x → ok' x) : Opens P T kd bk' ok' := by
  intro H enc w fuel cs d ps ht
  obtain ⟨x, hk, hb', ho'⟩ := h ht
  exact ⟨x, hk, Nat.le_trans (hb x) hb', ho x ho'⟩

/-- A value of one cell, opened. -/
theorem Opens.one {α : Type} {kd : Kd α} {bk : α → Nat} {ok : α → Prop} (ho : Opens P T kd bk ok) {H : Type} {enc : TypeId × Value → H} {w : World} {v : Value} {d : DataW H} {ps : List MemPlace} (hv : v.cells = #[v])
    (h : DataW.Trod enc P w 0 (fun _ => true) true T v d ps) : ∃ x, kd.K w x [v] ∧ bk x ≤ Rows.uptoBulk d ∧ ok x := by
  obtain ⟨fuel, hf⟩ := h
  rw [hv] at hf
  exact ho hf

theorem Opens.sl {E : TypeId} {α : Type} {kd : Kd α} {bk : List α → Nat} {ok : List α → Prop} (ho : Opens P T (Kd.slice E kd) bk ok) {H : Type} {enc : TypeId × Value → H} {w : World} {r : Reach} {b0 : Nat} {v : Value} {d : DataW H} {ps : List MemPlace}
    (hu : P.underlying T = some (.slice E)) (hv : Value.okWide P w r b0 T v) (h : DataW.Trod enc P w 0 (fun _ => true) true T v d ps) :
    ∃ A c xs, v = .slice A xs.length c ∧ xs.length ≤ c ∧ kd.C w A xs.length xs ∧ bk xs ≤ Rows.uptoBulk d ∧ ok xs := by
  obtain ⟨a, len, cap, rfl⟩ := okWide_slice hu hv
  obtain ⟨xs, ⟨A, c, e, hl, hC⟩, hb, hok⟩ := ho.one rfl h
  injection e with e _
  exact ⟨A, c, xs, e, hl, hC, hb, hok⟩

theorem Opens.str {bk : ByteArray → Nat} {ok : ByteArray → Prop} (ho : Opens P T Kd.string bk ok) {H : Type} {enc : TypeId × Value → H} {w : World} {r : Reach} {b0 : Nat} {v : Value} {d : DataW H} {ps : List MemPlace}
    (hu : P.underlying T = some .string) (hv : Value.okWide P w r b0 T v) (h : DataW.Trod enc P w 0 (fun _ => true) true T v d ps) :
    ∃ s, v = .string s ∧ bk s ≤ Rows.uptoBulk d ∧ ok s := by
  obtain ⟨s, rfl, rfl, rfl, hs⟩ := Go.ChangeMaps.open_string hu hv h
  obtain ⟨x, hx, hb, hok⟩ := ho.one rfl h
  cases (hx : [Value.string s] = [Value.string x])
  exact ⟨s, rfl, hb, hok⟩

theorem Opens.num {k : IntKind} {bk : Int → Nat} {ok : Int → Prop} (ho : Opens P T (Kd.int k) bk ok) {H : Type} {enc : TypeId × Value → H} {w : World} {r : Reach} {b0 : Nat} {v : Value} {d : DataW H} {ps : List MemPlace}
    (hu : P.underlying T = some (.int k)) (hv : Value.okWide P w r b0 T v) (h : DataW.Trod enc P w 0 (fun _ => true) true T v d ps) :
    ∃ n, v = .int k n ∧ bk n ≤ Rows.uptoBulk d ∧ ok n := by
  obtain ⟨s, rfl, rfl, rfl, hs⟩ := open_int hu hv h
  obtain ⟨x, hx, hb, hok⟩ := ho.one rfl h
  cases (hx : [Value.int k s] = [Value.int k x])
  exact ⟨s, rfl, hb, hok⟩

/-- A struct by value, all of its fields of one cell. -/
theorem Opens.agg {fs : Array Field} {α : Type} {kd : Kd α} {bk : α → Nat} {ok : α → Prop} (ho : Opens P T kd bk ok) {H : Type} {enc : TypeId × Value → H} {w : World} {r : Reach} {b0 : Nat} {v : Value} {d : DataW H} {ps : List MemPlace}
    (hu : P.underlying T = some (.struct fs)) (hv : Value.okWide P w r b0 T v) (h : DataW.Trod enc P w 0 (fun _ => true) true T v d ps) :
    ∃ x cs, v = .agg cs ∧ kd.K w x cs.toList ∧ bk x ≤ Rows.uptoBulk d ∧ ok x := by
  obtain ⟨cs, rfl, hsz⟩ := okWide_struct hu hv
  obtain ⟨fuel, hf⟩ := h
  obtain ⟨x, hk, hb, hok⟩ := ho hf
  exact ⟨x, cs, rfl, hk, hb, hok⟩

/-- All arguments read again. -/
theorem trodAll_below {H : Type} {enc : TypeId × Value → H} (hl : laidOutB P = true) {W W' : World} (hb : Below W.heap.size W W') : ∀ {ts : List TypeId} {vs : List Value} {ds : List (DataW H)} {ps : List MemPlace},
    (ts.all (fun t => P.readableRec t && decide (t < P.types.size)) = true) → DataW.TrodAll enc P W 0 (fun _ => true) true ts vs ds ps → DataW.TrodAll enc P W' 0 (fun b => decide (b < W.heap.size)) true ts vs ds ps
  | [], [], [], ps, _, h => h
  | t :: ts, v :: vs, d :: ds, ps, hr, h => by
    obtain ⟨p, q, h0, h1, rfl⟩ := h
    simp only [List.all_cons, Bool.and_eq_true, decide_eq_true_eq] at hr
    refine ⟨p, q, Below.trod hl hr.1.1 hr.1.2 h0 hb ?_, trodAll_below hl hb hr.2 h1, rfl⟩
    obtain ⟨m, hm⟩ := h0
    exact DataW.trod_lt m _ _ _ hm
  | [], _ :: _, _, _, _, h => h.elim
  | [], [], _ :: _, _, _, h => h.elim
  | _ :: _, [], _, _, _, h => h.elim
  | _ :: _, _ :: _, [], _, _, h => h.elim

/-- A row's slice is no longer than its weight allows. -/
theorem sized_any {H : Type} {enc : TypeId × Value → H} {W : World} {base : Nat} {spare : Nat → Bool} {held : Bool} {t e : TypeId} {A : Option Addr} {len cap : Nat} {d : DataW H} {ps : List MemPlace} {ts : List TypeId} {ds : List (DataW H)} {j : Nat}
    (hsz : (DataW.weightsEach P ts ds).all (· ≤ reachBytes) = true) (ht : ts[j]? = some t) (hd : ds[j]? = some d) (hu : P.underlying t = some (.slice e)) {B : Nat} (hB : P.bytesOf e = B)
    (h : DataW.Trod enc P W base spare held t (.slice A len cap) d ps) : len * B ≤ 140737488351232 := by
  obtain ⟨fuel, hf⟩ := h
  rcases Deep.open_slice hu hf with ⟨hcs, _⟩ | ⟨a, l, c, m, n, D, Pl, hcs, _, hl, _, hm, hx, _⟩
  · simp [Value.cells] at hcs
    obtain ⟨rfl, rfl, rfl⟩ := hcs
    simp
  · simp [Value.cells] at hcs
    obtain ⟨rfl, rfl, rfl⟩ := hcs
    obtain ⟨hx, _⟩ := Prod.mk.inj hx
    subst hx
    have z := sized_slice hsz ht hd hu
    rw [hB] at z
    simp only [List.length_map, List.length_range] at z
    exact Nat.le_trans (Nat.mul_le_mul_right _ (Nat.le_add_right _ _)) z

theorem bk_length {α : Type} (xs : List α) : xs.length = bkAll (fun _ => 1) xs := by
  induction xs with
  | nil => rfl
  | cons x r ih => simp only [List.length_cons, bkAll, ih]; omega

end Go.Proofs.YtlhmbncalonomaaDoor.Opn
