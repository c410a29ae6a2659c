/- The package's tables out of the row's condition; a list of files opened. -/
import Derived.Test.YtlhmbncalonomaaDoorOpn
import Derived.Test.YtlhmbncalonomaaDoorFil
import Derived.Lib.LaidTab
import Derived.ChangeArms
import Derived.FnData
namespace Go.Proofs.YtlhmbncalonomaaDoor.Ld
open Go.RowKit Go.Proofs.YtlhmbncalonomaaDoor.Q Go.Proofs.YtlhmbncalonomaaDoor.Cpy Go.Proofs.YtlhmbncalonomaaDoor.Hand Go.Proofs.YtlhmbncalonomaaDoor.Arr Go.Proofs.YtlhmbncalonomaaDoor.Sx Go.Proofs.YtlhmbncalonomaaDoor.Head Go.Proofs.YtlhmbncalonomaaDoor.Fil Go.Proofs.YtlhmbncalonomaaDoor.Opn Go.Proofs.YtlhmbncalonomaaDoorW.PrintWords Go.Proofs.YtlhmbncalonomaaDoorW.PrintLast Go.Proofs.YtlhmbncalonomaaDoorW.PrintMore
set_option linter.unusedVariables false
set_option linter.unusedSimpArgs false

section
variable {H : Type} {enc : TypeId × Value → H} {P : Program} {w : World} {base : Nat} {sp : Nat → Bool} {held : Bool} {fuel : Nat} {t e : TypeId} {cs : List Value} {p : List MemPlace}
theorem two_ints {f0 f1 : Field} {a b : Int} (ht : P.underlying t = some (.struct #[f0, f1])) (h0 : f0.offset = 0 ∧ f1.offset = 1 ∧ f0.type = e ∧ f1.type = e) (he : P.underlying e = some (.int .i64)) (hce : P.cellsOf e = 1)
    (h : DataW.trod enc P w base sp held fuel t cs = some (.agg [.lit (.int .i64 a), .lit (.int .i64 b)], p)) : cs[0]? = some (.int .i64 a) ∧ cs[1]? = some (.int .i64 b) := by
  obtain ⟨xs, n, rfl, hx, hlen, hsz, hi⟩ := DataW.trod_struct ht h
  have hxs : xs.map (·.1) = [.lit (.int .i64 a), .lit (.int .i64 b)] := by
    have h := congrArg Prod.fst hx
    exact (DataW.agg.inj h).symm
  have g0 := hi 0 f0 rfl
  have g1 := hi 1 f1 rfl
  rw [h0.1, h0.2.2.1, hce] at g0
  rw [h0.2.1, h0.2.2.2, hce] at g1
  have hl : xs.length = 2 := by simpa using congrArg List.length hxs
  obtain ⟨y0, y1, rfl⟩ : ∃ y0 y1, xs = [y0, y1] := by
    match xs, hl with
    | [y0, y1], _ => exact ⟨y0, y1, rfl⟩
  have e0 := congrArg (·[0]?) hxs
  have e1 := congrArg (·[1]?) hxs
  simp only [List.map_cons, List.getElem?_cons_zero, List.getElem?_cons_succ, Option.some.injEq] at e0 e1
  obtain ⟨z0, hc0, hz0, _⟩ := DataW.trod_int he (show DataW.trod enc P w base sp held n e ((cs.drop 0).take 1) = some y0 from g0)
  obtain ⟨z1, hc1, hz1, _⟩ := DataW.trod_int he (show DataW.trod enc P w base sp held n e ((cs.drop 1).take 1) = some y1 from g1)
  rw [hz0] at e0
  rw [hz1] at e1
  simp only [DataW.lit.injEq, Lit.int.injEq, true_and] at e0 e1
  subst e0; subst e1
  have k0 := congrArg (·[0]?) hc0
  have k1 := congrArg (·[0]?) hc1
  simp only [List.getElem?_take, List.getElem?_drop] at k0 k1
  exact ⟨by simpa using k0, by simpa using k1⟩
theorem tab_at {n : Nat} {ds : List (DataW H)} (ht : P.underlying t = some (.array n e)) (hce : P.cellsOf e = 2) (h : DataW.trod enc P w base sp held fuel t cs = some (.agg ds, p)) (i : Nat) (hi : i < n) (d : DataW H) (hd : ds[i]? = some d) :
    ∃ m q, DataW.trod enc P w base sp held m e ((cs.drop (i * 2)).take 2) = some (d, q) := by
  cases fuel with
  | zero => simp [DataW.trod] at h
  | succ fuel =>
    simp only [DataW.trod, ht, hce] at h
    split at h
    · obtain ⟨xs, hm, hx⟩ := Option.map_eq_some_iff.1 h
      have hxs : xs.map (·.1) = ds := by
        have := congrArg Prod.fst hx
        simpa using this
      obtain ⟨b, hb, hf⟩ := Lib.mapM_at hm i i (by simp [hi])
      rw [← hxs, List.getElem?_map, hb] at hd
      have hd' : b.1 = d := by simpa using hd
      exact ⟨fuel, b.2, by rw [hf, ← hd']⟩
    · cases h
end
theorem laidVar {P : Program} {w : World} : ∀ {laid : List (String × DataW Unit)} {ps : List MemPlace}, DataW.LaidVars P w laid ps → ∀ x ∈ laid, ∃ g t cs fuel p, P.globalNamed x.1 = some g ∧ (P.globals[g]?).map (·.type) = some t ∧ w.var? P x.1 = some cs ∧ DataW.trod (fun _ => ()) P w 0 (fun _ => true) false fuel t cs.toList = some (x.2, p)
  | [], _, _, x, hx => by cases hx
  | (n, d) :: r, ps, h, x, hx => by
    obtain ⟨g, t, cs, fuel, p, q, h1, h2, h3, h4, h5, _⟩ := h
    rcases List.mem_cons.1 hx with rfl | hx
    · exact ⟨g, t, cs, fuel, p, h1, h2, h3, h4⟩
    · exact laidVar h5 x hx
theorem cells60 : Tryd.prog.cellsOf 60 = 2 := by kernel_rfl
theorem cells3 : Tryd.prog.cellsOf 3 = 1 := by kernel_rfl
theorem span_at {W : World} {name : String} {a b : Int} {g : Nat} {laid : List (String × DataW Unit)} {ps : List MemPlace} (h : DataW.LaidVars Tryd.prog W laid ps) (hm : (name, DataW.agg [.lit (.int .i64 a), .lit (.int .i64 b)]) ∈ laid) (hg : Tryd.prog.globalNamed name = some g) (ht : (Tryd.prog.globals[g]?).map (·.type) = some 60) :
    W.cell? ⟨g, 0, none⟩ = some (.int .i64 a) ∧ W.cell? ⟨g, 1, none⟩ = some (.int .i64 b) := by
  obtain ⟨g', t, cs, fuel, p, h1, h2, h3, h4⟩ := laidVar h _ hm
  obtain rfl := Option.some.inj (hg.symm.trans h1)
  obtain rfl := Option.some.inj (ht.symm.trans h2)
  obtain ⟨k0, k1⟩ := two_ints Tryd.underlying60 ⟨rfl, rfl, rfl, rfl⟩ Tryd.underlying3 cells3 h4
  rw [World.var?_cell hg h3, World.var?_cell hg h3]
  exact ⟨by simpa using k0, by simpa using k1⟩
theorem spans_at {W : World} {name : String} {ds : List (DataW Unit)} {g : Nat} {laid : List (String × DataW Unit)} {ps : List MemPlace} (h : DataW.LaidVars Tryd.prog W laid ps) (hm : (name, DataW.agg ds) ∈ laid) (hg : Tryd.prog.globalNamed name = some g) (ht : (Tryd.prog.globals[g]?).map (·.type) = some 61)
    (i : Nat) (a b : Int) (hi : i < 8) (hd : ds[i]? = some (.agg [.lit (.int .i64 a), .lit (.int .i64 b)])) : W.cell? ⟨g, i * 2, none⟩ = some (.int .i64 a) ∧ W.cell? ⟨g, i * 2 + 1, none⟩ = some (.int .i64 b) := by
  obtain ⟨g', t, cs, fuel, p, h1, h2, h3, h4⟩ := laidVar h _ hm
  obtain rfl := Option.some.inj (hg.symm.trans h1)
  obtain rfl := Option.some.inj (ht.symm.trans h2)
  obtain ⟨m, q, h5⟩ := tab_at Tryd.underlying61 cells60 h4 i hi _ hd
  obtain ⟨k0, k1⟩ := two_ints Tryd.underlying60 ⟨rfl, rfl, rfl, rfl⟩ Tryd.underlying3 cells3 h5
  rw [World.var?_cell hg h3, World.var?_cell hg h3]
  simp only [List.getElem?_take, List.getElem?_drop] at k0 k1
  exact ⟨by simpa using k0, by simpa using k1⟩
/-- The list of tables that every row of this seat names. -/
def tabs : List (String × DataW Unit) := [("valise/tape.numbers", Rows.laid_valise_tape_numbers), ("valise/tape.name", Rows.laid_valise_tape_name), ("valise/tape.link", Rows.laid_valise_tape_link), ("valise/tape.user", Rows.laid_valise_tape_user), ("valise/tape.team", Rows.laid_valise_tape_team), ("valise/tape.prefix", Rows.laid_valise_tape_prefix), ("valise/tape.marks", Rows.laid_valise_tape_marks)]
theorem laid_of {W : World} (h : laidMet Tryd.prog tabs W) : Laid W := by
  obtain ⟨ps, hv, _⟩ := h
  have N : ∀ (i : Nat) (a b : Int), i < 8 → _ → _ := fun i a b hi hd => spans_at (name := "valise/tape.numbers") (g := 0) hv (List.mem_cons_self) (by kernel_rfl) (by kernel_rfl) i a b hi hd
  have A := span_at (name := "valise/tape.name") (g := 1) (a := 0) (b := 100) hv (by simp [tabs, Rows.laid_valise_tape_name]) (by kernel_rfl) (by kernel_rfl)
  have B := span_at (name := "valise/tape.prefix") (g := 2) (a := 345) (b := 155) hv (by simp [tabs, Rows.laid_valise_tape_prefix]) (by kernel_rfl) (by kernel_rfl)
  have C := span_at (name := "valise/tape.link") (g := 3) (a := 157) (b := 100) hv (by simp [tabs, Rows.laid_valise_tape_link]) (by kernel_rfl) (by kernel_rfl)
  have D := span_at (name := "valise/tape.user") (g := 4) (a := 265) (b := 32) hv (by simp [tabs, Rows.laid_valise_tape_user]) (by kernel_rfl) (by kernel_rfl)
  have E := span_at (name := "valise/tape.team") (g := 5) (a := 297) (b := 32) hv (by simp [tabs, Rows.laid_valise_tape_team]) (by kernel_rfl) (by kernel_rfl)
  have F := span_at (name := "valise/tape.marks") (g := 6) (a := 257) (b := 8) hv (by simp [tabs, Rows.laid_valise_tape_marks]) (by kernel_rfl) (by kernel_rfl)
  have N0 := N 0 100 8 (by decide) rfl
  have N1 := N 1 108 8 (by decide) rfl
  have N2 := N 2 116 8 (by decide) rfl
  have N3 := N 3 124 12 (by decide) rfl
  have N4 := N 4 136 12 (by decide) rfl
  have N5 := N 5 148 8 (by decide) rfl
  have N6 := N 6 329 8 (by decide) rfl
  have N7 := N 7 337 8 (by decide) rfl
  exact ⟨N0.1, N0.2, N1.1, N1.2, N2.1, N2.2, N3.1, N3.2, N4.1, N4.2, N5.1, N5.2, N6.1, N6.2, N7.1, N7.2, A.1, A.2, B.1, B.2, C.1, C.2, D.1, D.2, E.1, E.2, F.1, F.2⟩
/-! ### A list of files opened -/
def tup (x : S26) := (x.f0, x.f1, x.f2, x.f3, x.f4, x.f5, x.f6, x.f7, x.f8, x.f9)
def bk26 (x : S26) : Nat := x.f0.size + x.f1.size + x.f2.size + x.f3.size + x.f9.length + 1
theorem o26 : ∃ ok, Opens Tryd.prog 26 k26 bk26 ok := by
  have hs : Opens Tryd.prog 26 (Kd.pair Kd.string (Kd.pair Kd.string (Kd.pair Kd.string (Kd.pair Kd.string (Kd.pair (Kd.int .i64) (Kd.pair (Kd.int .i64) (Kd.pair (Kd.int .i64) (Kd.pair (Kd.int .i64) (Kd.pair (Kd.int .i64) (Kd.slice 5 (Kd.int .u8))))))))))) _ _ := opens_struct Tryd.underlying26 (by kernel_rfl) (opensF_cons (by rfl) (by kernel_rfl) (opens_string Tryd.underlying9) (opensF_cons (by rfl) (by kernel_rfl) (opens_string Tryd.underlying9) (opensF_cons (by rfl) (by kernel_rfl) (opens_string Tryd.underlying9) (opensF_cons (by rfl) (by kernel_rfl) (opens_string Tryd.underlying9) (opensF_cons (by rfl) (by kernel_rfl) (opens_int Tryd.underlying3) (opensF_cons (by rfl) (by kernel_rfl) (opens_int Tryd.underlying3) (opensF_cons (by rfl) (by kernel_rfl) (opens_int Tryd.underlying3) (opensF_cons (by rfl) (by kernel_rfl) (opens_int Tryd.underlying3) (opensF_cons (by rfl) (by kernel_rfl) (opens_int Tryd.underlying3) (opensF_last (by rfl) (by kernel_rfl) (opens_slice (0 : Int) Tryd.underlying24 (by kernel_rfl) (opens_int Tryd.underlying5))))))))))))
  refine ⟨_, Opens.imp (opens_iso (fun x : S26 => (x.f0, x.f1, x.f2, x.f3, x.f4, x.f5, x.f6, x.f7, x.f8, x.f9)) (fun y => ⟨y.1, y.2.1, y.2.2.1, y.2.2.2.1, y.2.2.2.2.1, y.2.2.2.2.2.1, y.2.2.2.2.2.2.1, y.2.2.2.2.2.2.2.1, y.2.2.2.2.2.2.2.2.1, y.2.2.2.2.2.2.2.2.2⟩) (fun _ => rfl) hs) (fun x => ?_) (fun _ h => h)⟩
  have := bk_length x.f9
  unfold bk26
  dsimp only
  omega
theorem bk_mem {α : Type} {bk : α → Nat} : ∀ {xs : List α} {x : α}, x ∈ xs → bk x ≤ bkAll bk xs
  | [], x, h => by cases h
  | y :: r, x, h => by
    rcases List.mem_cons.1 h with rfl | h
    · exact Nat.le_add_right _ _
    · exact Nat.le_trans (bk_mem h) (Nat.le_add_left _ _)
theorem bk_len {α : Type} {bk : α → Nat} (h1 : ∀ x, 1 ≤ bk x) : ∀ xs : List α, xs.length ≤ bkAll bk xs
  | [] => Nat.le_refl _
  | y :: r => by
    have := bk_len h1 r
    have := h1 y
    simp only [List.length_cons, bkAll]
    omega
theorem small_of {xs : List S26} (h : bkAll bk26 xs ≤ 1048576) : Small xs :=
  ⟨Nat.le_trans (bk_len (fun x => by unfold bk26; omega) xs) h, fun x hx => by
    have := Nat.le_trans (bk_mem (bk := bk26) hx) h
    unfold bk26 at this
    omega⟩
end Go.Proofs.YtlhmbncalonomaaDoor.Ld
