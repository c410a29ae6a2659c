/- The card of MirrorNil, a closed law: the call returns true. -/
import Derived.Test.YtiakkaolnlhffacGreatDoorCards
import Derived.Test.YtiakkaolnlhffacGreatDoorTi
import Derived.LaidHandle
import Derived.LaidSub
import Derived.WalkKit
import Derived.ProofKit
import Derived.OpenShut
import Derived.Deep.DeepHandedRow
import Derived.Lib.LaidTab
import Derived.WalkLawsBesides
import Derived.Conc.HoldsTime
import Derived.Deep.DeepLaidRun
import Derived.Leaving
import Derived.Test.YtiakkaolnlhffacGreatDoorNl
import Derived.Test.YtiakkaolnlhffacGreatDoorNf
namespace Go.Proofs.YtiakkaolnlhffacGreatDoor.RNil
open Go.ChangeShapes Go.WideShapes Go.ChangeAt Go.RowKit
set_option linter.unusedVariables false
set_option linter.unusedSimpArgs false
theorem own : ownKnob Tryz.prog.godebug = none := by kernel_rfl
mutual
def vals : DataW Unit → List Value
  | .lit (.int k n) => [.int k n]
  | .lit (.bool b) => [.bool b]
  | .agg xs => valsAll xs
  | _ => []
def valsAll : List (DataW Unit) → List Value
  | [] => []
  | d :: r => vals d ++ valsAll r
end
def lay (b : Nat) (vs : List Value) (h : Array Obj) : Array Obj :=
  h.modify b fun
    | .cells _ t frozen => .cells vs.toArray t frozen
    | o => o
theorem walk (w : World) (hE : w.cell? ⟨0, 0, none⟩ = some (.iface 180 (.agg #[.pointer (some ⟨16, 26, none⟩)]))) : Calls Tryz.prog 3 #[] w fun e w' => e = .returned (.bool true) ∧ Below w.heap.size w w' := Nl.c3 w hE

/-- A world for the witness: the tables hold what the row lists. -/
noncomputable def laidWorld (os : Os) : World :=
  { World.holding Tryz.prog os ⟨#[], #[], []⟩ with heap := lay 13 (vals Rows.laid_valise_block_distBits) (lay 15 (vals Rows.laid_valise_block_distBase) (lay 12 (vals Rows.laid_valise_block_lengthBits) (lay 14 (vals Rows.laid_valise_block_lengthBase) (lay 6 (vals Rows.laid_valise_deflate_levels) (lay 4 (vals Rows.laid_unicode_utf8_acceptRanges) (lay 3 (vals Rows.laid_unicode_utf8_first) (lay 1 (vals Rows.laid_valise_field_table) (lay 10 (vals Rows.laid_valise_header_least) (lay 11 (vals Rows.laid_valise_header_further) (lay 9 (vals Rows.laid_valise_header_order) (lay 8 (vals Rows.laid_valise_inflate_distances) (lay 7 (vals Rows.laid_valise_inflate_lengths) (lay 0 [.iface 180 (.agg #[.pointer (some ⟨16, 26, none⟩)])] (lay 5 (vals Rows.laid_valise_record_days) ((World.holding Tryz.prog os ⟨#[], #[], []⟩).heap))))))))))))))) }
set_option maxRecDepth 100000 in
theorem laid1 (os : Os) : (DataW.laidRun Tryz.prog ((laidWorld os).forCall (fun _ _ => 0) ⟨#[], #[], []⟩).memory 8 ((Rows.mirrorNilRow.laid.filter fun x => x.2.handleName?.isNone).map (·.1))).map (·.1) = some (Rows.mirrorNilRow.laid.filter fun x => x.2.handleName?.isNone) := by kernel_rfl
set_option maxRecDepth 100000 in
theorem laid2 (os : Os) : (DataW.laidRun Tryz.prog ((laidWorld os).forCall (fun _ _ => 0) ⟨#[], #[], []⟩).memory 8 ((Rows.mirrorNilRow.laid.filter fun x => x.2.handleName?.isNone).map (·.1))).map (fun x => nodupB (x.2.map MemPlace.codeOf)) = some true := by kernel_rfl
set_option maxRecDepth 100000 in
theorem laid3 (os : Os) : (DataW.laidRun Tryz.prog ((laidWorld os).forCall (fun _ _ => 0) ⟨#[], #[], []⟩).memory 8 ((Rows.mirrorNilRow.laid.filter fun x => x.2.handleName?.isNone).map (·.1))).map (fun x => laidRowsB Tryz.prog ((laidWorld os).forCall (fun _ _ => 0) ⟨#[], #[], []⟩).memory x.2) = some true := by kernel_rfl
theorem laid4 (os : Os) : (Rows.mirrorNilRow.laid.filter fun x => x.2.handleName?.isSome).all (handleAtB Tryz.prog ((laidWorld os).forCall (fun _ _ => 0) ⟨#[], #[], []⟩).memory) = true := by kernel_rfl
theorem laid_met (os : Os) : laidMetH Tryz.prog Rows.mirrorNilRow.laid ((laidWorld os).forCall (fun _ _ => 0) ⟨#[], #[], []⟩).memory := laidMetH_of_parts (laidMet_of_run3 8 (laid1 os) (laid2 os) (laid3 os)) (laid4 os)
theorem et : Tryz.prog.globalNamed "errors.errorType" = some 0 := by kernel_rfl
theorem rt : (Tryz.prog.cutTypes.find? (·.1 == "internal/reflectlite.rtype")).map (·.2) = some 180 := by kernel_rfl
theorem oneRow : ((List.range 622).filter fun t => Tryz.prog.rowNamed t [101, 114, 114, 111, 114]) = [26] := by kernel_rfl
theorem tsize : Tryz.prog.types.size = 622 := by kernel_rfl
theorem handle_of_laid {W : World} (h : laidMetH Tryz.prog Rows.mirrorNilRow.laid W) : W.cell? ⟨0, 0, none⟩ = some (.iface 180 (.agg #[.pointer (some ⟨16, 26, none⟩)])) := by
  have h' := (laidMetH_iff.1 h).2
  obtain ⟨name, u, ty, e1, e2, e3, e4, e5⟩ := h' ("errors.errorType", Rows.laid_errors_errorType) (List.mem_filter.2 ⟨by simp [Rows.mirrorNilRow], rfl⟩)
  have en : name = [101, 114, 114, 111, 114] := (Option.some.inj e1).symm
  subst en
  obtain rfl := Option.some.inj (rt.symm.trans e2)
  have hm : ty ∈ (List.range 622).filter fun t => Tryz.prog.rowNamed t [101, 114, 114, 111, 114] := List.mem_filter.2 ⟨List.mem_range.2 (by rw [← tsize]; exact e3), e4⟩
  rw [oneRow] at hm
  obtain rfl := List.mem_singleton.1 hm
  have hh : typeHandle Tryz.prog 26 = .pointer (some ⟨16, 26, none⟩) := by kernel_rfl
  rw [hh] at e5
  simpa using World.var?_cell et e5 0
theorem shape1 (os : Os) : ((laidWorld os).forCall (fun _ _ => 0) ⟨#[], #[], []⟩).variablesB Tryz.prog = true := by kernel_rfl
theorem shape2 (os : Os) : (((laidWorld os).forCall (fun _ _ => 0) ⟨#[], #[], []⟩).heap.toList.drop Tryz.prog.globals.size).take ((begin Tryz.prog (fun _ _ => 0) default).world.heap.size - Tryz.prog.globals.size) =
      (begin Tryz.prog (fun _ _ => 0) default).world.heap.toList.drop Tryz.prog.globals.size := by kernel_rfl
theorem okw (os : Os) : Input.okWideB Tryz.prog ((laidWorld os).forCall (fun _ _ => 0) ⟨#[], #[], []⟩) 3 ⟨#[], #[], []⟩ = true := by kernel_rfl
theorem noInit : Tryz.prog.inits.idxOf? 3 = none := by kernel_rfl
theorem closed : joinedFacts Tryz.prog 3 Tryz.f3 Rows.mirrorNilSpec Rows.mirrorNilRow = true := Nf.closed
theorem named : Tryz.prog.funcNamed "valise/valiselaw25.MirrorNil" = some 3 := by kernel_rfl
theorem inst : Tryz.f3.isInstance Tryz.prog Rows.mirrorNilRow.origin Rows.mirrorNilRow.targs := of_decide_eq_true (by kernel_rfl)
theorem wrap : Tryz.f3.isWrapper Tryz.prog Rows.mirrorNilRow.wrapper Rows.mirrorNilRow.mainSum := by unfold Func.isWrapper; first | (rw [if_pos (by decide +kernel)]; kernel_rfl) | (rw [if_neg (by decide +kernel)]; exact ⟨rfl, rfl⟩)
theorem reads (os : Os) {H : Type} (enc : TypeId × Value → H) : ∃ places, DataW.whole enc Tryz.prog ((laidWorld os).forCall (fun _ _ => 0) ⟨#[], #[], []⟩).memory Tryz.f3.params.toList Rows.mirrorNilSpec.vars false (#[] : Array Value).toList 8 = some ([], [], places) :=
  ⟨[], by kernel_rfl⟩
theorem contract (H : Type) (enc : TypeId × Value → H) (W : World) (base : Nat) (args : Array Value) (ds gs : List (DataW H)) (before : List MemPlace)
    (hW : DataW.Whole enc Tryz.prog Tryz.f3.params.toList Rows.mirrorNilSpec.vars false W args.toList ds gs before) (hL : laidMetH Tryz.prog Rows.mirrorNilRow.laid W) :
    Calls Tryz.prog 3 args W fun e W' => ∃ v, e = .returned v ∧ Rows.mirrorNilSpec.post enc Tryz.prog Tryz.f3 false true false false W args v W' ∧ W'.os = W.os := by
  have hW' := hW
  obtain ⟨p, q, hA0, hV, rfl, hfz, hnd⟩ := hW
  have hA : DataW.TrodAll enc Tryz.prog W 0 (fun _ => true) true Tryz.f3.params.toList args.toList ds p := hA0
  rw [Tryz.params3] at hA
  obtain ⟨hargs, rfl, rfl⟩ := trodAll_nil hA
  obtain rfl : args = #[] := by cases args; simp_all
  obtain ⟨rfl, rfl⟩ := trodVars_none hV
  clear hA0 hA
  simp only [List.append_nil] at hW'
  refine (walk W (handle_of_laid hL)).mono fun e W' ⟨he, hg⟩ => ?_
  subst he
  exact ⟨_, rfl, ⟨_, _, _, [], [], [], hW', trodAll_cons_mk (shut_bool Tryz.underlying4 _) trodAll_mk0, trodAll_mk0, rfl, hg.frame _, fun h => by cases h⟩, hg.os⟩
/-- A run that ends alone ends with everybody else only leaving. -/
theorem open_leaving {a : Assume} {st : Option Stop.Interp} {C : Checked} {os : Os} {f : FuncId} {r : Reach} {okI : Program → World → Reach → Nat → FuncId → Input → Prop} {Pre : World → Array Value → Prop} {Post : World → Array Value → Value → World → Prop} {al : Machine → Prop}
    (h : ReturnsInOpen a st C os f r okI Pre Post (aloneAtReturn C.prog) al) : ReturnsInOpen a st C os f r okI Pre Post (leavingAtReturn C.prog) al := by
  obtain ⟨g0, g1, g2, g3, all⟩ := h
  refine ⟨g0, g1, g2, g3, fun w tape i hf => ?_⟩
  obtain ⟨n, v, w', hn, hc, hr, hp, ⟨j, last, hj, hs, hq⟩, ha⟩ := all w tape i hf
  exact ⟨n, v, w', hn, hc, hr, hp, ⟨j, last, hj, hs, hq.2.1, onlyLeaving_of_quiet hq.1, hq.2.2⟩, ha⟩
set_option maxHeartbeats 2000000 in
theorem wit (os : Os) (H : Type) (enc : TypeId × Value → H) : ∃ (w : World) (tape : Tape) (i : Input), w.os = os ∧ (w.forCall tape i).Shaped Tryz.prog ∧ i.vars = [] ∧ Input.okWide Tryz.prog (w.forCall tape i) .any w.heap.size 3 i ∧
      (OpenSpec.ofChange Rows.mirrorNilSpec).preRow enc Tryz.prog Tryz.f3 Rows.mirrorNilRow.domain false Rows.mirrorNilRow.laid (w.forCall tape i).memory i.args ∧ ({ calm := true } : Assume).holds Tryz.prog (lone (Frame.enter Tryz.prog 3 i.args .normal) [] (w.forCall tape i)) := by
  obtain ⟨places, hx⟩ := reads os enc
  have hrow := OpenSpec.preRow_of_cond (enc := enc) (s := OpenSpec.ofChange Rows.mirrorNilSpec) (conds := Rows.mirrorNilRow.domain) (laid := Rows.mirrorNilRow.laid) 8 hx (by kernel_rfl) (fun k hk => by cases hk) (by kernel_rfl) (laid_met os)
  refine ⟨laidWorld os, fun _ _ => 0, ⟨#[], #[], []⟩, rfl, World.shaped_of_B (shape1 os) (shape2 os), (Input.okWide_of_okWideB (base := 0) (okw os)).1, (Input.okWide_of_okWideB (okw os)).2, hrow, ?_⟩
  simp only [Assume.holds]
  exact ⟨by simp, fun _ _ _ _ => rfl, by simp, by simp, by simp⟩
theorem lifted (os : Os) (started : os.Started) (H : Type) (enc : TypeId × Value → H) (F : Stop.Interp) :
    ReturnsInLeavingWide { calm := true } Tryz.checked os 3 .any ((OpenSpec.ofChange Rows.mirrorNilSpec).preRow enc Tryz.prog Tryz.f3 Rows.mirrorNilRow.domain false Rows.mirrorNilRow.laid) ((OpenSpec.ofChange Rows.mirrorNilSpec).postWith enc Tryz.prog Tryz.f3 F (outsideKept [.timePasses]) false true false) := by
  have hh : ReturnsInHanded { calm := true } Tryz.checked os 3 .any ((OpenSpec.ofChange Rows.mirrorNilSpec).preRow enc Tryz.prog Tryz.f3 Rows.mirrorNilRow.domain false Rows.mirrorNilRow.laid) ((OpenSpec.ofChange Rows.mirrorNilSpec).postWith enc Tryz.prog Tryz.f3 F (outsideKept [.timePasses]) false true false) := by
    refine returnsInHanded_of_calls own started noInit (wit os H enc) ?_
    intro w tape i _ hsh _ hok hpre hholds
    obtain ⟨_, _, _, fn', hfn', _, _, _, _, hval⟩ := hok
    obtain rfl : fn' = Tryz.f3 := Option.some.inj (hfn'.symm.trans Tryz.func3)
    obtain ⟨⟨hp, hl⟩, hz⟩ := hpre
    obtain ⟨ds, gs, before, hw, hc, hk⟩ := OpenSpec.pre_parts hp
    have hw' := DataW.Whole.of_heap (w' := w.forCall tape i) (by rfl) hw
    refine (contract H enc (w.forCall tape i) w.heap.size i.args ds gs before hw' (hl.of_heap (by rfl))).mono fun e W' ⟨v, he, hp, hos⟩ => ?_
    subst he
    refine Go.postWith_blind (Go.postWith_of_post ?_ (by rw [hos]; exact Go.ConcM.OsLater.refl _))
    rw [show ({ W' with os := (w.forCall tape i).os } : World) = W' by rw [← hos]]
    exact hp
  exact fun enter => open_leaving (hh enter)
theorem said : Rows.MirrorNilSaid :=
  OpenClaim.holds_of_wide_leaving_time 3 Tryz.f3 rfl rfl rfl rfl rfl rfl rfl ⟨rfl, rfl, rfl, rfl, rfl⟩ rfl rfl rfl rfl rfl named Tryz.func3 closed inst wrap
    (fun os started H enc _ F => by rw [OpenClaim.pre_eq_preRow]; exact lifted os started H enc F)
/-- A tied card whose law's road starts goroutines somewhere. -/
theorem tied_goes (Lk : Looks) {p : Pinned} {s : OpenSpec} {c : OpenClaim} (al : List (List PathCond)) (kinds : List LaidKind) (tests : Bool) (har : Bool × String) (lk g : Bool)
    (hc : c.holds p s) (hal : ∀ D ∈ al, (c.withDomain D).holds p s) (hw : c.wfByText s = true) (hwal : ∀ D ∈ al, (c.withDomain D).wfByText s = true)
    (htie : c.laidByTextAt Lk p kinds tests)
    (hst : c.start = .entering) (hnb : c.noBlocks = false ∧ c.again = false) (hm : p.checked.prog.mainIs = some (har.1, har.2.toList)) (hn : (!har.1 && har.2.isEmpty && !lk) = false)
    (hl : ∀ f fn, p.checked.prog.funcNamed c.func = some f → p.checked.prog.funcs[f]? = some fn → lk = p.checked.prog.looks [] ∧ ∀ (j : Nat) t, fn.params[j]? = some t → p.checked.prog.wantsStandIn t = false)
    (hg : g = c.goesBy p.checked.prog) :
    Claim7.holds p (.plain s) { stood := { row := c, standIns := [], harness := har, looks := lk }, kinds := [], alts := al, goes := g, laidByText := true, laidKinds := kinds, laidTests := tests, laidLooks := Lk } := by
  have h6 : ∀ r : OpenClaim, Claim7.isSixth { stood := { row := r, standIns := [], harness := har, looks := lk }, kinds := [] } = false := fun r => by simpa [Claim7.isSixth] using hn
  refine ⟨(Claim7.tied_new_at Lk kinds tests (Claim7.new_of_sixth hc har lk hst hnb hm (h6 c) hl) hw), fun D hD => ?_, htie, (fun h => by cases h), hg⟩
  exact (Claim7.tied_new_at Lk kinds tests (Claim7.new_of_sixth (hal D hD) har lk hst hnb hm (h6 _) hl) (hwal D hD))
theorem plain (f : FuncId) (fn : Func) (hf : Tryz.pinned.checked.prog.funcNamed "valise/valiselaw25.MirrorNil" = some f) (hfn : Tryz.pinned.checked.prog.funcs[f]? = some fn) :
    true = Tryz.pinned.checked.prog.looks [] ∧ ∀ (j : Nat) t, fn.params[j]? = some t → Tryz.pinned.checked.prog.wantsStandIn t = false := by
  obtain rfl : f = 3 := Option.some.inj (named.symm.trans hf) |>.symm
  obtain rfl : fn = Tryz.f3 := (Option.some.inj (Tryz.func3.symm.trans hfn)).symm
  refine ⟨by kernel_rfl, fun j t ht => ?_⟩
  rw [Tryz.params3] at ht
  simp at ht
end Go.Proofs.YtiakkaolnlhffacGreatDoor.RNil
namespace Go.Proofs.YtiakkaolnlhffacGreatDoor
open Go
/-- The card, under a short name, for the claim. -/
theorem mirrorNil_card : Rows.MirrorNilCardSaid :=
  RNil.tied_goes .later [] _ _ _ _ _ RNil.said (fun _ h => by cases h) (by kernel_rfl) (fun _ h => by cases h) mirrorNil_row_tie rfl ⟨rfl, rfl⟩ (by kernel_rfl) rfl RNil.plain (by kernel_rfl)
#print axioms mirrorNil_card
end Go.Proofs.YtiakkaolnlhffacGreatDoor
