/- The card of TapeGetsAgain, in the second form: at all arguments of bulk at most 1048576, the tables as they were laid. -/
import Derived.Test.YtlhmbncalonomaaDoorGaC
import Derived.Test.YtlhmbncalonomaaDoorGaG
import Derived.Test.YtlhmbncalonomaaDoorCards
import Derived.Test.YtlhmbncalonomaaDoorTie
import Derived.WalkKit
import Derived.ProofKit
import Derived.OpenShut
import Derived.Deep.DeepHandedRow
import Derived.Deep.DeepLaidRun
import Derived.Lib.LaidTab
import Derived.ChangeOld
import Derived.ShutString
import Derived.ChangeMaps5
import Derived.WalkLawsBesides
namespace Go.Proofs.YtlhmbncalonomaaDoor.RTapeGetsAgain
open Go.ChangeShapes Go.WideShapes Go.ChangeAt Go.RowKit Go.Proofs.YtlhmbncalonomaaDoor.Opn Go.Proofs.YtlhmbncalonomaaDoor.Q Go.Proofs.YtlhmbncalonomaaDoor.Head Go.Proofs.YtlhmbncalonomaaDoor.Fil Go.Proofs.YtlhmbncalonomaaDoor.Ld Go.Proofs.YtlhmbncalonomaaDoorW.PrintWords
set_option linter.unusedVariables false
set_option linter.unusedSimpArgs false
theorem own : ownKnob Tryd.prog.godebug = none := by kernel_rfl
theorem laidOut : laidOutB Tryd.prog = true := by kernel_rfl
mutual
def vals : DataW Unit → List Value
  | .lit (.int k n) => [.int k n]
  | .lit (.bool b) => [.bool b]
  | .agg xs => valsAll xs
  | _ => []
def valsAll : List (DataW Unit) → List Value
  | [] => []
  | d :: r => vals d ++ valsAll r
end
def lay (b : Nat) (vs : List Value) (h : Array Obj) : Array Obj :=
  h.modify b fun
    | .cells _ t frozen => .cells vs.toArray t frozen
    | o => o
/-- A world for the witness: the tables hold what the row lists. -/
noncomputable def laidWorld (os : Os) : World :=
  { World.holding Tryd.prog os ⟨#[], #[], []⟩ with heap := lay 6 (vals Rows.laid_valise_tape_marks) (lay 2 (vals Rows.laid_valise_tape_prefix) (lay 5 (vals Rows.laid_valise_tape_team) (lay 4 (vals Rows.laid_valise_tape_user) (lay 3 (vals Rows.laid_valise_tape_link) (lay 1 (vals Rows.laid_valise_tape_name) (lay 0 (vals Rows.laid_valise_tape_numbers) ((World.holding Tryd.prog os ⟨#[], #[], []⟩).heap))))))) }
set_option maxRecDepth 100000 in
theorem laid_met (os : Os) : laidMet Tryd.prog Rows.tapeGetsAgainUptoRow.laid ((laidWorld os).forCall (fun _ _ => 0) ⟨#[], #[.slice none 0 0], []⟩).memory :=
  laidMet_of_run' 8 (by kernel_rfl) (by kernel_rfl)
theorem reads (os : Os) {H : Type} (enc : TypeId × Value → H) : ∃ places, DataW.whole enc Tryd.prog ((laidWorld os).forCall (fun _ _ => 0) ⟨#[], #[.slice none 0 0], []⟩).memory Tryd.f6.params.toList Rows.tapeGetsAgainSpec.vars false (#[.slice none 0 0] : Array Value).toList 8 = some ([.nil], [], places) :=
  ⟨[], by kernel_rfl⟩
set_option maxRecDepth 100000 in
theorem contract (H : Type) (enc : TypeId × Value → H) (W : World) (base : Nat) (args : Array Value) (ds gs : List (DataW H)) (before : List MemPlace)
    (hval : ∀ (j : Nat) t v, Tryd.f6.params[j]? = some t → args[j]? = some v → Value.okWide Tryd.prog W .any base t v)
    (hW : DataW.Whole enc Tryd.prog Tryd.f6.params.toList Rows.tapeGetsAgainSpec.vars false W args.toList ds gs before) (hk : Rows.uptoBulkAll ds ≤ 1048576) (hL : laidMet Tryd.prog tabs W) :
    Calls Tryd.prog 6 args W fun e W' => ∃ v, e = .returned v ∧ Rows.tapeGetsAgainSpec.post enc Tryd.prog Tryd.f6 false true false false W args v W' := by
  have hW' := hW
  obtain ⟨p, q, hA0, hV, rfl, hfz, hnd⟩ := hW
  have hA : DataW.TrodAll enc Tryd.prog W 0 (fun _ => true) true Tryd.f6.params.toList args.toList ds p := hA0
  obtain ⟨rfl, rfl⟩ := trodVars_none hV
  rw [Tryd.params6] at hA hval
  have hA1 := hA
  obtain ⟨v0, vs0, d0, ds0, p0, q0, hargs, rfl, rfl, h0, r0⟩ := trodAll_cons hA
  obtain ⟨rfl, rfl, rfl⟩ := trodAll_nil r0
  obtain rfl : args = #[v0] := by cases args; simp_all
  simp only [Rows.uptoBulkAll] at hk
  clear hA0
  have o24 : Opens Tryd.prog 24 (Kd.slice 5 (Kd.int .u8)) _ _ := opens_slice (0 : Int) Tryd.underlying24 (by kernel_rfl) (opens_int Tryd.underlying5)
  obtain ⟨A, c, l, rfl, hl, hC, hb0, hok⟩ := o24.sl Tryd.underlying24 (hval 0 24 v0 (by simp) (by simp)) h0
  have hn : l.length ≤ 1048576 := by
    have := bk_length l
    (try dsimp only at hb0)
    omega
  have hr : ∀ x ∈ l, 0 ≤ x ∧ x ≤ 255 := fun x hx => by
    have := hok.2 x hx
    unfold okInt at this
    simp [Lit.wf, IntKind.min, IntKind.max, IntKind.signed, IntKind.bits] at this
    omega
  simp only [List.append_nil] at hW'
  refine (GaL.law_calls A c l W (laid_of hL) hC hl hr hn).mono fun e W' ⟨he, bel⟩ => ?_
  subst he
  exact ⟨_, rfl, _, _, _, [], _, [], hW', trodAll_cons_mk (shut_bool Tryd.underlying4 _) trodAll_mk0, trodAll_below laidOut bel (by kernel_rfl) hA1, rfl, bel.frame _, fun h => by cases h⟩
set_option maxRecDepth 100000 in
theorem liftedUpto (os : Os) (started : os.Started) (H : Type) (enc : TypeId × Value → H) (F : Stop.Interp) :
    ReturnsInHanded {} Tryd.checked os 6 .any ((Rows.OpenSpec.upto Rows.tapeGetsAgainSpec).preRow enc Tryd.prog Tryd.f6 Rows.tapeGetsAgainUptoRow.domain false Rows.tapeGetsAgainUptoRow.laid) (((Rows.OpenSpec.upto Rows.tapeGetsAgainSpec).at F).post enc Tryd.prog Tryd.f6 false true false false) := by
  obtain ⟨places, hx⟩ := reads os enc
  refine returnsInHanded_of_row (C := Tryd.checked) (s := Rows.OpenSpec.upto Rows.tapeGetsAgainSpec) own started (by kernel_rfl) Tryd.func6
    (witness_row_at (enc := enc) (C := Tryd.checked) false (laidWorld os) #[.slice none 0 0] rfl (by kernel_rfl) (by kernel_rfl) (by kernel_rfl)
      (OpenSpec.preRow_of_cond 8 hx (by kernel_rfl) (fun k hk => by cases hk; kernel_rfl) (by kernel_rfl) (laid_met os))) ?_
  intro W base args ds gs before hval hW a1 a2 a3 hL a4 a5
  have hk := of_decide_eq_true (a2 _ rfl)
  exact contract H enc W base args ds gs before hval hW (by
    have e : gs = [] := by
      obtain ⟨p, q, hA0, hV, h3, h4, h5⟩ := hW
      exact (trodVars_none hV).1
    rw [e, List.append_nil] at hk
    exact hk) hL
theorem saidUpto : Rows.TapeGetsAgainUptoSaid :=
  OpenClaim.holds_of_cond 6 Tryd.f6 rfl rfl rfl rfl rfl rfl rfl ⟨rfl, rfl, rfl, rfl, rfl⟩ rfl rfl rfl rfl rfl (by kernel_rfl) Tryd.func6 (by kernel_rfl)
    (of_decide_eq_true (by kernel_rfl)) (by unfold Func.isWrapper; first | (rw [if_pos (by decide +kernel)]; kernel_rfl) | (rw [if_neg (by decide +kernel)]; exact ⟨rfl, rfl⟩))
    (fun os started H enc _ F => by rw [OpenClaim.pre_eq_preRow]; exact liftedUpto os started H enc F)
theorem plain (f : FuncId) (fn : Func) (hf : Tryd.pinned.checked.prog.funcNamed "valise/valiselaw24.TapeGetsAgain" = some f) (hfn : Tryd.pinned.checked.prog.funcs[f]? = some fn) :
    false = Tryd.pinned.checked.prog.looks [] ∧ ∀ (j : Nat) t, fn.params[j]? = some t → Tryd.pinned.checked.prog.wantsStandIn t = false := by
  obtain rfl : f = 6 := Option.some.inj ((show Tryd.prog.funcNamed "valise/valiselaw24.TapeGetsAgain" = some 6 by kernel_rfl).symm.trans hf) |>.symm
  obtain rfl : fn = Tryd.f6 := (Option.some.inj (Tryd.func6.symm.trans hfn)).symm
  refine ⟨by kernel_rfl, fun j t ht => ?_⟩
  rw [Tryd.params6] at ht
  have ht := Array.mem_of_getElem? ht
  simp at ht
  subst ht
  exact (show Tryd.prog.wantsStandIn 24 = false by kernel_rfl)
end Go.Proofs.YtlhmbncalonomaaDoor.RTapeGetsAgain
namespace Go.Proofs.YtlhmbncalonomaaDoor
open Go
/-- The card, under a short name, for the claim. -/
theorem tapeGetsAgain_upto_card : Rows.TapeGetsAgainUptoCardSaid :=
  Claim7.holds_tied_plain_at .later [] _ _ _ _ RTapeGetsAgain.saidUpto (fun _ h => by cases h) (by kernel_rfl) (fun _ h => by cases h) tapeGetsAgainUpto_row_tie rfl ⟨rfl, rfl⟩ (by kernel_rfl) rfl RTapeGetsAgain.plain (by kernel_rfl)
#print axioms tapeGetsAgain_upto_card
end Go.Proofs.YtlhmbncalonomaaDoor
