/- The card of ValiseFaults, for every text and every number: the call returns true, and the input reads as it did. -/
import Derived.Test.YtfpacoihmimmcaaGreatDoorCards
import Derived.Test.YtfpacoihmimmcaaGreatDoorTie
import Derived.WalkKit
import Derived.ProofKit
import Derived.OpenShut
import Derived.Deep.DeepHandedRow
import Derived.Lib.LaidTab
import Derived.WalkLawsBesides
import Derived.Deep.DeepLaidRun
import Derived.ChangeOld
import Derived.ShutString
import Derived.ChangeMaps5
import Derived.Test.YtfpacoihmimmcaaGreatDoorVf
namespace Go.Proofs.YtfpacoihmimmcaaGreatDoor.RNil
open Go.ChangeShapes Go.WideShapes Go.ChangeAt Go.RowKit
set_option linter.unusedVariables false
set_option linter.unusedSimpArgs false
theorem own : ownKnob Tryz.prog.godebug = none := by kernel_rfl
mutual
def vals : DataW Unit → List Value
  | .lit (.int k n) => [.int k n]
  | .lit (.bool b) => [.bool b]
  | .agg xs => valsAll xs
  | _ => []
def valsAll : List (DataW Unit) → List Value
  | [] => []
  | d :: r => vals d ++ valsAll r
end
def lay (b : Nat) (vs : List Value) (h : Array Obj) : Array Obj :=
  h.modify b fun
    | .cells _ t frozen => .cells vs.toArray t frozen
    | o => o
theorem walk (s : ByteArray) (o : Int) (W : World) : Calls Tryz.prog 3 #[.string s, .int .i64 o] W fun e W' => e = .returned (.bool true) ∧ Below W.heap.size W W' := Vf.c3 s o W

/-- A world for the witness: the tables hold what the row lists. -/
noncomputable def laidWorld (os : Os) : World :=
  { World.holding Tryz.prog os ⟨#[], #[], []⟩ with heap := lay 7 (vals Rows.laid_unicode_utf8_first) (lay 2 (vals Rows.laid_valise_inflate_distances) (lay 1 (vals Rows.laid_valise_inflate_lengths) (lay 5 (vals Rows.laid_valise_header_least) (lay 4 (vals Rows.laid_valise_header_further) (lay 3 (vals Rows.laid_valise_header_order) (lay 0 (vals Rows.laid_valise_field_table) (lay 8 (vals Rows.laid_unicode_utf8_acceptRanges) ((World.holding Tryz.prog os ⟨#[], #[], []⟩).heap)))))))) }
set_option maxRecDepth 100000 in
theorem laid1 (os : Os) : (DataW.laidRun Tryz.prog ((laidWorld os).forCall (fun _ _ => 0) ⟨#[], #[.string ⟨#[]⟩, .int .i64 0], []⟩).memory 8 (Rows.valiseFaultsRow.laid.map (·.1))).map (·.1) = some Rows.valiseFaultsRow.laid := by kernel_rfl
set_option maxRecDepth 100000 in
theorem laid2 (os : Os) : (DataW.laidRun Tryz.prog ((laidWorld os).forCall (fun _ _ => 0) ⟨#[], #[.string ⟨#[]⟩, .int .i64 0], []⟩).memory 8 (Rows.valiseFaultsRow.laid.map (·.1))).map (fun x => nodupB (x.2.map MemPlace.codeOf)) = some true := by kernel_rfl
set_option maxRecDepth 100000 in
theorem laid3 (os : Os) : (DataW.laidRun Tryz.prog ((laidWorld os).forCall (fun _ _ => 0) ⟨#[], #[.string ⟨#[]⟩, .int .i64 0], []⟩).memory 8 (Rows.valiseFaultsRow.laid.map (·.1))).map (fun x => laidRowsB Tryz.prog ((laidWorld os).forCall (fun _ _ => 0) ⟨#[], #[.string ⟨#[]⟩, .int .i64 0], []⟩).memory x.2) = some true := by kernel_rfl
theorem laid_met (os : Os) : laidMet Tryz.prog Rows.valiseFaultsRow.laid ((laidWorld os).forCall (fun _ _ => 0) ⟨#[], #[.string ⟨#[]⟩, .int .i64 0], []⟩).memory := laidMet_of_run3 8 (laid1 os) (laid2 os) (laid3 os)
theorem reads (os : Os) {H : Type} (enc : TypeId × Value → H) : ∃ places, DataW.whole enc Tryz.prog ((laidWorld os).forCall (fun _ _ => 0) ⟨#[], #[.string ⟨#[]⟩, .int .i64 0], []⟩).memory Tryz.f3.params.toList Rows.valiseFaultsSpec.vars false (#[.string ⟨#[]⟩, .int .i64 0] : Array Value).toList 8 = some ([.lit (.string []), .lit (.int .i64 0)], [], places) :=
  ⟨[], by kernel_rfl⟩
set_option maxRecDepth 100000 in
theorem contract (H : Type) (enc : TypeId × Value → H) (W : World) (base : Nat) (args : Array Value) (ds gs : List (DataW H)) (before : List MemPlace)
    (hval : ∀ (j : Nat) t v, Tryz.f3.params[j]? = some t → args[j]? = some v → Value.okWide Tryz.prog W .any base t v)
    (hW : DataW.Whole enc Tryz.prog Tryz.f3.params.toList Rows.valiseFaultsSpec.vars false W args.toList ds gs before) :
    Calls Tryz.prog 3 args W fun e W' => ∃ v, e = .returned v ∧ Rows.valiseFaultsSpec.post enc Tryz.prog Tryz.f3 false true false false W args v W' := by
  have hW' := hW
  obtain ⟨p, q, hA0, hV, rfl, hfz, hnd⟩ := hW
  have hA : DataW.TrodAll enc Tryz.prog W 0 (fun _ => true) true Tryz.f3.params.toList args.toList ds p := hA0
  rw [Tryz.params3] at hA hval
  obtain ⟨v0, vs0, d0, ds0, p0, q0, hargs, rfl, rfl, h0, r0⟩ := trodAll_cons hA
  obtain ⟨v1, vs1, d1, ds1, p1, q1, rfl, rfl, rfl, h1, r1⟩ := trodAll_cons r0
  obtain ⟨rfl, rfl, rfl⟩ := trodAll_nil r1
  obtain rfl : args = #[v0, v1] := by cases args; simp_all
  obtain ⟨rfl, rfl⟩ := trodVars_none hV
  obtain ⟨s, rfl, rfl, rfl, hs⟩ := Go.ChangeMaps.open_string Tryz.underlying9 (hval 0 9 v0 (by simp) (by simp)) h0
  obtain ⟨o, rfl, rfl, rfl, ho⟩ := Go.ChangeShapes.open_int Tryz.underlying3 (hval 1 3 v1 (by simp) (by simp)) h1
  clear hA0 hA
  simp only [List.append_nil] at hW'
  refine (walk s o W).mono fun e W' ⟨he, hg⟩ => ?_
  subst he
  exact ⟨_, rfl, _, _, _, [], _, [], hW', trodAll_cons_mk (shut_bool Tryz.underlying4 _) trodAll_mk0, trodAll_cons_mk (Go.ChangeMaps.shut_string Tryz.underlying9 hs) (trodAll_cons_mk (Go.ChangeShapes.shut_int Tryz.underlying3 ho) trodAll_mk0), rfl, hg.frame _, fun h => by cases h⟩
set_option maxRecDepth 100000 in
theorem lifted (os : Os) (started : os.Started) (H : Type) (enc : TypeId × Value → H) (F : Stop.Interp) :
    ReturnsInHanded {} Tryz.checked os 3 .any ((OpenSpec.ofChange Rows.valiseFaultsSpec).preRow enc Tryz.prog Tryz.f3 Rows.valiseFaultsRow.domain false Rows.valiseFaultsRow.laid) (((OpenSpec.ofChange Rows.valiseFaultsSpec).at F).post enc Tryz.prog Tryz.f3 false true false false) := by
  obtain ⟨places, hx⟩ := reads os enc
  refine returnsInHanded_of_row (C := Tryz.checked) (s := OpenSpec.ofChange Rows.valiseFaultsSpec) own started (by kernel_rfl) Tryz.func3
    (witness_row_at (enc := enc) (C := Tryz.checked) false (laidWorld os) #[.string ⟨#[]⟩, .int .i64 0] rfl (by kernel_rfl) (by kernel_rfl) (by kernel_rfl)
      (OpenSpec.preRow_of_cond 8 hx (by kernel_rfl) (fun k hk => by cases hk) (by kernel_rfl) (laid_met os))) ?_
  intro W base args ds gs before hval hW _ _ _ hL _ _
  exact contract H enc W base args ds gs before hval hW
theorem said : Rows.ValiseFaultsSaid :=
  OpenClaim.holds_of_cond 3 Tryz.f3 rfl rfl rfl rfl rfl rfl rfl ⟨rfl, rfl, rfl, rfl, rfl⟩ rfl rfl rfl rfl rfl (by kernel_rfl) Tryz.func3 (by kernel_rfl)
    (of_decide_eq_true (by kernel_rfl)) (by unfold Func.isWrapper; first | (rw [if_pos (by decide +kernel)]; kernel_rfl) | (rw [if_neg (by decide +kernel)]; exact ⟨rfl, rfl⟩))
    (fun os started H enc _ F => by rw [OpenClaim.pre_eq_preRow]; exact lifted os started H enc F)
theorem plain (f : FuncId) (fn : Func) (hf : Tryz.pinned.checked.prog.funcNamed "valise/valiselaw17.ValiseFaults" = some f) (hfn : Tryz.pinned.checked.prog.funcs[f]? = some fn) :
    true = Tryz.pinned.checked.prog.looks [] ∧ ∀ (j : Nat) t, fn.params[j]? = some t → Tryz.pinned.checked.prog.wantsStandIn t = false := by
  obtain rfl : f = 3 := Option.some.inj ((show Tryz.prog.funcNamed "valise/valiselaw17.ValiseFaults" = some 3 by kernel_rfl).symm.trans hf) |>.symm
  obtain rfl : fn = Tryz.f3 := (Option.some.inj (Tryz.func3.symm.trans hfn)).symm
  refine ⟨by kernel_rfl, fun j t ht => ?_⟩
  rw [Tryz.params3] at ht
  have ht := Array.mem_of_getElem? ht
  simp at ht
  rcases ht with rfl | rfl
  · exact (show Tryz.prog.wantsStandIn 9 = false by kernel_rfl)
  · exact (show Tryz.prog.wantsStandIn 3 = false by kernel_rfl)
end Go.Proofs.YtfpacoihmimmcaaGreatDoor.RNil
namespace Go.Proofs.YtfpacoihmimmcaaGreatDoor
open Go
/-- The card, under a short name, for the claim. -/
theorem valiseFaults_card : Rows.ValiseFaultsCardSaid :=
  Claim7.holds_tied_plain_at .later [] _ _ _ _ RNil.said (fun _ h => by cases h) (by kernel_rfl) (fun _ h => by cases h) valiseFaults_row_tie rfl ⟨rfl, rfl⟩ (by kernel_rfl) rfl RNil.plain (by kernel_rfl)
#print axioms valiseFaults_card
end Go.Proofs.YtfpacoihmimmcaaGreatDoor
