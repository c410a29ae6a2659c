/- The card of ShellParses, in the second form: at every line of at most 1048575 letters both Parses tell the same words, and the line reads as it did. -/
import Derived.Test.YtkpdbkkkdidolaaDoorPure
import Derived.Test.YtkpdbkkkdidolaaDoorLaw
import Derived.Test.YtkpdbkkkdidolaaDoorCards
import Derived.Test.YtkpdbkkkdidolaaDoorTie
import Derived.WalkKit
import Derived.ProofKit
import Derived.OpenShut
import Derived.Deep.DeepHandedRow
import Derived.Lib.LaidTab
import Derived.ChangeOld
import Derived.ShutString
import Derived.ChangeMaps5
namespace Go.Proofs.YtkpdbkkkdidolaaDoor.RShell
open Go.ChangeShapes Go.WideShapes Go.ChangeAt Go.RowKit
open Go.ChangeMaps (open_string shut_string)
set_option linter.unusedVariables false
theorem own : ownKnob Tryd.prog.godebug = none := by kernel_rfl
mutual
def vals : DataW Unit → List Value
  | .lit (.int k n) => [.int k n]
  | .agg xs => valsAll xs
  | _ => []
def valsAll : List (DataW Unit) → List Value
  | [] => []
  | d :: r => vals d ++ valsAll r
end
def lay (b : Nat) (vs : List Value) (h : Array Obj) : Array Obj :=
  h.modify b fun
    | .cells _ t frozen => .cells vs.toArray t frozen
    | o => o
/-- A world for the witness: both tables hold what the row lists. -/
noncomputable def laidWorld (os : Os) : World :=
  { World.holding Tryd.prog os ⟨#[], #[], []⟩ with heap := lay 1 (vals Rows.laid_unicode_utf8_acceptRanges) (lay 0 (vals Rows.laid_unicode_utf8_first) (World.holding Tryd.prog os ⟨#[], #[], []⟩).heap) }
set_option maxRecDepth 100000 in
theorem laid_met (os : Os) : laidMet Tryd.prog Rows.shellParsesUptoRow.laid ((laidWorld os).forCall (fun _ _ => 0) ⟨#[], #[.string ⟨#[]⟩], []⟩).memory :=
  laidMet_of_run' 8 (by kernel_rfl) (by kernel_rfl)
theorem reads (os : Os) {H : Type} (enc : TypeId × Value → H) : ∃ places, DataW.whole enc Tryd.prog ((laidWorld os).forCall (fun _ _ => 0) ⟨#[], #[.string ⟨#[]⟩], []⟩).memory Tryd.f3.params.toList Rows.shellParsesSpec.vars false #[Value.string ⟨#[]⟩].toList 8 = some ([.lit (.string [])], [], places) :=
  ⟨[], by kernel_rfl⟩
theorem contract (H : Type) (enc : TypeId × Value → H) (W : World) (base : Nat) (args : Array Value) (ds gs : List (DataW H)) (before : List MemPlace)
    (hval : ∀ (j : Nat) t v, Tryd.f3.params[j]? = some t → args[j]? = some v → Value.okWide Tryd.prog W .any base t v)
    (hW : DataW.Whole enc Tryd.prog Tryd.f3.params.toList Rows.shellParsesSpec.vars false W args.toList ds gs before) (hk : Rows.uptoBulkAll ds ≤ 1048576) :
    Calls Tryd.prog 3 args W fun e W' => ∃ v, e = .returned v ∧ Rows.shellParsesSpec.post enc Tryd.prog Tryd.f3 false true false false W args v W' := by
  have hW' := hW
  obtain ⟨p, q, hA0, hV, rfl, hfz, hnd⟩ := hW
  have hA : DataW.TrodAll enc Tryd.prog W 0 (fun _ => true) true Tryd.f3.params.toList args.toList ds p := hA0
  rw [Tryd.params3] at hA hval
  obtain ⟨v0, vs0, d0, ds0, p0, q0, hargs, rfl, rfl, h0, r0⟩ := trodAll_cons hA
  obtain ⟨rfl, rfl, rfl⟩ := trodAll_nil r0
  obtain rfl : args = #[v0] := by cases args; simp_all
  obtain ⟨rfl, rfl⟩ := trodVars_none hV
  obtain ⟨s, rfl, rfl, rfl, hs⟩ := open_string Tryd.underlying9 (hval 0 9 v0 rfl rfl) h0
  have hb : s.size ≤ 1048576 := by
    simp only [Rows.uptoBulkAll, Rows.uptoBulk, Array.length_toList] at hk
    have : s.data.size = s.size := rfl
    omega
  clear hA0 hk
  simp only [List.append_nil] at hW'
  obtain ⟨k, r1, r2, h1, h2, h3⟩ := Pure.all s hb
  refine (Law.walk k s r1 r2 W hb h1 h2 h3).mono fun e W' ⟨he, hg⟩ => ?_
  subst he
  exact ⟨_, rfl, _, _, _, [], _, [], hW', trodAll_cons_mk (shut_bool Tryd.underlying4 _) trodAll_mk0, trodAll_cons_mk (shut_string Tryd.underlying9 hs) trodAll_mk0, rfl, hg.frame _, fun h => by cases h⟩
set_option maxRecDepth 100000 in
theorem liftedUpto (os : Os) (started : os.Started) (H : Type) (enc : TypeId × Value → H) (F : Stop.Interp) :
    ReturnsInHanded {} Tryd.checked os 3 .any ((Rows.OpenSpec.upto Rows.shellParsesSpec).preRow enc Tryd.prog Tryd.f3 Rows.shellParsesUptoRow.domain false Rows.shellParsesUptoRow.laid) (((Rows.OpenSpec.upto Rows.shellParsesSpec).at F).post enc Tryd.prog Tryd.f3 false true false false) := by
  obtain ⟨places, hx⟩ := reads os enc
  refine returnsInHanded_of_row (C := Tryd.checked) (s := Rows.OpenSpec.upto Rows.shellParsesSpec) own started (by kernel_rfl) Tryd.func3
    (witness_row_at (enc := enc) (C := Tryd.checked) false (laidWorld os) #[.string ⟨#[]⟩] rfl (by kernel_rfl) (by kernel_rfl) (by kernel_rfl)
      (OpenSpec.preRow_of_cond 8 hx (by kernel_rfl) (fun k hk => by cases hk; kernel_rfl) (by kernel_rfl) (laid_met os))) ?_
  intro W base args ds gs before hval hW a1 a2 a3 hL a4 a5
  have hk := of_decide_eq_true (a2 _ rfl)
  exact contract H enc W base args ds gs before hval hW (by
    have e : gs = [] := by
      obtain ⟨p, q, hA0, hV, h3, h4, h5⟩ := hW
      exact (trodVars_none hV).1
    rw [e, List.append_nil] at hk
    exact hk)
theorem saidUpto : Rows.ShellParsesUptoSaid :=
  OpenClaim.holds_of_cond 3 Tryd.f3 rfl rfl rfl rfl rfl rfl rfl ⟨rfl, rfl, rfl, rfl, rfl⟩ rfl rfl rfl rfl rfl (by kernel_rfl) Tryd.func3 (by kernel_rfl)
    (of_decide_eq_true (by kernel_rfl)) (by unfold Func.isWrapper; first | (rw [if_pos (by decide +kernel)]; kernel_rfl) | (rw [if_neg (by decide +kernel)]; exact ⟨rfl, rfl⟩))
    (fun os started H enc _ F => by rw [OpenClaim.pre_eq_preRow]; exact liftedUpto os started H enc F)
/-- No parameter wants a stand-in; the program's own looks are off. -/
theorem plain (f : FuncId) (fn : Func) (hf : Tryd.pinned.checked.prog.funcNamed "valise/valiselaw20.ShellParses" = some f) (hfn : Tryd.pinned.checked.prog.funcs[f]? = some fn) :
    false = Tryd.pinned.checked.prog.looks [] ∧ ∀ (j : Nat) t, fn.params[j]? = some t → Tryd.pinned.checked.prog.wantsStandIn t = false := by
  obtain rfl : f = 3 := Option.some.inj ((show Tryd.prog.funcNamed "valise/valiselaw20.ShellParses" = some 3 by kernel_rfl).symm.trans hf) |>.symm
  obtain rfl : fn = Tryd.f3 := (Option.some.inj (Tryd.func3.symm.trans hfn)).symm
  refine ⟨by kernel_rfl, fun j t ht => ?_⟩
  rw [Tryd.params3] at ht
  obtain rfl : t = 9 := by simpa using Array.mem_of_getElem? ht
  exact (show Tryd.prog.wantsStandIn 9 = false by kernel_rfl)
end Go.Proofs.YtkpdbkkkdidolaaDoor.RShell
namespace Go.Proofs.YtkpdbkkkdidolaaDoor
open Go
/-- The card, under a short name, for the claim. -/
theorem shellParses_upto_card : Rows.ShellParsesUptoCardSaid :=
  Claim7.holds_tied_plain_at .later [] _ _ _ _ RShell.saidUpto (fun _ h => by cases h) (by kernel_rfl) (fun _ h => by cases h) shellParsesUpto_row_tie rfl ⟨rfl, rfl⟩ (by kernel_rfl) rfl RShell.plain (by kernel_rfl)
#print axioms shellParses_upto_card
end Go.Proofs.YtkpdbkkkdidolaaDoor
