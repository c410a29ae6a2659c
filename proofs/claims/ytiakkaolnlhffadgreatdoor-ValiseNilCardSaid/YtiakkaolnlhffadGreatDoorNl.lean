/- Own walk: ValiseNil, by lemmas on closed values. -/
import Derived.Test.YtiakkaolnlhffadGreatDoorSx
import Derived.Laws.Pointers
import Derived.Laws.Build
namespace Go.Proofs.YtiakkaolnlhffadGreatDoor.Nl
open Go.RowKit Go.Proofs.YtiakkaolnlhffadGreatDoor.Sx
set_option linter.unusedVariables false
set_option linter.unusedSimpArgs false
def flt (c nm : ByteArray) : List Value := [.string c, .string nm, .int .i64 1]
def er (b : Nat) : Value := .iface 129 (.pointer (some ⟨b, 0, none⟩))
section
variable {P : Program} {n : Fr} {sl : List (Nat × Value)} {w : World} {dst : Option Tmp} {ty t t2 xT : TypeId} {pos : String} {aft : Array Edge} {g : Option (Nat × Bool)} {u v r : Value} {x y : Operand}
theorem r_bin {op : BinOp} (hx : sv sl x = some u) (hy : sv sl y = some v) (hb : ∀ w, ((do eqGuard op t x y u v; binOp op t u v : Sem Value)).run P w = .ok r w) : Runs P ⟨dst, .binOp op t x y t2, ty, pos, aft, g⟩ n sl w r w := fun f hf => by
  have h : (execOp f.eval ⟨dst, .binOp op t x y t2, ty, pos, aft, g⟩ : Sem Next) = (do let z ← (do eqGuard op t x y u v; binOp op t u v : Sem Value); pure (.value z)) := by
    simp only [execOp, hf.ev hx, hf.ev hy]
  rw [h, Sem.run_bind, hb]
  rfl
theorem r_mki (hx : sv sl x = some u) (hb : ∀ w, (Instr.makeInterface t u).run P w = .ok r w) : Runs P ⟨dst, .makeInterface t x, ty, pos, aft, g⟩ n sl w r w := fun f hf => by
  simp only [execOp, hf.ev hx]
  rw [Sem.run_bind, hb]
  rfl
theorem r_assert {k : Bool} (hx : sv sl x = some u) (hb : ∀ w, (Instr.typeAssert u xT t k).run P w = .ok r w) : Runs P ⟨dst, .typeAssert x xT t k, ty, pos, aft, g⟩ n sl w r w := fun f hf => by
  simp only [execOp, hf.ev hx]
  rw [Sem.run_bind, hb]
  rfl
theorem r_nilCheck {a : Addr} (hx : sv sl x = some (.pointer (some a))) : Runs P ⟨dst, .nilCheck x, ty, pos, aft, g⟩ n sl w (.pointer (some a)) w := fun f hf => by
  simp only [execOp, hf.ev hx]
  rfl
theorem r_mkfunc {fn : Fn} {pa cs : Array Operand} {vs us : List Value} (ha : svs sl pa.toList = some vs) (hc : svs sl cs.toList = some us) : Runs P ⟨dst,   .makeFunc fn pa cs, ty, pos, aft, g⟩ n sl w (.func fn vs.toArray us.toArray) w := fun f hf => by
  have h1 := hf.evs ha
  have h2 := hf.evs hc
  have e1 : pa.map f.eval = vs.toArray := by rw [← h1]; apply Array.ext'; simp
  have e2 : cs.map f.eval = us.toArray := by rw [← h2]; apply Array.ext'; simp
  simp only [execOp, e1, e2]
  rfl
theorem l_load {ad : Addr} (h1 : one P t = true) (hc : w.cell? ad = some v) : (loadVar t ad).run P w = .ok v w := by
  unfold one at h1
  cases hu : P.underlying t with
  | none => rw [hu] at h1; cases h1
  | some d =>
    rw [hu] at h1
    have : (isAgg t).run P w = .ok false w := by
      simp only [isAgg, Sem.run_bind, run_underlying hu, Result.andThen_ok]
      cases d <;> simp_all
    simp [loadVar, this, run_load, hc]
theorem r_same {s : ByteArray} (hx : sv sl x = some (.string s)) (hy : sv sl y = some (.string s)) : Runs P ⟨dst, .binOp .eql t x y t2, ty, pos, aft, g⟩ n sl w (.bool true) w := by
  have h := r_seq (P := P) (n := n) (w := w) (dst := dst) (ty := ty) (t := t) (t2 := t2) (pos := pos) (aft := aft) (g := g) hx hy
  simpa using h
end
theorem fl29_0 : fld Tryz.prog 29 0 = some (0, 3, 1) := by kernel_rfl
theorem fl29_1 : fld Tryz.prog 29 1 = some (1, 3, 1) := by kernel_rfl
theorem fl73_3 : fld Tryz.prog 73 3 = some (4, 4, 1) := by kernel_rfl
theorem fl131_0 : fld Tryz.prog 131 0 = some (0, 9, 1) := by kernel_rfl
theorem fl131_1 : fld Tryz.prog 131 1 = some (1, 9, 1) := by kernel_rfl
theorem fl131_2 : fld Tryz.prog 131 2 = some (2, 68, 1) := by kernel_rfl
theorem en4 : Enters Tryz.prog 4 := fun args w => by kernel_rfl
theorem en5 : Enters Tryz.prog 5 := fun args w => by kernel_rfl
theorem en6 : Enters Tryz.prog 6 := fun args w => by kernel_rfl
theorem en7 : Enters Tryz.prog 7 := fun args w => by kernel_rfl
theorem en8 : Enters Tryz.prog 8 := fun args w => by kernel_rfl
theorem en9 : Enters Tryz.prog 9 := fun args w => by kernel_rfl
theorem en10 : Enters Tryz.prog 10 := fun args w => by kernel_rfl
theorem en11 : Enters Tryz.prog 11 := fun args w => by kernel_rfl
theorem en12 : Enters Tryz.prog 12 := fun args w => by kernel_rfl
theorem en13 : Enters Tryz.prog 13 := fun args w => by kernel_rfl
theorem en14 : Enters Tryz.prog 14 := fun args w => by kernel_rfl
theorem en15 : Enters Tryz.prog 15 := fun args w => by kernel_rfl
theorem en16 : Enters Tryz.prog 16 := fun args w => by kernel_rfl
theorem en17 : Enters Tryz.prog 17 := fun args w => by kernel_rfl
theorem en18 : Enters Tryz.prog 18 := fun args w => by kernel_rfl
theorem en19 : Enters Tryz.prog 19 := fun args w => by kernel_rfl
theorem en20 : Enters Tryz.prog 20 := fun args w => by kernel_rfl
theorem en21 : Enters Tryz.prog 21 := fun args w => by kernel_rfl
theorem en23 : Enters Tryz.prog 23 := fun args w => by kernel_rfl
theorem en24 : Enters Tryz.prog 24 := fun args w => by kernel_rfl
theorem en37 : Enters Tryz.prog 37 := fun args w => by kernel_rfl
theorem en55 : Enters Tryz.prog 55 := fun args w => by kernel_rfl
set_option maxRecDepth 100000 in
theorem c21 (c nm : ByteArray) (w : World) : Calls Tryz.prog 21 #[.string c, .string nm, .int .i64 1] w fun e w' => ∃ b, e = .returned (er b) ∧ HP w w' [(b, flt c nm, 131)] := by
  have hP := HP.start w
  refine calls_cw Tryz.func21 rfl rfl (by simp) ?_
  refine cw_seq ?_
  -- region 0 valise.go:28
  refine cw_region ?_
  refine ow_step (r_assign rfl) rfl ?_
  refine ow_nil ?_
  refine ew_next ?_
  refine cw_seq ?_
  refine cw_seq ?_
  -- region 1 valise.go:29
  refine cw_region ?_
  refine ow_step (r_move rfl) rfl ?_
  refine ow_step (r_eq rfl rfl) rfl ?_
  refine ow_nil ?_
  refine ew_next ?_
  refine cw_false rfl ?_
  refine cw_skip ?_
  refine ew_next ?_
  refine cw_seq ?_
  -- region 3 valise.go:32
  refine cw_region ?_
  refine ow_step (r_move rfl) rfl ?_
  refine ow_step (r_move rfl) rfl ?_
  refine ow_step (r_move rfl) rfl ?_
  refine ow_step (r_build (v := .agg (flt c nm).toArray) rfl (fun w => by kernel_rfl)) rfl ?_
  refine ow_box hP rfl rfl rfl ?_
  clear hP; intro b13 W hz hg hP
  refine ow_step (r_mki (r := er b13) rfl (fun w => by kernel_rfl)) rfl ?_
  refine ow_step (r_assign rfl) rfl ?_
  refine ow_nil ?_
  refine ew_next ?_
  refine cw_ret ?_
  refine ew_ret1 rfl (.tmp rfl .nil) ⟨_, rfl, ?_⟩
  exact hP.sub (by simp)

set_option maxRecDepth 100000 in
theorem c24 (c nm : ByteArray) (w : World) : Calls Tryz.prog 24 #[.pointer none, .string c, .string nm] w fun e w' => ∃ b, e = .returned (er b) ∧ HP w w' [(b, flt c nm, 131)] := by
  have hP := HP.start w
  refine calls_cw Tryz.func24 rfl rfl (by simp) ?_
  refine cw_seq ?_
  -- region 0 valise.go:48
  refine cw_region ?_
  refine ow_step (r_assign rfl) rfl ?_
  refine ow_nil ?_
  refine ew_next ?_
  refine cw_seq ?_
  refine cw_block ?_
  refine cw_seq ?_
  -- region 1 valise.go:50
  refine cw_region ?_
  refine ow_step (r_move rfl) rfl ?_
  refine ow_step (r_bin (r := .bool true) rfl rfl (fun w => by kernel_rfl)) rfl ?_
  refine ow_step (r_assign rfl) rfl ?_
  refine ow_nil ?_
  refine ew_next ?_
  refine cw_true rfl ?_
  refine cw_seq ?_
  -- region 2 valise.go:51
  refine cw_region ?_
  refine ow_step (r_move rfl) rfl ?_
  refine ow_step (r_move rfl) rfl ?_
  refine ow_call en21 rfl (c21 _ _ _) rfl ?_
  rintro e W ⟨b12, rfl, hJ⟩; replace hP := hP.push hJ.old (hJ.ge (i := 0) rfl) (hJ.blk (i := 0) rfl); clear hJ; refine ⟨_, rfl, ?_⟩
  refine ow_step (r_assign rfl) rfl ?_
  refine ow_nil ?_
  refine ew_next ?_
  refine cw_ret ?_
  refine ew_block_ret ?_
  refine ew_then_ret ?_
  refine ew_ret1 rfl (.tmp rfl .nil) ⟨_, rfl, ?_⟩
  exact hP.sub (by simp)

set_option maxRecDepth 100000 in
theorem c37 (c nm : ByteArray) (f : Value) (w : World) : Calls Tryz.prog 37 #[.pointer none, .string c, .string nm, f] w fun e w' => ∃ b, e = .returned (er b) ∧ HP w w' [(b, flt c nm, 131)] := by
  have hP := HP.start w
  refine calls_cw Tryz.func37 rfl rfl (by simp) ?_
  refine cw_seq ?_
  -- region 0 change.go:115
  refine cw_region ?_
  refine ow_step (r_assign rfl) rfl ?_
  refine ow_nil ?_
  refine ew_next ?_
  refine cw_seq ?_
  refine cw_seq ?_
  -- region 1 change.go:116
  refine cw_region ?_
  refine ow_step (r_move rfl) rfl ?_
  refine ow_step (r_move rfl) rfl ?_
  refine ow_step (r_move rfl) rfl ?_
  refine ow_call en24 rfl (c24 _ _ _) rfl ?_
  rintro e W ⟨b16, rfl, hJ⟩; replace hP := hP.push hJ.old (hJ.ge (i := 0) rfl) (hJ.blk (i := 0) rfl); clear hJ; refine ⟨_, rfl, ?_⟩
  refine ow_step (r_assign rfl) rfl ?_
  refine ow_nil ?_
  refine ew_next ?_
  refine cw_seq ?_
  -- region 2 change.go:116
  refine cw_region ?_
  refine ow_step (r_move rfl) rfl ?_
  refine ow_step (r_bin (r := .bool true) rfl rfl (fun w => by kernel_rfl)) rfl ?_
  refine ow_nil ?_
  refine ew_next ?_
  refine cw_true rfl ?_
  refine cw_seq ?_
  -- region 3 change.go:117
  refine cw_region ?_
  refine ow_step (r_move rfl) rfl ?_
  refine ow_step (r_assign rfl) rfl ?_
  refine ow_nil ?_
  refine ew_next ?_
  refine cw_ret ?_
  refine ew_then_ret ?_
  refine ew_ret1 rfl (.tmp rfl .nil) ⟨_, rfl, ?_⟩
  exact hP.sub (by simp)

set_option maxRecDepth 100000 in
theorem c6  (w : World) : Calls Tryz.prog 6 #[.pointer none] w fun e w' => ∃ b, e = .returned (.tuple #[.slice none 0 0, er b]) ∧ HP w w' [(b, flt ⟨#[108, 105, 115, 116]⟩ ⟨#[]⟩, 131)] := by
  have hP := HP.start w
  refine calls_cw Tryz.func6 rfl rfl (by simp) ?_
  refine cw_seq ?_
  -- region 0 valise.go:88
  refine cw_region ?_
  refine ow_step (r_assign rfl) rfl ?_
  refine ow_step (r_assign rfl) rfl ?_
  refine ow_nil ?_
  refine ew_next ?_
  refine cw_seq ?_
  refine cw_seq ?_
  -- region 1 valise.go:89
  refine cw_region ?_
  refine ow_step (r_move rfl) rfl ?_
  refine ow_call en24 rfl (c24 _ _ _) rfl ?_
  rintro e W ⟨b9, rfl, hJ⟩; replace hP := hP.push hJ.old (hJ.ge (i := 0) rfl) (hJ.blk (i := 0) rfl); clear hJ; refine ⟨_, rfl, ?_⟩
  refine ow_step (r_assign rfl) rfl ?_
  refine ow_nil ?_
  refine ew_next ?_
  refine cw_seq ?_
  -- region 2 valise.go:89
  refine cw_region ?_
  refine ow_step (r_move rfl) rfl ?_
  refine ow_step (r_bin (r := .bool true) rfl rfl (fun w => by kernel_rfl)) rfl ?_
  refine ow_nil ?_
  refine ew_next ?_
  refine cw_true rfl ?_
  refine cw_seq ?_
  -- region 3 valise.go:90
  refine cw_region ?_
  refine ow_step (r_move rfl) rfl ?_
  refine ow_step (r_assign rfl) rfl ?_
  refine ow_step (r_assign rfl) rfl ?_
  refine ow_nil ?_
  refine ew_next ?_
  refine cw_ret ?_
  refine ew_then_ret ?_
  refine ew_rets (rs := [(Go.ResultVar.tmp 2), (Go.ResultVar.tmp 3)]) rfl (by simp) (.tmp rfl (.tmp rfl .nil)) ⟨_, rfl, ?_⟩
  exact hP.sub (by simp)

set_option maxRecDepth 100000 in
theorem c7 (nm : ByteArray) (w : World) : Calls Tryz.prog 7 #[.pointer none, .string nm] w fun e w' => ∃ b, e = .returned (.tuple #[.agg #[.string ⟨#[]⟩, .int .i64 0, .int .i64 0, .int .i64 0, .int .u32 0, .int .i64 0, .int .i64 0, .int .i64 0, .int .i64 0, .int .i64 0, .int .i64 0, .int .i64 0, .string ⟨#[]⟩], er b]) ∧ HP w w' [(b, flt ⟨#[115, 116, 97, 116]⟩ nm, 131)] := by
  have hP := HP.start w
  refine calls_cw Tryz.func7 rfl rfl (by simp) ?_
  refine cw_seq ?_
  -- region 0 valise.go:125
  refine cw_region ?_
  refine ow_alloc (ws := [.string ⟨#[]⟩, .int .i64 0, .int .i64 0, .int .i64 0, .int .u32 0, .int .i64 0, .int .i64 0, .int .i64 0, .int .i64 0, .int .i64 0, .int .i64 0, .int .i64 0, .string ⟨#[]⟩]) hP (by kernel_rfl) rfl ?_
  clear hP; intro b4 W hz hg hP
  refine ow_step (r_assign rfl) rfl ?_
  refine ow_nil ?_
  refine ew_next ?_
  refine cw_seq ?_
  refine cw_seq ?_
  -- region 1 valise.go:126
  refine cw_region ?_
  refine ow_step (r_move rfl) rfl ?_
  refine ow_step (r_move rfl) rfl ?_
  refine ow_call en24 rfl (c24 _ _ _) rfl ?_
  rintro e W ⟨b11, rfl, hJ⟩; replace hP := hP.push hJ.old (hJ.ge (i := 0) rfl) (hJ.blk (i := 0) rfl); clear hJ; refine ⟨_, rfl, ?_⟩
  refine ow_step (r_assign rfl) rfl ?_
  refine ow_nil ?_
  refine ew_next ?_
  refine cw_seq ?_
  -- region 2 valise.go:126
  refine cw_region ?_
  refine ow_step (r_move rfl) rfl ?_
  refine ow_step (r_bin (r := .bool true) rfl rfl (fun w => by kernel_rfl)) rfl ?_
  refine ow_nil ?_
  refine ew_next ?_
  refine cw_true rfl ?_
  refine cw_seq ?_
  -- region 3 valise.go:127
  refine cw_region ?_
  refine ow_step (r_build (v := .agg #[.string ⟨#[]⟩, .int .i64 0, .int .i64 0, .int .i64 0, .int .u32 0, .int .i64 0, .int .i64 0, .int .i64 0, .int .i64 0, .int .i64 0, .int .i64 0, .int .i64 0, .string ⟨#[]⟩]) rfl (fun w => by kernel_rfl)) rfl ?_
  refine ow_step (r_move rfl) rfl ?_
  refine ow_stores hP 1 rfl (ws := [.string ⟨#[]⟩, .int .i64 0, .int .i64 0, .int .i64 0, .int .u32 0, .int .i64 0, .int .i64 0, .int .i64 0, .int .i64 0, .int .i64 0, .int .i64 0, .int .i64 0, .string ⟨#[]⟩]) rfl rfl (by simp [Value.oneCell']) rfl rfl ?_
  clear hP; intro W hg hP; dsimp only [List.set] at hP
  refine ow_step (r_assign rfl) rfl ?_
  refine ow_nil ?_
  refine ew_next ?_
  refine cw_ret ?_
  refine ew_then_ret ?_
  refine ew_rets (rs := [(Go.ResultVar.cell 4 38), (Go.ResultVar.tmp 5)]) rfl (by simp) (.cell _ rfl (run_loadVar_row _ _ 38 38 _ (0, 0) _ (hP.blk (i := 1) rfl) rfl rfl rfl) (.tmp rfl .nil)) ⟨_, rfl, ?_⟩
  exact hP.sub (by simp)

set_option maxRecDepth 100000 in
theorem c8 (nm : ByteArray) (w : World) : Calls Tryz.prog 8 #[.pointer none, .string nm] w fun e w' => ∃ b, e = .returned (.tuple #[.slice none 0 0, er b]) ∧ HP w w' [(b, flt ⟨#[114, 101, 97, 100]⟩ nm, 131)] := by
  have hP := HP.start w
  refine calls_cw Tryz.func8 rfl rfl (by simp) ?_
  refine cw_seq ?_
  -- region 0 valise.go:137
  refine cw_region ?_
  refine ow_step (r_assign rfl) rfl ?_
  refine ow_step (r_assign rfl) rfl ?_
  refine ow_nil ?_
  refine ew_next ?_
  refine cw_seq ?_
  refine cw_seq ?_
  -- region 1 valise.go:138
  refine cw_region ?_
  refine ow_step (r_move rfl) rfl ?_
  refine ow_step (r_move rfl) rfl ?_
  refine ow_call en24 rfl (c24 _ _ _) rfl ?_
  rintro e W ⟨b13, rfl, hJ⟩; replace hP := hP.push hJ.old (hJ.ge (i := 0) rfl) (hJ.blk (i := 0) rfl); clear hJ; refine ⟨_, rfl, ?_⟩
  refine ow_step (r_assign rfl) rfl ?_
  refine ow_nil ?_
  refine ew_next ?_
  refine cw_seq ?_
  -- region 2 valise.go:138
  refine cw_region ?_
  refine ow_step (r_move rfl) rfl ?_
  refine ow_step (r_bin (r := .bool true) rfl rfl (fun w => by kernel_rfl)) rfl ?_
  refine ow_nil ?_
  refine ew_next ?_
  refine cw_true rfl ?_
  refine cw_seq ?_
  -- region 3 valise.go:139
  refine cw_region ?_
  refine ow_step (r_move rfl) rfl ?_
  refine ow_step (r_assign rfl) rfl ?_
  refine ow_step (r_assign rfl) rfl ?_
  refine ow_nil ?_
  refine ew_next ?_
  refine cw_ret ?_
  refine ew_then_ret ?_
  refine ew_rets (rs := [(Go.ResultVar.tmp 4), (Go.ResultVar.tmp 5)]) rfl (by simp) (.tmp rfl (.tmp rfl .nil)) ⟨_, rfl, ?_⟩
  exact hP.sub (by simp)

set_option maxRecDepth 100000 in
theorem c9  (w : World) : Calls Tryz.prog 9 #[.pointer none] w fun e w' => ∃ b, e = .returned (.tuple #[.slice none 0 0, er b]) ∧ HP w w' [(b, flt ⟨#[118, 101, 114, 105, 102, 121]⟩ ⟨#[]⟩, 131)] := by
  have hP := HP.start w
  refine calls_cw Tryz.func9 rfl rfl (by simp) ?_
  refine cw_seq ?_
  -- region 0 valise.go:161
  refine cw_region ?_
  refine ow_box hP rfl rfl rfl ?_
  clear hP; intro b1 W hz hg hP
  refine ow_step (r_assign rfl) rfl ?_
  refine ow_step (r_assign rfl) rfl ?_
  refine ow_nil ?_
  refine ew_next ?_
  refine cw_seq ?_
  refine cw_seq ?_
  -- region 1 valise.go:162
  refine cw_region ?_
  refine ow_step (r_load rfl rfl (hP.cell (i := 0) rfl rfl)) rfl ?_
  refine ow_call en24 rfl (c24 _ _ _) rfl ?_
  rintro e W ⟨b14, rfl, hJ⟩; replace hP := hP.push hJ.old (hJ.ge (i := 0) rfl) (hJ.blk (i := 0) rfl); clear hJ; refine ⟨_, rfl, ?_⟩
  refine ow_step (r_assign rfl) rfl ?_
  refine ow_nil ?_
  refine ew_next ?_
  refine cw_seq ?_
  -- region 2 valise.go:162
  refine cw_region ?_
  refine ow_step (r_move rfl) rfl ?_
  refine ow_step (r_bin (r := .bool true) rfl rfl (fun w => by kernel_rfl)) rfl ?_
  refine ow_nil ?_
  refine ew_next ?_
  refine cw_true rfl ?_
  refine cw_seq ?_
  -- region 3 valise.go:163
  refine cw_region ?_
  refine ow_step (r_move rfl) rfl ?_
  refine ow_step (r_assign rfl) rfl ?_
  refine ow_step (r_assign rfl) rfl ?_
  refine ow_nil ?_
  refine ew_next ?_
  refine cw_ret ?_
  refine ew_then_ret ?_
  refine ew_rets (rs := [(Go.ResultVar.tmp 2), (Go.ResultVar.tmp 3)]) rfl (by simp) (.tmp rfl (.tmp rfl .nil)) ⟨_, rfl, ?_⟩
  exact hP.sub (by simp)

set_option maxRecDepth 100000 in
theorem c10  (w : World) : Calls Tryz.prog 10 #[.pointer none] w fun e w' => ∃ b, e = .returned (.tuple #[.int .i64 0, er b]) ∧ HP w w' [(b, flt ⟨#[115, 105, 122, 101]⟩ ⟨#[]⟩, 131)] := by
  have hP := HP.start w
  refine calls_cw Tryz.func10 rfl rfl (by simp) ?_
  refine cw_seq ?_
  -- region 0 valise.go:194
  refine cw_region ?_
  refine ow_step (r_assign rfl) rfl ?_
  refine ow_step (r_assign rfl) rfl ?_
  refine ow_nil ?_
  refine ew_next ?_
  refine cw_seq ?_
  refine cw_seq ?_
  -- region 1 valise.go:195
  refine cw_region ?_
  refine ow_step (r_move rfl) rfl ?_
  refine ow_call en24 rfl (c24 _ _ _) rfl ?_
  rintro e W ⟨b6, rfl, hJ⟩; replace hP := hP.push hJ.old (hJ.ge (i := 0) rfl) (hJ.blk (i := 0) rfl); clear hJ; refine ⟨_, rfl, ?_⟩
  refine ow_step (r_assign rfl) rfl ?_
  refine ow_nil ?_
  refine ew_next ?_
  refine cw_seq ?_
  -- region 2 valise.go:195
  refine cw_region ?_
  refine ow_step (r_move rfl) rfl ?_
  refine ow_step (r_bin (r := .bool true) rfl rfl (fun w => by kernel_rfl)) rfl ?_
  refine ow_nil ?_
  refine ew_next ?_
  refine cw_true rfl ?_
  refine cw_seq ?_
  -- region 3 valise.go:196
  refine cw_region ?_
  refine ow_step (r_move rfl) rfl ?_
  refine ow_step (r_assign rfl) rfl ?_
  refine ow_step (r_assign rfl) rfl ?_
  refine ow_nil ?_
  refine ew_next ?_
  refine cw_ret ?_
  refine ew_then_ret ?_
  refine ew_rets (rs := [(Go.ResultVar.tmp 2), (Go.ResultVar.tmp 3)]) rfl (by simp) (.tmp rfl (.tmp rfl .nil)) ⟨_, rfl, ?_⟩
  exact hP.sub (by simp)

set_option maxRecDepth 100000 in
theorem c18  (w : World) : Calls Tryz.prog 18 #[.pointer none] w fun e w' => ∃ b, e = .returned (.tuple #[.string ⟨#[]⟩, er b]) ∧ HP w w' [(b, flt ⟨#[110, 111, 116, 101]⟩ ⟨#[]⟩, 131)] := by
  have hP := HP.start w
  refine calls_cw Tryz.func18 rfl rfl (by simp) ?_
  refine cw_seq ?_
  -- region 0 valise.go:186
  refine cw_region ?_
  refine ow_step (r_assign rfl) rfl ?_
  refine ow_step (r_assign rfl) rfl ?_
  refine ow_nil ?_
  refine ew_next ?_
  refine cw_seq ?_
  refine cw_seq ?_
  -- region 1 valise.go:187
  refine cw_region ?_
  refine ow_step (r_move rfl) rfl ?_
  refine ow_call en24 rfl (c24 _ _ _) rfl ?_
  rintro e W ⟨b6, rfl, hJ⟩; replace hP := hP.push hJ.old (hJ.ge (i := 0) rfl) (hJ.blk (i := 0) rfl); clear hJ; refine ⟨_, rfl, ?_⟩
  refine ow_step (r_assign rfl) rfl ?_
  refine ow_nil ?_
  refine ew_next ?_
  refine cw_seq ?_
  -- region 2 valise.go:187
  refine cw_region ?_
  refine ow_step (r_move rfl) rfl ?_
  refine ow_step (r_bin (r := .bool true) rfl rfl (fun w => by kernel_rfl)) rfl ?_
  refine ow_nil ?_
  refine ew_next ?_
  refine cw_true rfl ?_
  refine cw_seq ?_
  -- region 3 valise.go:188
  refine cw_region ?_
  refine ow_step (r_move rfl) rfl ?_
  refine ow_step (r_assign rfl) rfl ?_
  refine ow_step (r_assign rfl) rfl ?_
  refine ow_nil ?_
  refine ew_next ?_
  refine cw_ret ?_
  refine ew_then_ret ?_
  refine ew_rets (rs := [(Go.ResultVar.tmp 2), (Go.ResultVar.tmp 3)]) rfl (by simp) (.tmp rfl (.tmp rfl .nil)) ⟨_, rfl, ?_⟩
  exact hP.sub (by simp)

set_option maxRecDepth 100000 in
theorem c16 (v : Value) (w : World) : Calls Tryz.prog 16 #[.pointer none, v] w fun e w' => ∃ b, e = .returned (er b) ∧ HP w w' [(b, flt ⟨#[98, 97, 116, 99, 104]⟩ ⟨#[]⟩, 131)] := by
  have hP := HP.start w
  refine calls_cw Tryz.func16 rfl rfl (by simp) ?_
  refine cw_seq ?_
  -- region 0 change.go:158
  refine cw_region ?_
  refine ow_step (r_assign rfl) rfl ?_
  refine ow_nil ?_
  refine ew_next ?_
  refine cw_seq ?_
  refine cw_seq ?_
  -- region 1 change.go:159
  refine cw_region ?_
  refine ow_step (r_move rfl) rfl ?_
  refine ow_call en24 rfl (c24 _ _ _) rfl ?_
  rintro e W ⟨b14, rfl, hJ⟩; replace hP := hP.push hJ.old (hJ.ge (i := 0) rfl) (hJ.blk (i := 0) rfl); clear hJ; refine ⟨_, rfl, ?_⟩
  refine ow_step (r_assign rfl) rfl ?_
  refine ow_nil ?_
  refine ew_next ?_
  refine cw_seq ?_
  -- region 2 change.go:159
  refine cw_region ?_
  refine ow_step (r_move rfl) rfl ?_
  refine ow_step (r_bin (r := .bool true) rfl rfl (fun w => by kernel_rfl)) rfl ?_
  refine ow_nil ?_
  refine ew_next ?_
  refine cw_true rfl ?_
  refine cw_seq ?_
  -- region 3 change.go:160
  refine cw_region ?_
  refine ow_step (r_move rfl) rfl ?_
  refine ow_step (r_assign rfl) rfl ?_
  refine ow_nil ?_
  refine ew_next ?_
  refine cw_ret ?_
  refine ew_then_ret ?_
  refine ew_ret1 rfl (.tmp rfl .nil) ⟨_, rfl, ?_⟩
  exact hP.sub (by simp)

set_option maxRecDepth 100000 in
theorem c15  (w : World) : Calls Tryz.prog 15 #[.pointer none] w fun e w' => ∃ b, e = .returned (er b) ∧ HP w w' [(b, flt ⟨#[99, 108, 111, 115, 101]⟩ ⟨#[]⟩, 131)] := by
  have hP := HP.start w
  refine calls_cw Tryz.func15 rfl rfl (by simp) ?_
  refine cw_seq ?_
  -- region 0 valise.go:202
  refine cw_region ?_
  refine ow_step (r_assign rfl) rfl ?_
  refine ow_nil ?_
  refine ew_next ?_
  refine cw_seq ?_
  refine cw_block ?_
  refine cw_seq ?_
  -- region 1 valise.go:204
  refine cw_region ?_
  refine ow_step (r_move rfl) rfl ?_
  refine ow_step (r_bin (r := .bool true) rfl rfl (fun w => by kernel_rfl)) rfl ?_
  refine ow_step (r_assign rfl) rfl ?_
  refine ow_nil ?_
  refine ew_next ?_
  refine cw_true rfl ?_
  refine cw_seq ?_
  -- region 2 valise.go:205
  refine cw_region ?_
  refine ow_call en21 rfl (c21 _ _ _) rfl ?_
  rintro e W ⟨b6, rfl, hJ⟩; replace hP := hP.push hJ.old (hJ.ge (i := 0) rfl) (hJ.blk (i := 0) rfl); clear hJ; refine ⟨_, rfl, ?_⟩
  refine ow_step (r_assign rfl) rfl ?_
  refine ow_nil ?_
  refine ew_next ?_
  refine cw_ret ?_
  refine ew_block_ret ?_
  refine ew_then_ret ?_
  refine ew_ret1 rfl (.tmp rfl .nil) ⟨_, rfl, ?_⟩
  exact hP.sub (by simp)

set_option maxRecDepth 100000 in
theorem c11 (nm : ByteArray) (d h : Value) (w : World) : Calls Tryz.prog 11 #[.pointer none, .string nm, d, h] w fun e w' => ∃ b, e = .returned (er b) ∧ HP w w' [(b, flt ⟨#[97, 100, 100]⟩ nm, 131)] := by
  have hP := HP.start w
  refine calls_cw Tryz.func11 rfl rfl (by simp) ?_
  refine cw_seq ?_
  -- region 0 change.go:131
  refine cw_region ?_
  refine ow_box hP rfl rfl rfl ?_
  clear hP; intro b5 W hz hg hP
  refine ow_box hP rfl rfl rfl ?_
  clear hP; intro b6 W hz hg hP
  refine ow_box hP rfl rfl rfl ?_
  clear hP; intro b7 W hz hg hP
  refine ow_step (r_assign rfl) rfl ?_
  refine ow_nil ?_
  refine ew_next ?_
  refine cw_seq ?_
  -- region 1 change.go:132
  refine cw_region ?_
  refine ow_step (r_move rfl) rfl ?_
  refine ow_step (r_load rfl rfl (hP.cell (i := 2) rfl rfl)) rfl ?_
  refine ow_step (r_mkfunc rfl rfl) rfl ?_
  refine ow_call en37 rfl (c37 _ _ _ _) rfl ?_
  rintro e W ⟨b12, rfl, hJ⟩; replace hP := hP.push hJ.old (hJ.ge (i := 0) rfl) (hJ.blk (i := 0) rfl); clear hJ; refine ⟨_, rfl, ?_⟩
  refine ow_step (r_assign rfl) rfl ?_
  refine ow_nil ?_
  refine ew_next ?_
  refine cw_ret ?_
  refine ew_ret1 rfl (.tmp rfl .nil) ⟨_, rfl, ?_⟩
  exact hP.sub (by simp)

set_option maxRecDepth 100000 in
theorem c12 (nm : ByteArray) (w : World) : Calls Tryz.prog 12 #[.pointer none, .string nm] w fun e w' => ∃ b, e = .returned (er b) ∧ HP w w' [(b, flt ⟨#[100, 101, 108, 101, 116, 101]⟩ nm, 131)] := by
  have hP := HP.start w
  refine calls_cw Tryz.func12 rfl rfl (by simp) ?_
  refine cw_seq ?_
  -- region 0 change.go:136
  refine cw_region ?_
  refine ow_box hP rfl rfl rfl ?_
  clear hP; intro b3 W hz hg hP
  refine ow_step (r_assign rfl) rfl ?_
  refine ow_nil ?_
  refine ew_next ?_
  refine cw_seq ?_
  -- region 1 change.go:137
  refine cw_region ?_
  refine ow_step (r_move rfl) rfl ?_
  refine ow_step (r_load rfl rfl (hP.cell (i := 0) rfl rfl)) rfl ?_
  refine ow_step (r_mkfunc rfl rfl) rfl ?_
  refine ow_call en37 rfl (c37 _ _ _ _) rfl ?_
  rintro e W ⟨b8, rfl, hJ⟩; replace hP := hP.push hJ.old (hJ.ge (i := 0) rfl) (hJ.blk (i := 0) rfl); clear hJ; refine ⟨_, rfl, ?_⟩
  refine ow_step (r_assign rfl) rfl ?_
  refine ow_nil ?_
  refine ew_next ?_
  refine cw_ret ?_
  refine ew_ret1 rfl (.tmp rfl .nil) ⟨_, rfl, ?_⟩
  exact hP.sub (by simp)

set_option maxRecDepth 100000 in
theorem c13 (nm nt : ByteArray) (w : World) : Calls Tryz.prog 13 #[.pointer none, .string nm, .string nt] w fun e w' => ∃ b, e = .returned (er b) ∧ HP w w' [(b, flt ⟨#[114, 101, 110, 97, 109, 101]⟩ nm, 131)] := by
  have hP := HP.start w
  refine calls_cw Tryz.func13 rfl rfl (by simp) ?_
  refine cw_seq ?_
  -- region 0 change.go:141
  refine cw_region ?_
  refine ow_box hP rfl rfl rfl ?_
  clear hP; intro b4 W hz hg hP
  refine ow_box hP rfl rfl rfl ?_
  clear hP; intro b5 W hz hg hP
  refine ow_step (r_assign rfl) rfl ?_
  refine ow_nil ?_
  refine ew_next ?_
  refine cw_seq ?_
  -- region 1 change.go:142
  refine cw_region ?_
  refine ow_step (r_move rfl) rfl ?_
  refine ow_step (r_load rfl rfl (hP.cell (i := 1) rfl rfl)) rfl ?_
  refine ow_step (r_mkfunc rfl rfl) rfl ?_
  refine ow_call en37 rfl (c37 _ _ _ _) rfl ?_
  rintro e W ⟨b10, rfl, hJ⟩; replace hP := hP.push hJ.old (hJ.ge (i := 0) rfl) (hJ.blk (i := 0) rfl); clear hJ; refine ⟨_, rfl, ?_⟩
  refine ow_step (r_assign rfl) rfl ?_
  refine ow_nil ?_
  refine ew_next ?_
  refine cw_ret ?_
  refine ew_ret1 rfl (.tmp rfl .nil) ⟨_, rfl, ?_⟩
  exact hP.sub (by simp)

set_option maxRecDepth 100000 in
theorem c14  (w : World) : Calls Tryz.prog 14 #[.pointer none] w fun e w' => ∃ b, e = .returned (er b) ∧ HP w w' [(b, flt ⟨#[99, 111, 109, 112, 97, 99, 116]⟩ ⟨#[]⟩, 131)] := by
  have hP := HP.start w
  refine calls_cw Tryz.func14 rfl rfl (by simp) ?_
  refine cw_seq ?_
  -- region 0 change.go:153
  refine cw_region ?_
  refine ow_step (r_assign rfl) rfl ?_
  refine ow_nil ?_
  refine ew_next ?_
  refine cw_seq ?_
  -- region 1 change.go:154
  refine cw_region ?_
  refine ow_step (r_move rfl) rfl ?_
  refine ow_call en37 rfl (c37 _ _ _ _) rfl ?_
  rintro e W ⟨b4, rfl, hJ⟩; replace hP := hP.push hJ.old (hJ.ge (i := 0) rfl) (hJ.blk (i := 0) rfl); clear hJ; refine ⟨_, rfl, ?_⟩
  refine ow_step (r_assign rfl) rfl ?_
  refine ow_nil ?_
  refine ew_next ?_
  refine cw_ret ?_
  refine ew_ret1 rfl (.tmp rfl .nil) ⟨_, rfl, ?_⟩
  exact hP.sub (by simp)

set_option maxRecDepth 100000 in
theorem c17 (nt : ByteArray) (w : World) : Calls Tryz.prog 17 #[.pointer none, .string nt] w fun e w' => ∃ b, e = .returned (er b) ∧ HP w w' [(b, flt ⟨#[115, 101, 116, 110, 111, 116, 101]⟩ ⟨#[]⟩, 131)] := by
  have hP := HP.start w
  refine calls_cw Tryz.func17 rfl rfl (by simp) ?_
  refine cw_seq ?_
  -- region 0 change.go:148
  refine cw_region ?_
  refine ow_box hP rfl rfl rfl ?_
  clear hP; intro b3 W hz hg hP
  refine ow_step (r_assign rfl) rfl ?_
  refine ow_nil ?_
  refine ew_next ?_
  refine cw_seq ?_
  -- region 1 change.go:149
  refine cw_region ?_
  refine ow_step (r_move rfl) rfl ?_
  refine ow_step (r_mkfunc rfl rfl) rfl ?_
  refine ow_call en37 rfl (c37 _ _ _ _) rfl ?_
  rintro e W ⟨b7, rfl, hJ⟩; replace hP := hP.push hJ.old (hJ.ge (i := 0) rfl) (hJ.blk (i := 0) rfl); clear hJ; refine ⟨_, rfl, ?_⟩
  refine ow_step (r_assign rfl) rfl ?_
  refine ow_nil ?_
  refine ew_next ?_
  refine cw_ret ?_
  refine ew_ret1 rfl (.tmp rfl .nil) ⟨_, rfl, ?_⟩
  exact hP.sub (by simp)

set_option maxRecDepth 100000 in
theorem c4  (w : World) : Calls Tryz.prog 4 #[.pointer none, .agg #[.int .i64 0, .int .i64 0]] w fun e w' => ∃ b, e = .returned (.tuple #[.pointer none, er b]) ∧ HP w w' [(b, flt ⟨#[111, 112, 101, 110]⟩ ⟨#[]⟩, 131)] := by
  have hP := HP.start w
  refine calls_cw Tryz.func4 rfl rfl (by simp) ?_
  refine cw_seq ?_
  -- region 0 valise.go:36
  refine cw_region ?_
  refine ow_box hP rfl rfl rfl ?_
  clear hP; intro b3 W hz hg hP
  refine ow_step (r_assign rfl) rfl ?_
  refine ow_step (r_assign rfl) rfl ?_
  refine ow_nil ?_
  refine ew_next ?_
  refine cw_seq ?_
  refine cw_seq ?_
  -- region 1 valise.go:37
  refine cw_region ?_
  refine ow_step (r_move rfl) rfl ?_
  refine ow_step (r_bin (r := .bool true) rfl rfl (fun w => by kernel_rfl)) rfl ?_
  refine ow_step (r_move rfl) rfl ?_
  first | (refine ow_pass rfl rfl rfl (by rfl) rfl ?_) | (refine ow_guard rfl rfl rfl (by rfl) ?_; refine ow_step (r_fieldAddr rfl fl29_0) rfl ?_)
  first | (refine ow_pass rfl rfl rfl (by rfl) rfl ?_) | (refine ow_guard rfl rfl rfl (by rfl) ?_; refine ow_step (r_load rfl rfl (hP.cell (i := 0) rfl rfl)) rfl ?_)
  first | (refine ow_pass rfl rfl rfl (by rfl) rfl ?_) | (refine ow_guard rfl rfl rfl (by rfl) ?_; refine ow_step (r_lt rfl rfl) rfl ?_)
  refine ow_step (r_pick rfl rfl rfl) rfl ?_
  refine ow_step (r_move rfl) rfl ?_
  first | (refine ow_pass rfl rfl rfl (by rfl) rfl ?_) | (refine ow_guard rfl rfl rfl (by rfl) ?_; refine ow_step (r_fieldAddr rfl fl29_0) rfl ?_)
  first | (refine ow_pass rfl rfl rfl (by rfl) rfl ?_) | (refine ow_guard rfl rfl rfl (by rfl) ?_; refine ow_step (r_load rfl rfl (hP.cell (i := 0) rfl rfl)) rfl ?_)
  first | (refine ow_pass rfl rfl rfl (by rfl) rfl ?_) | (refine ow_guard rfl rfl rfl (by rfl) ?_; refine ow_step (r_gt rfl rfl) rfl ?_)
  refine ow_step (r_pick rfl rfl rfl) rfl ?_
  refine ow_step (r_move rfl) rfl ?_
  first | (refine ow_pass rfl rfl rfl (by rfl) rfl ?_) | (refine ow_guard rfl rfl rfl (by rfl) ?_; refine ow_step (r_fieldAddr rfl fl29_1) rfl ?_)
  first | (refine ow_pass rfl rfl rfl (by rfl) rfl ?_) | (refine ow_guard rfl rfl rfl (by rfl) ?_; refine ow_step (r_load rfl rfl (hP.cell (i := 0) rfl rfl)) rfl ?_)
  first | (refine ow_pass rfl rfl rfl (by rfl) rfl ?_) | (refine ow_guard rfl rfl rfl (by rfl) ?_; refine ow_step (r_lt rfl rfl) rfl ?_)
  refine ow_step (r_pick rfl rfl rfl) rfl ?_
  refine ow_step (r_move rfl) rfl ?_
  first | (refine ow_pass rfl rfl rfl (by rfl) rfl ?_) | (refine ow_guard rfl rfl rfl (by rfl) ?_; refine ow_step (r_fieldAddr rfl fl29_1) rfl ?_)
  first | (refine ow_pass rfl rfl rfl (by rfl) rfl ?_) | (refine ow_guard rfl rfl rfl (by rfl) ?_; refine ow_step (r_load rfl rfl (hP.cell (i := 0) rfl rfl)) rfl ?_)
  first | (refine ow_pass rfl rfl rfl (by rfl) rfl ?_) | (refine ow_guard rfl rfl rfl (by rfl) ?_; refine ow_step (r_gt rfl rfl) rfl ?_)
  refine ow_step (r_pick rfl rfl rfl) rfl ?_
  refine ow_nil ?_
  refine ew_next ?_
  refine cw_true rfl ?_
  refine cw_seq ?_
  -- region 2 valise.go:38
  refine cw_region ?_
  refine ow_call en21 rfl (c21 _ _ _) rfl ?_
  rintro e W ⟨b30, rfl, hJ⟩; replace hP := hP.push hJ.old (hJ.ge (i := 0) rfl) (hJ.blk (i := 0) rfl); clear hJ; refine ⟨_, rfl, ?_⟩
  refine ow_step (r_assign rfl) rfl ?_
  refine ow_step (r_assign rfl) rfl ?_
  refine ow_nil ?_
  refine ew_next ?_
  refine cw_ret ?_
  refine ew_then_ret ?_
  refine ew_rets (rs := [(Go.ResultVar.tmp 4), (Go.ResultVar.tmp 5)]) rfl (by simp) (.tmp rfl (.tmp rfl .nil)) ⟨_, rfl, ?_⟩
  exact hP.sub (by simp)

set_option maxRecDepth 100000 in
theorem c23 (b : Nat) (c nm : ByteArray) (w : World) (hb : w.heap[b]? = some (.cells (flt c nm).toArray 131 (0, 0))) : Calls Tryz.prog 23 #[er b] w fun e w' => e = .returned (.tuple #[.int .i64 1, .string c, .string nm]) ∧ Below w.heap.size w w' := by
  have hP := HP.start w
  have hlt : b < w.heap.size := (Array.getElem?_eq_some_iff.1 hb).1
  refine calls_cw Tryz.func23 rfl rfl (by simp) ?_
  refine cw_seq ?_
  -- region 0 valiseplay.go:155
  refine cw_region ?_
  refine ow_step (r_assign rfl) rfl ?_
  refine ow_step (r_assign rfl) rfl ?_
  refine ow_step (r_assign rfl) rfl ?_
  refine ow_nil ?_
  refine ew_next ?_
  refine cw_seq ?_
  refine cw_seq ?_
  -- region 1 valiseplay.go:156
  refine cw_region ?_
  refine ow_step (r_move rfl) rfl ?_
  refine ow_nil ?_
  refine ew_next ?_
  refine cw_block ?_
  refine cw_seq ?_
  -- region 2 valiseplay.go:156
  refine cw_region ?_
  refine ow_step (r_bin (r := .bool false) rfl rfl (fun w => by kernel_rfl)) rfl ?_
  refine ow_nil ?_
  refine ew_next ?_
  refine cw_false rfl ?_
  refine cw_seq ?_
  -- region 5 valiseplay.go:156
  refine cw_region ?_
  refine ow_step (r_assert (r := .tuple #[.pointer (some ⟨b, 0, none⟩), .bool true]) rfl (fun w => by kernel_rfl)) rfl ?_
  refine ow_step (r_extract rfl rfl) rfl ?_
  refine ow_step (r_extract rfl rfl) rfl ?_
  refine ow_nil ?_
  refine ew_next ?_
  refine cw_true rfl ?_
  refine cw_seq ?_
  -- region 6 valiseplay.go:156
  refine cw_region ?_
  refine ow_step (r_assign rfl) rfl ?_
  refine ow_nil ?_
  refine ew_next ?_
  refine cw_seq ?_
  refine cw_seq ?_
  -- region 7 valiseplay.go:160
  refine cw_region ?_
  refine ow_step (r_move rfl) rfl ?_
  refine ow_step (r_bin (r := .bool false) rfl rfl (fun w => by kernel_rfl)) rfl ?_
  refine ow_nil ?_
  refine ew_next ?_
  refine cw_false rfl ?_
  refine cw_skip ?_
  refine ew_next ?_
  refine cw_seq ?_
  -- region 9 DRAWS valiseplay.go:163
  refine cw_quietP hP (by kernel_rfl) (by kernel_rfl) ?_
  refine qw_step (fun w hw => r_move rfl) rfl ?_
  refine qw_step (fun w hw => r_nilCheck rfl) rfl ?_
  refine qw_step (fun w hw => r_fieldAddr rfl fl131_2) rfl ?_
  refine qw_step (fun w1 hw => r_load rfl rfl ((hw.old.cell (p := ⟨b, 2, none⟩) hlt).trans (by simp [World.cell?, hb, flt]; rfl))) rfl ?_
  refine qw_step (fun w hw => r_move rfl) rfl ?_
  refine qw_step (fun w hw => r_nilCheck rfl) rfl ?_
  refine qw_step (fun w hw => r_fieldAddr rfl fl131_0) rfl ?_
  refine qw_step (fun w1 hw => r_load rfl rfl ((hw.old.cell (p := ⟨b, 0, none⟩) hlt).trans (by simp [World.cell?, hb, flt]; rfl))) rfl ?_
  refine qw_step (fun w hw => r_move rfl) rfl ?_
  refine qw_step (fun w hw => r_nilCheck rfl) rfl ?_
  refine qw_step (fun w hw => r_fieldAddr rfl fl131_1) rfl ?_
  refine qw_step (fun w1 hw => r_load rfl rfl ((hw.old.cell (p := ⟨b, 1, none⟩) hlt).trans (by simp [World.cell?, hb, flt]; rfl))) rfl ?_
  refine qw_step (fun w hw => r_assign rfl) rfl ?_
  refine qw_step (fun w hw => r_assign rfl) rfl ?_
  refine qw_step (fun w hw => r_assign rfl) rfl ?_
  clear hP; refine qw_nil (fun W hP => ?_)
  refine ew_next ?_
  refine cw_ret ?_
  refine ew_block_ret ?_
  refine ew_then_ret ?_
  refine ew_rets (rs := [(Go.ResultVar.tmp 2), (Go.ResultVar.tmp 3), (Go.ResultVar.tmp 4)]) rfl (by simp) (.tmp rfl (.tmp rfl (.tmp rfl .nil))) ⟨rfl, hP.old⟩

set_option maxRecDepth 100000 in
theorem c5 (b : Nat) (c nm : ByteArray) (w : World) (hb : w.heap[b]? = some (.cells (flt c nm).toArray 131 (0, 0))) : Calls Tryz.prog 5 #[er b, .int .i64 1, .string c, .string nm] w fun e w' => e = .returned (.bool true) ∧ Below w.heap.size w w' := by
  have hP := HP.start w
  refine calls_cw Tryz.func5 rfl rfl (by simp) ?_
  refine cw_seq ?_
  -- region 0 outright.go:280
  refine cw_region ?_
  refine ow_step (r_assign rfl) rfl ?_
  refine ow_nil ?_
  refine ew_next ?_
  refine cw_seq ?_
  -- region 1 outright.go:281
  refine cw_region ?_
  refine ow_step (r_move rfl) rfl ?_
  refine ow_call en23 rfl (c23 _ _ _ _ hb) rfl ?_
  rintro e W ⟨rfl, hJ⟩; replace hP := hP.below hJ; clear hJ; refine ⟨_, rfl, ?_⟩
  refine ow_step (r_move rfl) rfl ?_
  refine ow_step (r_extract rfl rfl) rfl ?_
  refine ow_step (r_extract rfl rfl) rfl ?_
  refine ow_step (r_extract rfl rfl) rfl ?_
  refine ow_step (r_assign rfl) rfl ?_
  refine ow_step (r_assign rfl) rfl ?_
  refine ow_step (r_assign rfl) rfl ?_
  refine ow_nil ?_
  refine ew_next ?_
  refine cw_seq ?_
  -- region 2 outright.go:282
  refine cw_region ?_
  refine ow_step (r_move rfl) rfl ?_
  refine ow_step (r_move rfl) rfl ?_
  refine ow_step (r_eq rfl rfl) rfl ?_
  refine ow_step (r_move rfl) rfl ?_
  first | (refine ow_pass rfl rfl rfl (by rfl) rfl ?_) | (refine ow_guard rfl rfl rfl (by rfl) ?_; refine ow_step (r_move rfl) rfl ?_)
  first | (refine ow_pass rfl rfl rfl (by rfl) rfl ?_) | (refine ow_guard rfl rfl rfl (by rfl) ?_; refine ow_step (r_move rfl) rfl ?_)
  first | (refine ow_pass rfl rfl rfl (by rfl) rfl ?_) | (refine ow_guard rfl rfl rfl (by rfl) ?_; refine ow_step (r_same rfl rfl) rfl ?_)
  refine ow_step (r_pick rfl rfl rfl) rfl ?_
  refine ow_step (r_move rfl) rfl ?_
  first | (refine ow_pass rfl rfl rfl (by rfl) rfl ?_) | (refine ow_guard rfl rfl rfl (by rfl) ?_; refine ow_step (r_move rfl) rfl ?_)
  first | (refine ow_pass rfl rfl rfl (by rfl) rfl ?_) | (refine ow_guard rfl rfl rfl (by rfl) ?_; refine ow_step (r_move rfl) rfl ?_)
  first | (refine ow_pass rfl rfl rfl (by rfl) rfl ?_) | (refine ow_guard rfl rfl rfl (by rfl) ?_; refine ow_step (r_same rfl rfl) rfl ?_)
  refine ow_step (r_pick rfl rfl rfl) rfl ?_
  refine ow_step (r_assign rfl) rfl ?_
  refine ow_nil ?_
  refine ew_next ?_
  refine cw_ret ?_
  refine ew_ret1 rfl (.tmp rfl .nil) ⟨rfl, hP.old⟩

set_option maxRecDepth 100000 in
theorem c19  (w : World) : Calls Tryz.prog 19 #[.pointer none] w fun e w' => ∃ b, e = .returned (.func (.func 55) #[] #[.pointer (some ⟨b, 0, none⟩)]) ∧ HP w w' [(b, [.slice none 0 0], 76)] := by
  have hP := HP.start w
  refine calls_cw Tryz.func19 rfl rfl (by simp) ?_
  refine cw_seq ?_
  -- region 0 valise.go:100
  refine cw_region ?_
  refine ow_step (r_assign rfl) rfl ?_
  refine ow_nil ?_
  refine ew_next ?_
  refine cw_seq ?_
  -- region 1 valise.go:101
  refine cw_region ?_
  refine ow_alloc (ws := [.slice none 0 0]) hP (by kernel_rfl) rfl ?_
  clear hP; intro b3 W hz hg hP
  refine ow_nil ?_
  refine ew_next ?_
  refine cw_seq ?_
  refine cw_seq ?_
  -- region 2 valise.go:102
  refine cw_region ?_
  refine ow_step (r_move rfl) rfl ?_
  refine ow_call en24 rfl (c24 _ _ _) rfl ?_
  rintro e W ⟨b5, rfl, hJ⟩; replace hP := hP.push hJ.old (hJ.ge (i := 0) rfl) (hJ.blk (i := 0) rfl); clear hJ; refine ⟨_, rfl, ?_⟩
  refine ow_step (r_bin (r := .bool false) rfl rfl (fun w => by kernel_rfl)) rfl ?_
  refine ow_nil ?_
  refine ew_next ?_
  refine cw_false rfl ?_
  refine cw_skip ?_
  refine ew_next ?_
  refine cw_seq ?_
  -- region 4 valise.go:105
  refine cw_region ?_
  refine ow_step (r_mkfunc rfl rfl) rfl ?_
  refine ow_step (r_assign rfl) rfl ?_
  refine ow_nil ?_
  refine ew_next ?_
  refine cw_ret ?_
  refine ew_ret1 rfl (.tmp rfl .nil) ⟨_, rfl, ?_⟩
  exact hP.sub (by simp)

set_option maxRecDepth 100000 in
theorem c20  (w : World) : Calls Tryz.prog 20 #[.pointer none] w fun e w' => e = .returned (.agg #[.int .i64 0, .int .i64 0, .int .i64 0]) ∧ Below w.heap.size w w' := by
  have hP := HP.start w
  refine calls_cw Tryz.func20 rfl rfl (by simp) ?_
  refine cw_seq ?_
  -- region 0 valise.go:61
  refine cw_region ?_
  refine ow_alloc (ws := [.int .i64 0, .int .i64 0, .int .i64 0]) hP (by kernel_rfl) rfl ?_
  clear hP; intro b2 W hz hg hP
  refine ow_nil ?_
  refine ew_next ?_
  refine cw_seq ?_
  refine cw_seq ?_
  -- region 1 valise.go:62
  refine cw_region ?_
  refine ow_step (r_move rfl) rfl ?_
  refine ow_step (r_bin (r := .bool true) rfl rfl (fun w => by kernel_rfl)) rfl ?_
  refine ow_step (r_move rfl) rfl ?_
  first | (refine ow_pass rfl rfl rfl (by rfl) rfl ?_) | (refine ow_guard rfl rfl rfl (by rfl) ?_; refine ow_step (r_move rfl) rfl ?_)
  first | (refine ow_pass rfl rfl rfl (by rfl) rfl ?_) | (refine ow_guard rfl rfl rfl (by rfl) ?_; refine ow_step (r_nilCheck rfl) rfl ?_)
  first | (refine ow_pass rfl rfl rfl (by rfl) rfl ?_) | (refine ow_guard rfl rfl rfl (by rfl) ?_; refine ow_step (r_fieldAddr rfl fl73_3) rfl ?_)
  first | (refine ow_pass rfl rfl rfl (by rfl) rfl ?_) | (refine ow_guard rfl rfl rfl (by rfl) ?_; skip)
  refine ow_step (r_pick rfl rfl rfl) rfl ?_
  refine ow_nil ?_
  refine ew_next ?_
  refine cw_true rfl ?_
  refine cw_seq ?_
  -- region 2 valise.go:63
  refine cw_region ?_
  refine ow_step (r_build (v := .agg #[.int .i64 0, .int .i64 0, .int .i64 0]) rfl (fun w => by kernel_rfl)) rfl ?_
  refine ow_stores hP 0 rfl (ws := [.int .i64 0, .int .i64 0, .int .i64 0]) rfl rfl (by simp [Value.oneCell']) rfl rfl ?_
  clear hP; intro W hg hP; dsimp only [List.set] at hP
  refine ow_nil ?_
  refine ew_next ?_
  refine cw_ret ?_
  refine ew_then_ret ?_
  refine ew_ret1 rfl (.cell _ rfl (run_loadVar_row _ _ 64 64 _ (0, 0) _ (hP.blk (i := 0) rfl) rfl rfl rfl) .nil) ⟨rfl, hP.old⟩

set_option maxRecDepth 100000 in
theorem c55 (l b : Nat) (w : World) (hb : w.heap[b]? = some (.cells #[.slice none 0 0] 76 (0, 0))) : Calls Tryz.prog 55 #[.func (.yield l) #[] #[], .pointer (some ⟨b, 0, none⟩)] w fun e w' => (∃ v, e = .returned v) ∧ w' = w := by
  have hP := HP.start w
  refine calls_cw Tryz.func55 rfl rfl (by simp) ?_
  refine cw_seq ?_
  -- region 0 valise.go:106
  refine cw_region ?_
  refine ow_step (r_load (v := .slice none 0 0) rfl rfl (by simp [World.cell?, hb])) rfl ?_
  refine ow_step (r_len rfl (by rfl) rfl) rfl ?_
  refine ow_step (r_move rfl) rfl ?_
  refine ow_nil ?_
  refine ew_next ?_
  refine cw_block ?_
  refine cw_loop (fun _ : Unit => 0) (fun _ => [(7, .int .i64 0), (6, .int .i64 0)]) (fun _ w' => w' = w) () ⟨rfl, rfl, trivial⟩ rfl ?_
  rintro u W rfl
  · -- round 0
    refine cw_seq ?_
    -- region 1 valise.go:106
    refine cw_region ?_
    refine ow_step (r_lt rfl rfl) rfl ?_
    refine ow_nil ?_
    refine ew_next ?_
    refine cw_seq ?_
    refine cw_false rfl ?_
    refine cw_exit ?_
    refine ew_then_exit ?_
    refine ew_then_exit ?_
    refine ew_block_hit ?_
    refine ew_ret0 rfl ⟨⟨_, rfl⟩, rfl⟩

set_option maxRecDepth 100000 in
theorem c3  (w : World) : Calls Tryz.prog 3 #[] w fun e w' => e = .returned (.bool true) ∧ Below w.heap.size w w' := by
  have hP := HP.start w
  refine callsM_cw (m := 2) Tryz.func3 rfl rfl (by simp) ?_
  refine cw_seq ?_
  -- region 0 outright.go:237
  refine cw_region ?_
  refine ow_alloc (ws := [.bool false]) hP (by kernel_rfl) rfl ?_
  clear hP; intro b0 W hz hg hP
  refine ow_nil ?_
  refine ew_next ?_
  refine cw_seq ?_
  -- region 1 outright.go:238
  refine cw_region ?_
  refine ow_step (r_assign rfl) rfl ?_
  refine ow_nil ?_
  refine ew_next ?_
  refine cw_seq ?_
  -- region 2 outright.go:239
  refine cw_region ?_
  refine ow_step (r_assign rfl) rfl ?_
  refine ow_nil ?_
  refine ew_next ?_
  refine cw_seq ?_
  -- region 3 outright.go:240
  refine cw_region ?_
  refine ow_step (r_move rfl) rfl ?_
  refine ow_step (r_build (v := .agg #[.int .i64 0, .int .i64 0]) rfl (fun w => by kernel_rfl)) rfl ?_
  refine ow_call en4 rfl (c4 _) rfl ?_
  rintro e W ⟨b28, rfl, hJ⟩; replace hP := hP.push hJ.old (hJ.ge (i := 0) rfl) (hJ.blk (i := 0) rfl); clear hJ; refine ⟨_, rfl, ?_⟩
  refine ow_step (r_move rfl) rfl ?_
  refine ow_step (r_extract rfl rfl) rfl ?_
  refine ow_step (r_extract rfl rfl) rfl ?_
  refine ow_step (r_assign rfl) rfl ?_
  refine ow_step (r_assign rfl) rfl ?_
  refine ow_nil ?_
  refine ew_next ?_
  refine cw_seq ?_
  refine cw_seq ?_
  -- region 4 outright.go:241
  refine cw_region ?_
  refine ow_step (r_move rfl) rfl ?_
  refine ow_step (r_bin (r := .bool false) rfl rfl (fun w => by kernel_rfl)) rfl ?_
  refine ow_step (r_move rfl) rfl ?_
  first | (refine ow_pass rfl rfl rfl (by rfl) rfl ?_) | (refine ow_guard rfl rfl rfl (by rfl) ?_; refine ow_step (r_move rfl) rfl ?_)
  refine ow_guard rfl rfl rfl (by rfl) ?_
  refine ow_call en5 rfl (c5 _ _ _ _ (hP.blk (i := 0) rfl)) rfl ?_
  rintro e W ⟨rfl, hJ⟩; replace hP := hP.below hJ; clear hJ; refine ⟨_, rfl, ?_⟩
  first | (refine ow_pass rfl rfl rfl (by rfl) rfl ?_) | (refine ow_guard rfl rfl rfl (by rfl) ?_; refine ow_step (r_not rfl) rfl ?_)
  refine ow_step (r_pick rfl rfl rfl) rfl ?_
  refine ow_nil ?_
  refine ew_next ?_
  refine cw_false rfl ?_
  refine cw_skip ?_
  refine ew_next ?_
  refine cw_seq ?_
  -- region 6 outright.go:244
  refine cw_region ?_
  refine ow_step (r_move rfl) rfl ?_
  refine ow_call en6 rfl (c6 _) rfl ?_
  rintro e W ⟨b40, rfl, hJ⟩; replace hP := hP.push hJ.old (hJ.ge (i := 0) rfl) (hJ.blk (i := 0) rfl); clear hJ; refine ⟨_, rfl, ?_⟩
  refine ow_step (r_move rfl) rfl ?_
  refine ow_step (r_extract rfl rfl) rfl ?_
  refine ow_step (r_extract rfl rfl) rfl ?_
  refine ow_step (r_assign rfl) rfl ?_
  refine ow_step (r_assign rfl) rfl ?_
  refine ow_nil ?_
  refine ew_next ?_
  refine cw_seq ?_
  -- region 7 outright.go:245
  refine cw_region ?_
  refine ow_step (r_move rfl) rfl ?_
  refine ow_call en7 rfl (c7 _ _) rfl ?_
  rintro e W ⟨b45, rfl, hJ⟩; replace hP := hP.push hJ.old (hJ.ge (i := 0) rfl) (hJ.blk (i := 0) rfl); clear hJ; refine ⟨_, rfl, ?_⟩
  refine ow_step (r_move rfl) rfl ?_
  refine ow_step (r_extract rfl rfl) rfl ?_
  refine ow_step (r_extract rfl rfl) rfl ?_
  refine ow_var hP rfl (by kernel_rfl) (by simp [Value.oneCell']) rfl ?_
  clear hP; intro b7 W hz hg hP
  refine ow_step (r_assign rfl) rfl ?_
  refine ow_nil ?_
  refine ew_next ?_
  refine cw_seq ?_
  -- region 8 outright.go:246
  refine cw_region ?_
  refine ow_step (r_move rfl) rfl ?_
  refine ow_call en8 rfl (c8 _ _) rfl ?_
  rintro e W ⟨b50, rfl, hJ⟩; replace hP := hP.push hJ.old (hJ.ge (i := 0) rfl) (hJ.blk (i := 0) rfl); clear hJ; refine ⟨_, rfl, ?_⟩
  refine ow_step (r_move rfl) rfl ?_
  refine ow_step (r_extract rfl rfl) rfl ?_
  refine ow_step (r_extract rfl rfl) rfl ?_
  refine ow_step (r_assign rfl) rfl ?_
  refine ow_step (r_assign rfl) rfl ?_
  refine ow_nil ?_
  refine ew_next ?_
  refine cw_seq ?_
  -- region 9 outright.go:247
  refine cw_region ?_
  refine ow_step (r_move rfl) rfl ?_
  refine ow_call en9 rfl (c9 _) rfl ?_
  rintro e W ⟨b55, rfl, hJ⟩; replace hP := hP.push hJ.old (hJ.ge (i := 0) rfl) (hJ.blk (i := 0) rfl); clear hJ; refine ⟨_, rfl, ?_⟩
  refine ow_step (r_move rfl) rfl ?_
  refine ow_step (r_extract rfl rfl) rfl ?_
  refine ow_step (r_extract rfl rfl) rfl ?_
  refine ow_step (r_assign rfl) rfl ?_
  refine ow_step (r_assign rfl) rfl ?_
  refine ow_nil ?_
  refine ew_next ?_
  refine cw_seq ?_
  -- region 10 outright.go:248
  refine cw_region ?_
  refine ow_step (r_move rfl) rfl ?_
  refine ow_call en10 rfl (c10 _) rfl ?_
  rintro e W ⟨b60, rfl, hJ⟩; replace hP := hP.push hJ.old (hJ.ge (i := 0) rfl) (hJ.blk (i := 0) rfl); clear hJ; refine ⟨_, rfl, ?_⟩
  refine ow_step (r_move rfl) rfl ?_
  refine ow_step (r_extract rfl rfl) rfl ?_
  refine ow_step (r_extract rfl rfl) rfl ?_
  refine ow_step (r_assign rfl) rfl ?_
  refine ow_step (r_assign rfl) rfl ?_
  refine ow_nil ?_
  refine ew_next ?_
  refine cw_seq ?_
  refine cw_seq ?_
  -- region 11 outright.go:249
  refine cw_region ?_
  refine ow_step (r_move rfl) rfl ?_
  refine ow_step (r_len rfl (by rfl) rfl) rfl ?_
  refine ow_step (r_ne rfl rfl) rfl ?_
  refine ow_step (r_move rfl) rfl ?_
  first | (refine ow_pass rfl rfl rfl (by rfl) rfl ?_) | (refine ow_guard rfl rfl rfl (by rfl) ?_; refine ow_step (r_loads (c := [.string ⟨#[]⟩, .int .i64 0, .int .i64 0, .int .i64 0, .int .u32 0, .int .i64 0, .int .i64 0, .int .i64 0, .int .i64 0, .int .i64 0, .int .i64 0, .int .i64 0, .string ⟨#[]⟩]) rfl rfl rfl rfl (hP.cells (i := 3) (o := 0) rfl (fun j u hj => by rw [Nat.zero_add]; exact hj))) rfl ?_)
  first | (refine ow_pass rfl rfl rfl (by rfl) rfl ?_) | (refine ow_guard rfl rfl rfl (by rfl) ?_; refine ow_step (r_build (v := .agg #[.string ⟨#[]⟩, .int .i64 0, .int .i64 0, .int .i64 0, .int .u32 0, .int .i64 0, .int .i64 0, .int .i64 0, .int .i64 0, .int .i64 0, .int .i64 0, .int .i64 0, .string ⟨#[]⟩]) rfl (fun w => by kernel_rfl)) rfl ?_)
  first | (refine ow_pass rfl rfl rfl (by rfl) rfl ?_) | (refine ow_guard rfl rfl rfl (by rfl) ?_; refine ow_step (r_bin (r := .bool false) rfl rfl (fun w => by kernel_rfl)) rfl ?_)
  refine ow_step (r_pick rfl rfl rfl) rfl ?_
  refine ow_step (r_move rfl) rfl ?_
  first | (refine ow_pass rfl rfl rfl (by rfl) rfl ?_) | (refine ow_guard rfl rfl rfl (by rfl) ?_; refine ow_step (r_move rfl) rfl ?_)
  first | (refine ow_pass rfl rfl rfl (by rfl) rfl ?_) | (refine ow_guard rfl rfl rfl (by rfl) ?_; refine ow_step (r_len rfl (by rfl) rfl) rfl ?_)
  first | (refine ow_pass rfl rfl rfl (by rfl) rfl ?_) | (refine ow_guard rfl rfl rfl (by rfl) ?_; refine ow_step (r_ne rfl rfl) rfl ?_)
  refine ow_step (r_pick rfl rfl rfl) rfl ?_
  refine ow_step (r_move rfl) rfl ?_
  first | (refine ow_pass rfl rfl rfl (by rfl) rfl ?_) | (refine ow_guard rfl rfl rfl (by rfl) ?_; refine ow_step (r_move rfl) rfl ?_)
  first | (refine ow_pass rfl rfl rfl (by rfl) rfl ?_) | (refine ow_guard rfl rfl rfl (by rfl) ?_; refine ow_step (r_len rfl (by rfl) rfl) rfl ?_)
  first | (refine ow_pass rfl rfl rfl (by rfl) rfl ?_) | (refine ow_guard rfl rfl rfl (by rfl) ?_; refine ow_step (r_ne rfl rfl) rfl ?_)
  refine ow_step (r_pick rfl rfl rfl) rfl ?_
  refine ow_step (r_move rfl) rfl ?_
  first | (refine ow_pass rfl rfl rfl (by rfl) rfl ?_) | (refine ow_guard rfl rfl rfl (by rfl) ?_; refine ow_step (r_move rfl) rfl ?_)
  first | (refine ow_pass rfl rfl rfl (by rfl) rfl ?_) | (refine ow_guard rfl rfl rfl (by rfl) ?_; refine ow_step (r_ne rfl rfl) rfl ?_)
  refine ow_step (r_pick rfl rfl rfl) rfl ?_
  refine ow_nil ?_
  refine ew_next ?_
  refine cw_false rfl ?_
  refine cw_skip ?_
  refine ew_next ?_
  refine cw_seq ?_
  refine cw_seq ?_
  -- region 13 outright.go:252
  refine cw_region ?_
  refine ow_step (r_move rfl) rfl ?_
  refine ow_call en5 rfl (c5 _ _ _ _ (hP.blk (i := 5) rfl)) rfl ?_
  rintro e W ⟨rfl, hJ⟩; replace hP := hP.below hJ; clear hJ; refine ⟨_, rfl, ?_⟩
  refine ow_step (r_not rfl) rfl ?_
  refine ow_step (r_move rfl) rfl ?_
  first | (refine ow_pass rfl rfl rfl (by rfl) rfl ?_) | (refine ow_guard rfl rfl rfl (by rfl) ?_; refine ow_step (r_move rfl) rfl ?_)
  refine ow_guard rfl rfl rfl (by rfl) ?_
  refine ow_call en5 rfl (c5 _ _ _ _ (hP.blk (i := 4) rfl)) rfl ?_
  rintro e W ⟨rfl, hJ⟩; replace hP := hP.below hJ; clear hJ; refine ⟨_, rfl, ?_⟩
  first | (refine ow_pass rfl rfl rfl (by rfl) rfl ?_) | (refine ow_guard rfl rfl rfl (by rfl) ?_; refine ow_step (r_not rfl) rfl ?_)
  refine ow_step (r_pick rfl rfl rfl) rfl ?_
  refine ow_step (r_move rfl) rfl ?_
  first | (refine ow_pass rfl rfl rfl (by rfl) rfl ?_) | (refine ow_guard rfl rfl rfl (by rfl) ?_; refine ow_step (r_move rfl) rfl ?_)
  refine ow_guard rfl rfl rfl (by rfl) ?_
  refine ow_call en5 rfl (c5 _ _ _ _ (hP.blk (i := 2) rfl)) rfl ?_
  rintro e W ⟨rfl, hJ⟩; replace hP := hP.below hJ; clear hJ; refine ⟨_, rfl, ?_⟩
  first | (refine ow_pass rfl rfl rfl (by rfl) rfl ?_) | (refine ow_guard rfl rfl rfl (by rfl) ?_; refine ow_step (r_not rfl) rfl ?_)
  refine ow_step (r_pick rfl rfl rfl) rfl ?_
  refine ow_step (r_move rfl) rfl ?_
  first | (refine ow_pass rfl rfl rfl (by rfl) rfl ?_) | (refine ow_guard rfl rfl rfl (by rfl) ?_; refine ow_step (r_move rfl) rfl ?_)
  refine ow_guard rfl rfl rfl (by rfl) ?_
  refine ow_call en5 rfl (c5 _ _ _ _ (hP.blk (i := 1) rfl)) rfl ?_
  rintro e W ⟨rfl, hJ⟩; replace hP := hP.below hJ; clear hJ; refine ⟨_, rfl, ?_⟩
  first | (refine ow_pass rfl rfl rfl (by rfl) rfl ?_) | (refine ow_guard rfl rfl rfl (by rfl) ?_; refine ow_step (r_not rfl) rfl ?_)
  refine ow_step (r_pick rfl rfl rfl) rfl ?_
  refine ow_step (r_move rfl) rfl ?_
  first | (refine ow_pass rfl rfl rfl (by rfl) rfl ?_) | (refine ow_guard rfl rfl rfl (by rfl) ?_; refine ow_step (r_move rfl) rfl ?_)
  refine ow_guard rfl rfl rfl (by rfl) ?_
  refine ow_call en5 rfl (c5 _ _ _ _ (hP.blk (i := 0) rfl)) rfl ?_
  rintro e W ⟨rfl, hJ⟩; replace hP := hP.below hJ; clear hJ; refine ⟨_, rfl, ?_⟩
  first | (refine ow_pass rfl rfl rfl (by rfl) rfl ?_) | (refine ow_guard rfl rfl rfl (by rfl) ?_; refine ow_step (r_not rfl) rfl ?_)
  refine ow_step (r_pick rfl rfl rfl) rfl ?_
  refine ow_nil ?_
  refine ew_next ?_
  refine cw_false rfl ?_
  refine cw_skip ?_
  refine ew_next ?_
  refine cw_seq ?_
  -- region 15 outright.go:255
  refine cw_region ?_
  refine ow_step (r_move rfl) rfl ?_
  refine ow_step (r_build (v := .agg #[.int .i64 0, .int .i64 0, .int .i64 0, .int .i64 0, .int .i64 0, .int .i64 0, .int .i64 0, .int .i64 0, .int .i64 0, .string ⟨#[]⟩]) rfl (fun w => by kernel_rfl)) rfl ?_
  refine ow_call en11 rfl (c11 _ _ _ _) rfl ?_
  rintro e W ⟨b110, rfl, hJ⟩; replace hP := hP.push hJ.old (hJ.ge (i := 0) rfl) (hJ.blk (i := 0) rfl); clear hJ; refine ⟨_, rfl, ?_⟩
  refine ow_step (r_assign rfl) rfl ?_
  refine ow_nil ?_
  refine ew_next ?_
  refine cw_seq ?_
  -- region 16 outright.go:256
  refine cw_region ?_
  refine ow_step (r_move rfl) rfl ?_
  refine ow_call en12 rfl (c12 _ _) rfl ?_
  rintro e W ⟨b112, rfl, hJ⟩; replace hP := hP.push hJ.old (hJ.ge (i := 0) rfl) (hJ.blk (i := 0) rfl); clear hJ; refine ⟨_, rfl, ?_⟩
  refine ow_step (r_assign rfl) rfl ?_
  refine ow_nil ?_
  refine ew_next ?_
  refine cw_seq ?_
  -- region 17 outright.go:257
  refine cw_region ?_
  refine ow_step (r_move rfl) rfl ?_
  refine ow_call en13 rfl (c13 _ _ _) rfl ?_
  rintro e W ⟨b114, rfl, hJ⟩; replace hP := hP.push hJ.old (hJ.ge (i := 0) rfl) (hJ.blk (i := 0) rfl); clear hJ; refine ⟨_, rfl, ?_⟩
  refine ow_step (r_assign rfl) rfl ?_
  refine ow_nil ?_
  refine ew_next ?_
  refine cw_seq ?_
  -- region 18 outright.go:258
  refine cw_region ?_
  refine ow_step (r_move rfl) rfl ?_
  refine ow_call en14 rfl (c14 _) rfl ?_
  rintro e W ⟨b116, rfl, hJ⟩; replace hP := hP.push hJ.old (hJ.ge (i := 0) rfl) (hJ.blk (i := 0) rfl); clear hJ; refine ⟨_, rfl, ?_⟩
  refine ow_step (r_assign rfl) rfl ?_
  refine ow_nil ?_
  refine ew_next ?_
  refine cw_seq ?_
  -- region 19 outright.go:259
  refine cw_region ?_
  refine ow_step (r_move rfl) rfl ?_
  refine ow_call en15 rfl (c15 _) rfl ?_
  rintro e W ⟨b118, rfl, hJ⟩; replace hP := hP.push hJ.old (hJ.ge (i := 0) rfl) (hJ.blk (i := 0) rfl); clear hJ; refine ⟨_, rfl, ?_⟩
  refine ow_step (r_assign rfl) rfl ?_
  refine ow_nil ?_
  refine ew_next ?_
  refine cw_seq ?_
  -- region 20 outright.go:260
  refine cw_region ?_
  refine ow_step (r_move rfl) rfl ?_
  refine ow_step (r_build (v := .agg #[.int .i64 0, .string ⟨#[120]⟩, .string ⟨#[]⟩, .slice none 0 0, .int .i64 0, .int .i64 0, .int .i64 0, .int .i64 0, .int .i64 0, .int .i64 0, .int .i64 0, .int .i64 0, .int .i64 0, .string ⟨#[]⟩]) rfl (fun w => by kernel_rfl)) rfl ?_
  refine ow_buildSlice hP (ws := [.int .i64 0, .string ⟨#[120]⟩, .string ⟨#[]⟩, .slice none 0 0, .int .i64 0, .int .i64 0, .int .i64 0, .int .i64 0, .int .i64 0, .int .i64 0, .int .i64 0, .int .i64 0, .int .i64 0, .string ⟨#[]⟩]) (e := 57) rfl (fun w => by kernel_rfl) rfl ?_
  clear hP; intro b121 W hz hg hP
  refine ow_call en16 rfl (c16 _ _) rfl ?_
  rintro e W ⟨b122, rfl, hJ⟩; replace hP := hP.push hJ.old (hJ.ge (i := 0) rfl) (hJ.blk (i := 0) rfl); clear hJ; refine ⟨_, rfl, ?_⟩
  refine ow_step (r_assign rfl) rfl ?_
  refine ow_nil ?_
  refine ew_next ?_
  refine cw_seq ?_
  -- region 21 outright.go:261
  refine cw_region ?_
  refine ow_step (r_move rfl) rfl ?_
  refine ow_call en17 rfl (c17 _ _) rfl ?_
  rintro e W ⟨b124, rfl, hJ⟩; replace hP := hP.push hJ.old (hJ.ge (i := 0) rfl) (hJ.blk (i := 0) rfl); clear hJ; refine ⟨_, rfl, ?_⟩
  refine ow_step (r_assign rfl) rfl ?_
  refine ow_nil ?_
  refine ew_next ?_
  refine cw_seq ?_
  -- region 22 outright.go:262
  refine cw_region ?_
  refine ow_step (r_move rfl) rfl ?_
  refine ow_call en18 rfl (c18 _) rfl ?_
  rintro e W ⟨b127, rfl, hJ⟩; replace hP := hP.push hJ.old (hJ.ge (i := 0) rfl) (hJ.blk (i := 0) rfl); clear hJ; refine ⟨_, rfl, ?_⟩
  refine ow_step (r_move rfl) rfl ?_
  refine ow_step (r_extract rfl rfl) rfl ?_
  refine ow_step (r_extract rfl rfl) rfl ?_
  refine ow_step (r_assign rfl) rfl ?_
  refine ow_step (r_assign rfl) rfl ?_
  refine ow_nil ?_
  refine ew_next ?_
  refine cw_seq ?_
  refine cw_seq ?_
  -- region 23 outright.go:263
  refine cw_region ?_
  refine ow_step (r_move rfl) rfl ?_
  refine ow_step (r_bin (r := .bool false) rfl rfl (fun w => by kernel_rfl)) rfl ?_
  refine ow_step (r_move rfl) rfl ?_
  first | (refine ow_pass rfl rfl rfl (by rfl) rfl ?_) | (refine ow_guard rfl rfl rfl (by rfl) ?_; refine ow_step (r_move rfl) rfl ?_)
  refine ow_guard rfl rfl rfl (by rfl) ?_
  refine ow_call en5 rfl (c5 _ _ _ _ (hP.blk (i := 2) rfl)) rfl ?_
  rintro e W ⟨rfl, hJ⟩; replace hP := hP.below hJ; clear hJ; refine ⟨_, rfl, ?_⟩
  first | (refine ow_pass rfl rfl rfl (by rfl) rfl ?_) | (refine ow_guard rfl rfl rfl (by rfl) ?_; refine ow_step (r_not rfl) rfl ?_)
  refine ow_step (r_pick rfl rfl rfl) rfl ?_
  refine ow_step (r_move rfl) rfl ?_
  first | (refine ow_pass rfl rfl rfl (by rfl) rfl ?_) | (refine ow_guard rfl rfl rfl (by rfl) ?_; refine ow_step (r_move rfl) rfl ?_)
  refine ow_guard rfl rfl rfl (by rfl) ?_
  refine ow_call en5 rfl (c5 _ _ _ _ (hP.blk (i := 1) rfl)) rfl ?_
  rintro e W ⟨rfl, hJ⟩; replace hP := hP.below hJ; clear hJ; refine ⟨_, rfl, ?_⟩
  first | (refine ow_pass rfl rfl rfl (by rfl) rfl ?_) | (refine ow_guard rfl rfl rfl (by rfl) ?_; refine ow_step (r_not rfl) rfl ?_)
  refine ow_step (r_pick rfl rfl rfl) rfl ?_
  refine ow_step (r_move rfl) rfl ?_
  first | (refine ow_pass rfl rfl rfl (by rfl) rfl ?_) | (refine ow_guard rfl rfl rfl (by rfl) ?_; refine ow_step (r_move rfl) rfl ?_)
  refine ow_guard rfl rfl rfl (by rfl) ?_
  refine ow_call en5 rfl (c5 _ _ _ _ (hP.blk (i := 0) rfl)) rfl ?_
  rintro e W ⟨rfl, hJ⟩; replace hP := hP.below hJ; clear hJ; refine ⟨_, rfl, ?_⟩
  first | (refine ow_pass rfl rfl rfl (by rfl) rfl ?_) | (refine ow_guard rfl rfl rfl (by rfl) ?_; refine ow_step (r_not rfl) rfl ?_)
  refine ow_step (r_pick rfl rfl rfl) rfl ?_
  refine ow_nil ?_
  refine ew_next ?_
  refine cw_false rfl ?_
  refine cw_skip ?_
  refine ew_next ?_
  refine cw_seq ?_
  refine cw_seq ?_
  -- region 25 outright.go:266
  refine cw_region ?_
  refine ow_step (r_move rfl) rfl ?_
  refine ow_call en5 rfl (c5 _ _ _ _ (hP.blk (i := 8) rfl)) rfl ?_
  rintro e W ⟨rfl, hJ⟩; replace hP := hP.below hJ; clear hJ; refine ⟨_, rfl, ?_⟩
  refine ow_step (r_not rfl) rfl ?_
  refine ow_step (r_move rfl) rfl ?_
  first | (refine ow_pass rfl rfl rfl (by rfl) rfl ?_) | (refine ow_guard rfl rfl rfl (by rfl) ?_; refine ow_step (r_move rfl) rfl ?_)
  refine ow_guard rfl rfl rfl (by rfl) ?_
  refine ow_call en5 rfl (c5 _ _ _ _ (hP.blk (i := 7) rfl)) rfl ?_
  rintro e W ⟨rfl, hJ⟩; replace hP := hP.below hJ; clear hJ; refine ⟨_, rfl, ?_⟩
  first | (refine ow_pass rfl rfl rfl (by rfl) rfl ?_) | (refine ow_guard rfl rfl rfl (by rfl) ?_; refine ow_step (r_not rfl) rfl ?_)
  refine ow_step (r_pick rfl rfl rfl) rfl ?_
  refine ow_step (r_move rfl) rfl ?_
  first | (refine ow_pass rfl rfl rfl (by rfl) rfl ?_) | (refine ow_guard rfl rfl rfl (by rfl) ?_; refine ow_step (r_move rfl) rfl ?_)
  refine ow_guard rfl rfl rfl (by rfl) ?_
  refine ow_call en5 rfl (c5 _ _ _ _ (hP.blk (i := 6) rfl)) rfl ?_
  rintro e W ⟨rfl, hJ⟩; replace hP := hP.below hJ; clear hJ; refine ⟨_, rfl, ?_⟩
  first | (refine ow_pass rfl rfl rfl (by rfl) rfl ?_) | (refine ow_guard rfl rfl rfl (by rfl) ?_; refine ow_step (r_not rfl) rfl ?_)
  refine ow_step (r_pick rfl rfl rfl) rfl ?_
  refine ow_step (r_move rfl) rfl ?_
  first | (refine ow_pass rfl rfl rfl (by rfl) rfl ?_) | (refine ow_guard rfl rfl rfl (by rfl) ?_; refine ow_step (r_move rfl) rfl ?_)
  refine ow_guard rfl rfl rfl (by rfl) ?_
  refine ow_call en5 rfl (c5 _ _ _ _ (hP.blk (i := 5) rfl)) rfl ?_
  rintro e W ⟨rfl, hJ⟩; replace hP := hP.below hJ; clear hJ; refine ⟨_, rfl, ?_⟩
  first | (refine ow_pass rfl rfl rfl (by rfl) rfl ?_) | (refine ow_guard rfl rfl rfl (by rfl) ?_; refine ow_step (r_not rfl) rfl ?_)
  refine ow_step (r_pick rfl rfl rfl) rfl ?_
  refine ow_step (r_move rfl) rfl ?_
  first | (refine ow_pass rfl rfl rfl (by rfl) rfl ?_) | (refine ow_guard rfl rfl rfl (by rfl) ?_; refine ow_step (r_move rfl) rfl ?_)
  refine ow_guard rfl rfl rfl (by rfl) ?_
  refine ow_call en5 rfl (c5 _ _ _ _ (hP.blk (i := 4) rfl)) rfl ?_
  rintro e W ⟨rfl, hJ⟩; replace hP := hP.below hJ; clear hJ; refine ⟨_, rfl, ?_⟩
  first | (refine ow_pass rfl rfl rfl (by rfl) rfl ?_) | (refine ow_guard rfl rfl rfl (by rfl) ?_; refine ow_step (r_not rfl) rfl ?_)
  refine ow_step (r_pick rfl rfl rfl) rfl ?_
  refine ow_nil ?_
  refine ew_next ?_
  refine cw_false rfl ?_
  refine cw_skip ?_
  refine ew_next ?_
  refine cw_seq ?_
  -- region 27 outright.go:269
  refine cw_region ?_
  refine ow_step (r_move rfl) rfl ?_
  refine ow_call en19 rfl (c19 _) rfl ?_
  rintro e W ⟨b171, rfl, hJ⟩; replace hP := hP.push hJ.old (hJ.ge (i := 0) rfl) (hJ.blk (i := 0) rfl); clear hJ; refine ⟨_, rfl, ?_⟩
  refine ow_step (r_assign rfl) rfl ?_
  refine ow_nil ?_
  refine ew_next ?_
  refine cw_seq ?_
  refine cw_seq ?_
  -- region 28 outright.go:270
  refine cw_region ?_
  refine ow_step (r_move rfl) rfl ?_
  refine ow_step (r_bin (r := .bool false) rfl rfl (fun w => by kernel_rfl)) rfl ?_
  refine ow_nil ?_
  refine ew_next ?_
  refine cw_false rfl ?_
  refine cw_skip ?_
  refine ew_next ?_
  refine cw_seq ?_
  refine cw_seq ?_
  -- region 30 outright.go:273
  refine cw_region ?_
  refine ow_step (r_move rfl) rfl ?_
  refine ow_nil ?_
  refine ew_next ?_
  refine cw_block ?_
  refine cw_range0 rfl en55 rfl (fun l W hW => c55 l _ W ((hW.block _ (hP.lt (i := 0) rfl)).trans (hP.blk (i := 0) rfl))) ?_
  intro D W hB hD hK; have hD2 := Nat.le_trans hP.old.size hD; replace hP := hP.below hB; clear hB hD
  refine ew_block ?_
  refine ew_next ?_
  refine cw_seq ?_
  -- region 32 outright.go:276
  refine cw_region ?_
  refine ow_step (r_move rfl) rfl ?_
  refine ow_call en20 rfl (c20 _) rfl ?_
  rintro e W ⟨rfl, hJ⟩; replace hP := hP.below hJ; replace hK := (hJ.block _ (Array.getElem?_eq_some_iff.1 hK).1).trans hK; clear hJ; refine ⟨_, rfl, ?_⟩
  refine ow_step (r_build (v := .agg #[.int .i64 0, .int .i64 0, .int .i64 0]) rfl (fun w => by kernel_rfl)) rfl ?_
  refine ow_step (r_bin (r := .bool true) rfl rfl (fun w => by kernel_rfl)) rfl ?_
  have hne : D ≠ b0 := fun e => by rw [e, hP.blk (i := 17) rfl] at hK; cases hK
  refine ow_store hP 17 rfl (by simp) rfl rfl rfl rfl rfl ?_
  clear hP; intro W hg hP; dsimp only [List.set] at hP
  have hK := (hg.block D (Array.getElem?_eq_some_iff.1 hK).1 (fun e => hne (by cases e; rfl))).trans hK
  refine ow_nil ?_
  refine ew_next ?_
  refine cw_ret ?_
  have hx : (W.putObj D (.deferred none)).cell? ⟨b0, 0, none⟩ = some (.bool true) := by
    have := hP.cell (i := 17) (o := 0) rfl rfl
    rw [← this]
    exact World.cell?_of_block (World.putObj_heap_other (fun e => hne e.symm))
  refine ew_retM hK rfl (.cell _ rfl (l_load rfl hx) .nil) ⟨rfl, hP.old.trans (belowK_b (w := w) (Nat.le_refl _) W D _ _ hD2 hK rfl rfl)⟩
end Go.Proofs.YtiakkaolnlhffadGreatDoor.Nl
