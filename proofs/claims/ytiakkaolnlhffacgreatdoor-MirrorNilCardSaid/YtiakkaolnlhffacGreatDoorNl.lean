/- Own walk: MirrorNil, by lemmas on closed values. -/
import Derived.Test.YtiakkaolnlhffacGreatDoorSx
import Derived.Laws.Pointers
import Derived.Laws.Build
import Derived.Test.YtiakkaolnlhffacGreatDoorAs
namespace Go.Proofs.YtiakkaolnlhffacGreatDoor.Nl
open Go.RowKit Go.Proofs.YtiakkaolnlhffacGreatDoor.Sx
set_option linter.unusedVariables false
set_option linter.unusedSimpArgs false
def flt (c nm : ByteArray) : List Value := [.string c, .string nm, .int .i64 1]
def er (b : Nat) : Value := .iface 56 (.pointer (some ⟨b, 0, none⟩))
section
variable {P : Program} {n : Fr} {sl : List (Nat × Value)} {w : World} {dst : Option Tmp} {ty t t2 xT : TypeId} {pos : String} {aft : Array Edge} {g : Option (Nat × Bool)} {u v r : Value} {x y : Operand}
theorem r_bin {op : BinOp} (hx : sv sl x = some u) (hy : sv sl y = some v) (hb : ∀ w, ((do eqGuard op t x y u v; binOp op t u v : Sem Value)).run P w = .ok r w) : Runs P ⟨dst, .binOp op t x y t2, ty, pos, aft, g⟩ n sl w r w := fun f hf => by
  have h : (execOp f.eval ⟨dst, .binOp op t x y t2, ty, pos, aft, g⟩ : Sem Next) = (do let z ← (do eqGuard op t x y u v; binOp op t u v : Sem Value); pure (.value z)) := by
    simp only [execOp, hf.ev hx, hf.ev hy]
  rw [h, Sem.run_bind, hb]
  rfl
theorem r_mki (hx : sv sl x = some u) (hb : ∀ w, (Instr.makeInterface t u).run P w = .ok r w) : Runs P ⟨dst, .makeInterface t x, ty, pos, aft, g⟩ n sl w r w := fun f hf => by
  simp only [execOp, hf.ev hx]
  rw [Sem.run_bind, hb]
  rfl
theorem r_assert {k : Bool} (hx : sv sl x = some u) (hb : ∀ w, (Instr.typeAssert u xT t k).run P w = .ok r w) : Runs P ⟨dst, .typeAssert x xT t k, ty, pos, aft, g⟩ n sl w r w := fun f hf => by
  simp only [execOp, hf.ev hx]
  rw [Sem.run_bind, hb]
  rfl
theorem r_nilCheck {a : Addr} (hx : sv sl x = some (.pointer (some a))) : Runs P ⟨dst, .nilCheck x, ty, pos, aft, g⟩ n sl w (.pointer (some a)) w := fun f hf => by
  simp only [execOp, hf.ev hx]
  rfl
theorem r_mkfunc {fn : Fn} {pa cs : Array Operand} {vs us : List Value} (ha : svs sl pa.toList = some vs) (hc : svs sl cs.toList = some us) : Runs P ⟨dst,   .makeFunc fn pa cs, ty, pos, aft, g⟩ n sl w (.func fn vs.toArray us.toArray) w := fun f hf => by
  have h1 := hf.evs ha
  have h2 := hf.evs hc
  have e1 : pa.map f.eval = vs.toArray := by rw [← h1]; apply Array.ext'; simp
  have e2 : cs.map f.eval = us.toArray := by rw [← h2]; apply Array.ext'; simp
  simp only [execOp, e1, e2]
  rfl
theorem l_load {ad : Addr} (h1 : one P t = true) (hc : w.cell? ad = some v) : (loadVar t ad).run P w = .ok v w := by
  unfold one at h1
  cases hu : P.underlying t with
  | none => rw [hu] at h1; cases h1
  | some d =>
    rw [hu] at h1
    have : (isAgg t).run P w = .ok false w := by
      simp only [isAgg, Sem.run_bind, run_underlying hu, Result.andThen_ok]
      cases d <;> simp_all
    simp [loadVar, this, run_load, hc]
theorem r_same {s : ByteArray} (hx : sv sl x = some (.string s)) (hy : sv sl y = some (.string s)) : Runs P ⟨dst, .binOp .eql t x y t2, ty, pos, aft, g⟩ n sl w (.bool true) w := by
  have h := r_seq (P := P) (n := n) (w := w) (dst := dst) (ty := ty) (t := t) (t2 := t2) (pos := pos) (aft := aft) (g := g) hx hy
  simpa using h
end
theorem asHit (e t : Addr) (old : Value) (w : World) (hg : w.cell? ⟨0, 0, none⟩ = some (.iface 180 (.agg #[.pointer (some ⟨16, 26, none⟩)]))) (ht0 : w.cell? t = some old) (hf0 : w.frozen? t = false) :
    Calls Tryz.prog 23 #[.iface 56 (.pointer (some e)), .iface 82 (.pointer (some t))] w fun ev w' => ev = .returned (.bool true) ∧ ∃ o1 o2 o3 o4, w' = ((((w.alloc o1).alloc o2).alloc o3).alloc o4).setCell t (.pointer (some e)) :=
  (As.as_hit e t old w hg ht0 hf0).mono fun ev w' ⟨a, b⟩ => ⟨a, _, _, _, _, b⟩
theorem fl58_0 : fld Tryz.prog 58 0 = some (0, 9, 1) := by kernel_rfl
theorem fl58_1 : fld Tryz.prog 58 1 = some (1, 9, 1) := by kernel_rfl
theorem fl58_2 : fld Tryz.prog 58 2 = some (2, 54, 1) := by kernel_rfl
theorem en4 : Enters Tryz.prog 4 := fun args w => by kernel_rfl
theorem en5 : Enters Tryz.prog 5 := fun args w => by kernel_rfl
theorem en6 : Enters Tryz.prog 6 := fun args w => by kernel_rfl
theorem en7 : Enters Tryz.prog 7 := fun args w => by kernel_rfl
theorem en8 : Enters Tryz.prog 8 := fun args w => by kernel_rfl
theorem en9 : Enters Tryz.prog 9 := fun args w => by kernel_rfl
theorem en19 : Enters Tryz.prog 19 := fun args w => by kernel_rfl
theorem en20 : Enters Tryz.prog 20 := fun args w => by kernel_rfl
theorem en23 : Enters Tryz.prog 23 := fun args w => by kernel_rfl
theorem en27 : Enters Tryz.prog 27 := fun args w => by kernel_rfl
set_option maxRecDepth 100000 in
theorem c27 (c nm : ByteArray) (w : World) : Calls Tryz.prog 27 #[.string c, .string nm, .int .i64 1] w fun e w' => ∃ b, e = .returned (er b) ∧ HP w w' [(b, flt c nm, 58)] := by
  have hP := HP.start w
  refine calls_cw Tryz.func27 rfl rfl (by simp) ?_
  refine cw_seq ?_
  -- region 0 valise.go:28
  refine cw_region ?_
  refine ow_step (r_assign rfl) rfl ?_
  refine ow_nil ?_
  refine ew_next ?_
  refine cw_seq ?_
  refine cw_seq ?_
  -- region 1 valise.go:29
  refine cw_region ?_
  refine ow_step (r_move rfl) rfl ?_
  refine ow_step (r_eq rfl rfl) rfl ?_
  refine ow_nil ?_
  refine ew_next ?_
  refine cw_false rfl ?_
  refine cw_skip ?_
  refine ew_next ?_
  refine cw_seq ?_
  -- region 3 valise.go:32
  refine cw_region ?_
  refine ow_step (r_move rfl) rfl ?_
  refine ow_step (r_move rfl) rfl ?_
  refine ow_step (r_move rfl) rfl ?_
  refine ow_step (r_build (v := .agg (flt c nm).toArray) rfl (fun w => by kernel_rfl)) rfl ?_
  refine ow_box hP rfl rfl rfl ?_
  clear hP; intro b13 W hz hg hP
  refine ow_step (r_mki (r := er b13) rfl (fun w => by kernel_rfl)) rfl ?_
  refine ow_step (r_assign rfl) rfl ?_
  refine ow_nil ?_
  refine ew_next ?_
  refine cw_ret ?_
  refine ew_ret1 rfl (.tmp rfl .nil) ⟨_, rfl, ?_⟩
  exact hP.sub (by simp)

set_option maxRecDepth 100000 in
theorem c20 (c nm : ByteArray) (w : World) : Calls Tryz.prog 20 #[.pointer none, .string c, .string nm] w fun e w' => ∃ b, e = .returned (er b) ∧ HP w w' [(b, flt c nm, 58)] := by
  have hP := HP.start w
  refine calls_cw Tryz.func20 rfl rfl (by simp) ?_
  refine cw_seq ?_
  -- region 0 valise.go:48
  refine cw_region ?_
  refine ow_step (r_assign rfl) rfl ?_
  refine ow_nil ?_
  refine ew_next ?_
  refine cw_seq ?_
  refine cw_block ?_
  refine cw_seq ?_
  -- region 1 valise.go:50
  refine cw_region ?_
  refine ow_step (r_move rfl) rfl ?_
  refine ow_step (r_bin (r := .bool true) rfl rfl (fun w => by kernel_rfl)) rfl ?_
  refine ow_step (r_assign rfl) rfl ?_
  refine ow_nil ?_
  refine ew_next ?_
  refine cw_true rfl ?_
  refine cw_seq ?_
  -- region 2 valise.go:51
  refine cw_region ?_
  refine ow_step (r_move rfl) rfl ?_
  refine ow_step (r_move rfl) rfl ?_
  refine ow_call en27 rfl (c27 _ _ _) rfl ?_
  rintro e W ⟨b12, rfl, hJ⟩; replace hP := hP.push hJ.old (hJ.ge (i := 0) rfl) (hJ.blk (i := 0) rfl); clear hJ; refine ⟨_, rfl, ?_⟩
  refine ow_step (r_assign rfl) rfl ?_
  refine ow_nil ?_
  refine ew_next ?_
  refine cw_ret ?_
  refine ew_block_ret ?_
  refine ew_then_ret ?_
  refine ew_ret1 rfl (.tmp rfl .nil) ⟨_, rfl, ?_⟩
  exact hP.sub (by simp)

set_option maxRecDepth 100000 in
theorem c8  (w : World) : Calls Tryz.prog 8 #[.pointer none] w fun e w' => ∃ b, e = .returned (.tuple #[.slice none 0 0, er b]) ∧ HP w w' [(b, flt ⟨#[108, 105, 115, 116]⟩ ⟨#[]⟩, 58)] := by
  have hP := HP.start w
  refine calls_cw Tryz.func8 rfl rfl (by simp) ?_
  refine cw_seq ?_
  -- region 0 valise.go:88
  refine cw_region ?_
  refine ow_step (r_assign rfl) rfl ?_
  refine ow_step (r_assign rfl) rfl ?_
  refine ow_nil ?_
  refine ew_next ?_
  refine cw_seq ?_
  refine cw_seq ?_
  -- region 1 valise.go:89
  refine cw_region ?_
  refine ow_step (r_move rfl) rfl ?_
  refine ow_call en20 rfl (c20 _ _ _) rfl ?_
  rintro e W ⟨b9, rfl, hJ⟩; replace hP := hP.push hJ.old (hJ.ge (i := 0) rfl) (hJ.blk (i := 0) rfl); clear hJ; refine ⟨_, rfl, ?_⟩
  refine ow_step (r_assign rfl) rfl ?_
  refine ow_nil ?_
  refine ew_next ?_
  refine cw_seq ?_
  -- region 2 valise.go:89
  refine cw_region ?_
  refine ow_step (r_move rfl) rfl ?_
  refine ow_step (r_bin (r := .bool true) rfl rfl (fun w => by kernel_rfl)) rfl ?_
  refine ow_nil ?_
  refine ew_next ?_
  refine cw_true rfl ?_
  refine cw_seq ?_
  -- region 3 valise.go:90
  refine cw_region ?_
  refine ow_step (r_move rfl) rfl ?_
  refine ow_step (r_assign rfl) rfl ?_
  refine ow_step (r_assign rfl) rfl ?_
  refine ow_nil ?_
  refine ew_next ?_
  refine cw_ret ?_
  refine ew_then_ret ?_
  refine ew_rets (rs := [(Go.ResultVar.tmp 2), (Go.ResultVar.tmp 3)]) rfl (by simp) (.tmp rfl (.tmp rfl .nil)) ⟨_, rfl, ?_⟩
  exact hP.sub (by simp)

set_option maxRecDepth 100000 in
theorem c9 (c c0 nm : ByteArray) (b0 : Nat) (w : World) (hE : w.cell? ⟨0, 0, none⟩ = some (.iface 180 (.agg #[.pointer (some ⟨16, 26, none⟩)]))) (hb : w.heap[b0]? = some (.cells (flt c0 nm).toArray 58 (0, 0))) : Calls Tryz.prog 9 #[.string c, er b0] w fun e w' => ∃ b, e = .returned (er b) ∧ HP w w' [(b, flt c nm, 58)] := by
  have hP := HP.start w
  have hlt : b0 < w.heap.size := (Array.getElem?_eq_some_iff.1 hb).1
  have h0 : 0 < w.heap.size := by
    rcases Nat.eq_zero_or_pos w.heap.size with h | h
    · rw [h] at hlt; omega
    · exact h
  refine calls_cw Tryz.func9 rfl rfl (by simp) ?_
  refine cw_seq ?_
  -- region 0 mirror.go:106
  refine cw_region ?_
  refine ow_step (r_assign rfl) rfl ?_
  refine ow_nil ?_
  refine ew_next ?_
  refine cw_seq ?_
  -- region 1 mirror.go:107
  refine cw_region ?_
  refine ow_alloc (ws := [.pointer none]) hP (by kernel_rfl) rfl ?_
  clear hP; intro b5 W hz hg hP
  refine ow_nil ?_
  refine ew_next ?_
  refine cw_seq ?_
  refine cw_seq ?_
  -- region 2 mirror.go:108
  refine cw_region ?_
  refine ow_step (r_move rfl) rfl ?_
  refine ow_step (r_mki (r := .iface 82 (.pointer (some ⟨b5, 0, none⟩))) rfl (fun w => by kernel_rfl)) rfl ?_
  refine ow_call en23 rfl (asHit ⟨b0, 0, none⟩ ⟨b5, 0, none⟩ (.pointer none) _ ((hP.old.cell (p := ⟨0, 0, none⟩) h0).trans hE) (hP.cell (i := 0) rfl rfl) (hP.free (i := 0) rfl 0)) rfl ?_
  rintro e W' ⟨rfl, o1, o2, o3, o4, rfl⟩
  refine ⟨_, rfl, ?_⟩
  have hB : Below W.heap.size W ((((W.alloc o1).alloc o2).alloc o3).alloc o4) := ((((Below.refl _ W).alloc (Nat.le_refl _) _).alloc (by simp) _).alloc (by simp; omega) _).alloc (by simp; omega) _
  replace hP := (hP.below hB).set (i := 0) rfl 0 (.pointer (some ⟨b0, 0, none⟩))
  dsimp only [List.set] at hP
  generalize World.setCell _ _ _ = W at hP ⊢
  refine ow_nil ?_
  refine ew_next ?_
  refine cw_true rfl ?_
  refine cw_seq ?_
  -- region 3 DRAWS mirror.go:109
  refine cw_heldP hP (by kernel_rfl) (fun hP => ?_)
  refine hw_take 0 rfl rfl rfl (by kernel_rfl) (by kernel_rfl) (by kernel_rfl) (by repeat (first | exact mild_body | apply mild_then)) hP (fun w' hw => r_move rfl) rfl ?_
  refine hw_take 1 rfl rfl rfl (by kernel_rfl) (by kernel_rfl) (by kernel_rfl) (by repeat (first | exact mild_body | apply mild_then)) hP (fun w' hw => r_load rfl rfl (hw.cell (i := 0) rfl rfl)) rfl ?_
  refine hw_take 2 rfl rfl rfl (by kernel_rfl) (by kernel_rfl) (by kernel_rfl) (by repeat (first | exact mild_body | apply mild_then)) hP (fun w' hw => r_nilCheck rfl) rfl ?_
  refine hw_take 3 rfl rfl rfl (by kernel_rfl) (by kernel_rfl) (by kernel_rfl) (by repeat (first | exact mild_body | apply mild_then)) hP (fun w' hw => r_fieldAddr rfl fl58_1) rfl ?_
  refine hw_take 4 rfl rfl rfl (by kernel_rfl) (by kernel_rfl) (by kernel_rfl) (by repeat (first | exact mild_body | apply mild_then)) hP (fun w' hw => r_load rfl rfl ((hw.old.cell (p := ⟨b0, 1, none⟩) hlt).trans (by simp [World.cell?, hb, flt]; rfl))) rfl ?_
  refine hw_take 5 rfl rfl rfl (by kernel_rfl) (by kernel_rfl) (by kernel_rfl) (by repeat (first | exact mild_body | apply mild_then)) hP (fun w' hw => r_load rfl rfl (hw.cell (i := 0) rfl rfl)) rfl ?_
  refine hw_take 6 rfl rfl rfl (by kernel_rfl) (by kernel_rfl) (by kernel_rfl) (by repeat (first | exact mild_body | apply mild_then)) hP (fun w' hw => r_nilCheck rfl) rfl ?_
  refine hw_take 7 rfl rfl rfl (by kernel_rfl) (by kernel_rfl) (by kernel_rfl) (by repeat (first | exact mild_body | apply mild_then)) hP (fun w' hw => r_fieldAddr rfl fl58_2) rfl ?_
  refine hw_take 8 rfl rfl rfl (by kernel_rfl) (by kernel_rfl) (by kernel_rfl) (by repeat (first | exact mild_body | apply mild_then)) hP (fun w' hw => r_load rfl rfl ((hw.old.cell (p := ⟨b0, 2, none⟩) hlt).trans (by simp [World.cell?, hb, flt]; rfl))) rfl ?_
  refine hw_take 9 rfl rfl rfl (by kernel_rfl) (by kernel_rfl) (by kernel_rfl) (by repeat (first | exact mild_body | apply mild_then)) hP (fun w' hw => r_build (v := .agg (flt c nm).toArray) rfl (fun w => by kernel_rfl)) rfl ?_
  refine hw_one 10 (by kernel_rfl) (nw_of rfl ?_ lets_then)
  refine ow_box (ws := flt c nm) hP rfl rfl rfl ?_
  intro b19 W hz hg hP2
  refine ow_nil (ew_held (hP2.sub (by simp)) ?_)
  refine hw_one 11 (by kernel_rfl) (nw_of rfl ?_ lets_then)
  refine ow_step (r_mki (r := er b19) rfl (fun w => by kernel_rfl)) rfl ?_
  refine ow_nil (ew_held (hP2.sub (by simp)) ?_)
  refine hw_one 12 (by kernel_rfl) (nw_of rfl ?_ lets_then)
  refine ow_step (r_assign rfl) rfl ?_
  refine ow_nil (ew_held (hP2.sub (by simp)) ?_)
  refine hw_done (by kernel_rfl) ?_
  clear hP; have hP := hP2; clear hP2
  refine ew_next ?_
  refine cw_ret ?_
  refine ew_then_ret ?_
  refine ew_ret1 rfl (.tmp rfl .nil) ⟨_, rfl, ?_⟩
  exact hP.sub (by simp)

set_option maxRecDepth 100000 in
theorem c4 (v : Value) (w : World) (hE : w.cell? ⟨0, 0, none⟩ = some (.iface 180 (.agg #[.pointer (some ⟨16, 26, none⟩)]))) : Calls Tryz.prog 4 #[.pointer none, v] w fun e w' => ∃ b, e = .returned (.tuple #[.agg #[.int .i64 0, .int .i64 0, .int .i64 0, .int .i64 0], er b]) ∧ HP w w' [(b, flt ⟨#[109, 105, 114, 114, 111, 114]⟩ ⟨#[]⟩, 58)] := by
  have hP := HP.start w
  have h0 : 0 < w.heap.size := by
    rcases Nat.eq_zero_or_pos w.heap.size with h | h
    · simp [World.cell?, h] at hE
    · exact h
  refine calls_cw Tryz.func4 rfl rfl (by simp) ?_
  refine cw_seq ?_
  -- region 0 mirror.go:126
  refine cw_region ?_
  refine ow_box hP rfl rfl rfl ?_
  clear hP; intro b2 W hz hg hP
  refine ow_alloc (ws := [.int .i64 0, .int .i64 0, .int .i64 0, .int .i64 0]) hP (by kernel_rfl) rfl ?_
  clear hP; intro b4 W hz hg hP
  refine ow_step (r_assign rfl) rfl ?_
  refine ow_nil ?_
  refine ew_next ?_
  refine cw_seq ?_
  -- region 1 mirror.go:127
  refine cw_region ?_
  refine ow_step (r_load rfl rfl (hP.cell (i := 1) rfl rfl)) rfl ?_
  refine ow_call en8 rfl (c8 _) rfl ?_
  rintro e W ⟨b13, rfl, hJ⟩; replace hP := hP.push hJ.old (hJ.ge (i := 0) rfl) (hJ.blk (i := 0) rfl); clear hJ; refine ⟨_, rfl, ?_⟩
  refine ow_step (r_move rfl) rfl ?_
  refine ow_step (r_extract rfl rfl) rfl ?_
  refine ow_step (r_extract rfl rfl) rfl ?_
  refine ow_step (r_assign rfl) rfl ?_
  refine ow_step (r_assign rfl) rfl ?_
  refine ow_nil ?_
  refine ew_next ?_
  refine cw_seq ?_
  refine cw_seq ?_
  -- region 2 mirror.go:128
  refine cw_region ?_
  refine ow_step (r_move rfl) rfl ?_
  refine ow_step (r_bin (r := .bool true) rfl rfl (fun w => by kernel_rfl)) rfl ?_
  refine ow_nil ?_
  refine ew_next ?_
  refine cw_true rfl ?_
  refine cw_seq ?_
  -- region 3 mirror.go:129
  refine cw_region ?_
  refine ow_step (r_build (v := .agg #[.int .i64 0, .int .i64 0, .int .i64 0, .int .i64 0]) rfl (fun w => by kernel_rfl)) rfl ?_
  refine ow_step (r_move rfl) rfl ?_
  refine ow_call en9 rfl (c9 _ _ _ _ _ ((hP.old.cell (p := ⟨0, 0, none⟩) h0).trans hE) (hP.blk (i := 0) rfl)) rfl ?_
  rintro e W ⟨b20, rfl, hJ⟩; replace hP := hP.push hJ.old (hJ.ge (i := 0) rfl) (hJ.blk (i := 0) rfl); clear hJ; refine ⟨_, rfl, ?_⟩
  refine ow_stores hP 2 rfl (ws := [.int .i64 0, .int .i64 0, .int .i64 0, .int .i64 0]) rfl rfl (by simp [Value.oneCell']) rfl rfl ?_
  clear hP; intro W hg hP; dsimp only [List.set] at hP
  refine ow_step (r_assign rfl) rfl ?_
  refine ow_nil ?_
  refine ew_next ?_
  refine cw_ret ?_
  refine ew_then_ret ?_
  refine ew_rets (rs := [(Go.ResultVar.cell 4 24), (Go.ResultVar.tmp 5)]) rfl (by simp) (.cell _ rfl (run_loadVar_row _ _ 24 24 _ (0, 0) _ (hP.blk (i := 2) rfl) rfl rfl rfl) (.tmp rfl .nil)) ⟨_, rfl, ?_⟩
  exact hP.sub (by simp)

set_option maxRecDepth 100000 in
theorem c5 (a b2 : ByteArray) (w : World) (hE : w.cell? ⟨0, 0, none⟩ = some (.iface 180 (.agg #[.pointer (some ⟨16, 26, none⟩)]))) : Calls Tryz.prog 5 #[.pointer none, .string a, .string b2] w fun e w' => ∃ b, e = .returned (.tuple #[.int .i64 0, er b]) ∧ HP w w' [(b, flt ⟨#[109, 111, 118, 101]⟩ ⟨#[]⟩, 58)] := by
  have hP := HP.start w
  have h0 : 0 < w.heap.size := by
    rcases Nat.eq_zero_or_pos w.heap.size with h | h
    · simp [World.cell?, h] at hE
    · exact h
  refine calls_cw Tryz.func5 rfl rfl (by simp) ?_
  refine cw_seq ?_
  -- region 0 mirror.go:142
  refine cw_region ?_
  refine ow_step (r_assign rfl) rfl ?_
  refine ow_step (r_assign rfl) rfl ?_
  refine ow_nil ?_
  refine ew_next ?_
  refine cw_seq ?_
  -- region 1 mirror.go:143
  refine cw_region ?_
  refine ow_step (r_move rfl) rfl ?_
  refine ow_call en8 rfl (c8 _) rfl ?_
  rintro e W ⟨b20, rfl, hJ⟩; replace hP := hP.push hJ.old (hJ.ge (i := 0) rfl) (hJ.blk (i := 0) rfl); clear hJ; refine ⟨_, rfl, ?_⟩
  refine ow_step (r_move rfl) rfl ?_
  refine ow_step (r_extract rfl rfl) rfl ?_
  refine ow_step (r_extract rfl rfl) rfl ?_
  refine ow_step (r_assign rfl) rfl ?_
  refine ow_step (r_assign rfl) rfl ?_
  refine ow_nil ?_
  refine ew_next ?_
  refine cw_seq ?_
  refine cw_seq ?_
  -- region 2 mirror.go:144
  refine cw_region ?_
  refine ow_step (r_move rfl) rfl ?_
  refine ow_step (r_bin (r := .bool true) rfl rfl (fun w => by kernel_rfl)) rfl ?_
  refine ow_nil ?_
  refine ew_next ?_
  refine cw_true rfl ?_
  refine cw_seq ?_
  -- region 3 mirror.go:145
  refine cw_region ?_
  refine ow_step (r_move rfl) rfl ?_
  refine ow_call en9 rfl (c9 _ _ _ _ _ ((hP.old.cell (p := ⟨0, 0, none⟩) h0).trans hE) (hP.blk (i := 0) rfl)) rfl ?_
  rintro e W ⟨b26, rfl, hJ⟩; replace hP := hP.push hJ.old (hJ.ge (i := 0) rfl) (hJ.blk (i := 0) rfl); clear hJ; refine ⟨_, rfl, ?_⟩
  refine ow_step (r_assign rfl) rfl ?_
  refine ow_step (r_assign rfl) rfl ?_
  refine ow_nil ?_
  refine ew_next ?_
  refine cw_ret ?_
  refine ew_then_ret ?_
  refine ew_rets (rs := [(Go.ResultVar.tmp 6), (Go.ResultVar.tmp 7)]) rfl (by simp) (.tmp rfl (.tmp rfl .nil)) ⟨_, rfl, ?_⟩
  exact hP.sub (by simp)

set_option maxRecDepth 100000 in
theorem c6 (a : ByteArray) (w : World) (hE : w.cell? ⟨0, 0, none⟩ = some (.iface 180 (.agg #[.pointer (some ⟨16, 26, none⟩)]))) : Calls Tryz.prog 6 #[.pointer none, .string a] w fun e w' => ∃ b, e = .returned (.tuple #[.int .i64 0, er b]) ∧ HP w w' [(b, flt ⟨#[112, 114, 117, 110, 101]⟩ ⟨#[]⟩, 58)] := by
  have hP := HP.start w
  have h0 : 0 < w.heap.size := by
    rcases Nat.eq_zero_or_pos w.heap.size with h | h
    · simp [World.cell?, h] at hE
    · exact h
  refine calls_cw Tryz.func6 rfl rfl (by simp) ?_
  refine cw_seq ?_
  -- region 0 mirror.go:170
  refine cw_region ?_
  refine ow_step (r_assign rfl) rfl ?_
  refine ow_step (r_assign rfl) rfl ?_
  refine ow_nil ?_
  refine ew_next ?_
  refine cw_seq ?_
  -- region 1 mirror.go:171
  refine cw_region ?_
  refine ow_step (r_move rfl) rfl ?_
  refine ow_call en8 rfl (c8 _) rfl ?_
  rintro e W ⟨b18, rfl, hJ⟩; replace hP := hP.push hJ.old (hJ.ge (i := 0) rfl) (hJ.blk (i := 0) rfl); clear hJ; refine ⟨_, rfl, ?_⟩
  refine ow_step (r_move rfl) rfl ?_
  refine ow_step (r_extract rfl rfl) rfl ?_
  refine ow_step (r_extract rfl rfl) rfl ?_
  refine ow_step (r_assign rfl) rfl ?_
  refine ow_step (r_assign rfl) rfl ?_
  refine ow_nil ?_
  refine ew_next ?_
  refine cw_seq ?_
  refine cw_seq ?_
  -- region 2 mirror.go:172
  refine cw_region ?_
  refine ow_step (r_move rfl) rfl ?_
  refine ow_step (r_bin (r := .bool true) rfl rfl (fun w => by kernel_rfl)) rfl ?_
  refine ow_nil ?_
  refine ew_next ?_
  refine cw_true rfl ?_
  refine cw_seq ?_
  -- region 3 mirror.go:173
  refine cw_region ?_
  refine ow_step (r_move rfl) rfl ?_
  refine ow_call en9 rfl (c9 _ _ _ _ _ ((hP.old.cell (p := ⟨0, 0, none⟩) h0).trans hE) (hP.blk (i := 0) rfl)) rfl ?_
  rintro e W ⟨b24, rfl, hJ⟩; replace hP := hP.push hJ.old (hJ.ge (i := 0) rfl) (hJ.blk (i := 0) rfl); clear hJ; refine ⟨_, rfl, ?_⟩
  refine ow_step (r_assign rfl) rfl ?_
  refine ow_step (r_assign rfl) rfl ?_
  refine ow_nil ?_
  refine ew_next ?_
  refine cw_ret ?_
  refine ew_then_ret ?_
  refine ew_rets (rs := [(Go.ResultVar.tmp 4), (Go.ResultVar.tmp 5)]) rfl (by simp) (.tmp rfl (.tmp rfl .nil)) ⟨_, rfl, ?_⟩
  exact hP.sub (by simp)

set_option maxRecDepth 100000 in
theorem c19 (b : Nat) (c nm : ByteArray) (w : World) (hb : w.heap[b]? = some (.cells (flt c nm).toArray 58 (0, 0))) : Calls Tryz.prog 19 #[er b] w fun e w' => e = .returned (.tuple #[.int .i64 1, .string c, .string nm]) ∧ Below w.heap.size w w' := by
  have hP := HP.start w
  have hlt : b < w.heap.size := (Array.getElem?_eq_some_iff.1 hb).1
  refine calls_cw Tryz.func19 rfl rfl (by simp) ?_
  refine cw_seq ?_
  -- region 0 valiseplay.go:155
  refine cw_region ?_
  refine ow_step (r_assign rfl) rfl ?_
  refine ow_step (r_assign rfl) rfl ?_
  refine ow_step (r_assign rfl) rfl ?_
  refine ow_nil ?_
  refine ew_next ?_
  refine cw_seq ?_
  refine cw_seq ?_
  -- region 1 valiseplay.go:156
  refine cw_region ?_
  refine ow_step (r_move rfl) rfl ?_
  refine ow_nil ?_
  refine ew_next ?_
  refine cw_block ?_
  refine cw_seq ?_
  -- region 2 valiseplay.go:156
  refine cw_region ?_
  refine ow_step (r_bin (r := .bool false) rfl rfl (fun w => by kernel_rfl)) rfl ?_
  refine ow_nil ?_
  refine ew_next ?_
  refine cw_false rfl ?_
  refine cw_seq ?_
  -- region 5 valiseplay.go:156
  refine cw_region ?_
  refine ow_step (r_assert (r := .tuple #[.pointer (some ⟨b, 0, none⟩), .bool true]) rfl (fun w => by kernel_rfl)) rfl ?_
  refine ow_step (r_extract rfl rfl) rfl ?_
  refine ow_step (r_extract rfl rfl) rfl ?_
  refine ow_nil ?_
  refine ew_next ?_
  refine cw_true rfl ?_
  refine cw_seq ?_
  -- region 6 valiseplay.go:156
  refine cw_region ?_
  refine ow_step (r_assign rfl) rfl ?_
  refine ow_nil ?_
  refine ew_next ?_
  refine cw_seq ?_
  refine cw_seq ?_
  -- region 7 valiseplay.go:160
  refine cw_region ?_
  refine ow_step (r_move rfl) rfl ?_
  refine ow_step (r_bin (r := .bool false) rfl rfl (fun w => by kernel_rfl)) rfl ?_
  refine ow_nil ?_
  refine ew_next ?_
  refine cw_false rfl ?_
  refine cw_skip ?_
  refine ew_next ?_
  refine cw_seq ?_
  -- region 9 DRAWS valiseplay.go:163
  refine cw_quietP hP (by kernel_rfl) (by kernel_rfl) ?_
  refine qw_step (fun w hw => r_move rfl) rfl ?_
  refine qw_step (fun w hw => r_nilCheck rfl) rfl ?_
  refine qw_step (fun w hw => r_fieldAddr rfl fl58_2) rfl ?_
  refine qw_step (fun w1 hw => r_load rfl rfl ((hw.old.cell (p := ⟨b, 2, none⟩) hlt).trans (by simp [World.cell?, hb, flt]; rfl))) rfl ?_
  refine qw_step (fun w hw => r_move rfl) rfl ?_
  refine qw_step (fun w hw => r_nilCheck rfl) rfl ?_
  refine qw_step (fun w hw => r_fieldAddr rfl fl58_0) rfl ?_
  refine qw_step (fun w1 hw => r_load rfl rfl ((hw.old.cell (p := ⟨b, 0, none⟩) hlt).trans (by simp [World.cell?, hb, flt]; rfl))) rfl ?_
  refine qw_step (fun w hw => r_move rfl) rfl ?_
  refine qw_step (fun w hw => r_nilCheck rfl) rfl ?_
  refine qw_step (fun w hw => r_fieldAddr rfl fl58_1) rfl ?_
  refine qw_step (fun w1 hw => r_load rfl rfl ((hw.old.cell (p := ⟨b, 1, none⟩) hlt).trans (by simp [World.cell?, hb, flt]; rfl))) rfl ?_
  refine qw_step (fun w hw => r_assign rfl) rfl ?_
  refine qw_step (fun w hw => r_assign rfl) rfl ?_
  refine qw_step (fun w hw => r_assign rfl) rfl ?_
  clear hP; refine qw_nil (fun W hP => ?_)
  refine ew_next ?_
  refine cw_ret ?_
  refine ew_block_ret ?_
  refine ew_then_ret ?_
  refine ew_rets (rs := [(Go.ResultVar.tmp 2), (Go.ResultVar.tmp 3), (Go.ResultVar.tmp 4)]) rfl (by simp) (.tmp rfl (.tmp rfl (.tmp rfl .nil))) ⟨rfl, hP.old⟩

set_option maxRecDepth 100000 in
theorem c7 (b : Nat) (c nm : ByteArray) (w : World) (hb : w.heap[b]? = some (.cells (flt c nm).toArray 58 (0, 0))) : Calls Tryz.prog 7 #[er b, .string c, .int .i64 1, .string nm] w fun e w' => e = .returned (.bool true) ∧ Below w.heap.size w w' := by
  have hP := HP.start w
  refine calls_cw Tryz.func7 rfl rfl (by simp) ?_
  refine cw_seq ?_
  -- region 0 valiselaw25.go:231
  refine cw_region ?_
  refine ow_step (r_assign rfl) rfl ?_
  refine ow_nil ?_
  refine ew_next ?_
  refine cw_seq ?_
  refine cw_seq ?_
  -- region 1 valiselaw25.go:232
  refine cw_region ?_
  refine ow_step (r_move rfl) rfl ?_
  refine ow_step (r_eq rfl rfl) rfl ?_
  refine ow_nil ?_
  refine ew_next ?_
  refine cw_false rfl ?_
  refine cw_skip ?_
  refine ew_next ?_
  refine cw_seq ?_
  -- region 3 valiselaw25.go:235
  refine cw_region ?_
  refine ow_step (r_move rfl) rfl ?_
  refine ow_call en19 rfl (c19 _ _ _ _ hb) rfl ?_
  rintro e W ⟨rfl, hJ⟩; replace hP := hP.below hJ; clear hJ; refine ⟨_, rfl, ?_⟩
  refine ow_step (r_move rfl) rfl ?_
  refine ow_step (r_extract rfl rfl) rfl ?_
  refine ow_step (r_extract rfl rfl) rfl ?_
  refine ow_step (r_extract rfl rfl) rfl ?_
  refine ow_step (r_assign rfl) rfl ?_
  refine ow_step (r_assign rfl) rfl ?_
  refine ow_step (r_assign rfl) rfl ?_
  refine ow_nil ?_
  refine ew_next ?_
  refine cw_seq ?_
  -- region 4 valiselaw25.go:236
  refine cw_region ?_
  refine ow_step (r_move rfl) rfl ?_
  refine ow_step (r_move rfl) rfl ?_
  refine ow_step (r_eq rfl rfl) rfl ?_
  refine ow_step (r_move rfl) rfl ?_
  first | (refine ow_pass rfl rfl rfl (by rfl) rfl ?_) | (refine ow_guard rfl rfl rfl (by rfl) ?_; refine ow_step (r_move rfl) rfl ?_)
  first | (refine ow_pass rfl rfl rfl (by rfl) rfl ?_) | (refine ow_guard rfl rfl rfl (by rfl) ?_; refine ow_step (r_move rfl) rfl ?_)
  first | (refine ow_pass rfl rfl rfl (by rfl) rfl ?_) | (refine ow_guard rfl rfl rfl (by rfl) ?_; refine ow_step (r_same rfl rfl) rfl ?_)
  refine ow_step (r_pick rfl rfl rfl) rfl ?_
  refine ow_step (r_move rfl) rfl ?_
  first | (refine ow_pass rfl rfl rfl (by rfl) rfl ?_) | (refine ow_guard rfl rfl rfl (by rfl) ?_; refine ow_step (r_move rfl) rfl ?_)
  first | (refine ow_pass rfl rfl rfl (by rfl) rfl ?_) | (refine ow_guard rfl rfl rfl (by rfl) ?_; refine ow_step (r_move rfl) rfl ?_)
  first | (refine ow_pass rfl rfl rfl (by rfl) rfl ?_) | (refine ow_guard rfl rfl rfl (by rfl) ?_; refine ow_step (r_same rfl rfl) rfl ?_)
  refine ow_step (r_pick rfl rfl rfl) rfl ?_
  refine ow_step (r_assign rfl) rfl ?_
  refine ow_nil ?_
  refine ew_next ?_
  refine cw_ret ?_
  refine ew_ret1 rfl (.tmp rfl .nil) ⟨rfl, hP.old⟩

set_option maxRecDepth 100000 in
theorem c3  (w : World) (hE : w.cell? ⟨0, 0, none⟩ = some (.iface 180 (.agg #[.pointer (some ⟨16, 26, none⟩)]))) : Calls Tryz.prog 3 #[] w fun e w' => e = .returned (.bool true) ∧ Below w.heap.size w w' := by
  have hP := HP.start w
  have h0 : 0 < w.heap.size := by
    rcases Nat.eq_zero_or_pos w.heap.size with h | h
    · simp [World.cell?, h] at hE
    · exact h
  refine calls_cw Tryz.func3 rfl rfl (by simp) ?_
  refine cw_seq ?_
  -- region 0 outright.go:186
  refine cw_region ?_
  refine ow_step (r_assign rfl) rfl ?_
  refine ow_nil ?_
  refine ew_next ?_
  refine cw_seq ?_
  -- region 1 outright.go:187
  refine cw_region ?_
  refine ow_step (r_assign rfl) rfl ?_
  refine ow_nil ?_
  refine ew_next ?_
  refine cw_seq ?_
  -- region 2 outright.go:188
  refine cw_region ?_
  refine ow_step (r_move rfl) rfl ?_
  refine ow_call en4 rfl (c4 _ _ ((hP.old.cell (p := ⟨0, 0, none⟩) h0).trans hE)) rfl ?_
  rintro e W ⟨b10, rfl, hJ⟩; replace hP := hP.push hJ.old (hJ.ge (i := 0) rfl) (hJ.blk (i := 0) rfl); clear hJ; refine ⟨_, rfl, ?_⟩
  refine ow_step (r_move rfl) rfl ?_
  refine ow_step (r_extract rfl rfl) rfl ?_
  refine ow_step (r_extract rfl rfl) rfl ?_
  refine ow_var hP rfl (by kernel_rfl) (by simp [Value.oneCell']) rfl ?_
  clear hP; intro b2 W hz hg hP
  refine ow_step (r_assign rfl) rfl ?_
  refine ow_nil ?_
  refine ew_next ?_
  refine cw_seq ?_
  -- region 3 outright.go:189
  refine cw_region ?_
  refine ow_step (r_move rfl) rfl ?_
  refine ow_call en5 rfl (c5 _ _ _ ((hP.old.cell (p := ⟨0, 0, none⟩) h0).trans hE)) rfl ?_
  rintro e W ⟨b15, rfl, hJ⟩; replace hP := hP.push hJ.old (hJ.ge (i := 0) rfl) (hJ.blk (i := 0) rfl); clear hJ; refine ⟨_, rfl, ?_⟩
  refine ow_step (r_move rfl) rfl ?_
  refine ow_step (r_extract rfl rfl) rfl ?_
  refine ow_step (r_extract rfl rfl) rfl ?_
  refine ow_step (r_assign rfl) rfl ?_
  refine ow_step (r_assign rfl) rfl ?_
  refine ow_nil ?_
  refine ew_next ?_
  refine cw_seq ?_
  -- region 4 outright.go:190
  refine cw_region ?_
  refine ow_step (r_move rfl) rfl ?_
  refine ow_call en6 rfl (c6 _ _ ((hP.old.cell (p := ⟨0, 0, none⟩) h0).trans hE)) rfl ?_
  rintro e W ⟨b20, rfl, hJ⟩; replace hP := hP.push hJ.old (hJ.ge (i := 0) rfl) (hJ.blk (i := 0) rfl); clear hJ; refine ⟨_, rfl, ?_⟩
  refine ow_step (r_move rfl) rfl ?_
  refine ow_step (r_extract rfl rfl) rfl ?_
  refine ow_step (r_extract rfl rfl) rfl ?_
  refine ow_step (r_assign rfl) rfl ?_
  refine ow_step (r_assign rfl) rfl ?_
  refine ow_nil ?_
  refine ew_next ?_
  refine cw_seq ?_
  -- region 5 outright.go:191
  refine cw_region ?_
  refine ow_step (r_move rfl) rfl ?_
  refine ow_call en7 rfl (c7 _ _ _ _ (hP.blk (i := 3) rfl)) rfl ?_
  rintro e W ⟨rfl, hJ⟩; replace hP := hP.below hJ; clear hJ; refine ⟨_, rfl, ?_⟩
  refine ow_step (r_move rfl) rfl ?_
  first | (refine ow_pass rfl rfl rfl (by rfl) rfl ?_) | (refine ow_guard rfl rfl rfl (by rfl) ?_; refine ow_step (r_move rfl) rfl ?_)
  refine ow_guard rfl rfl rfl (by rfl) ?_
  refine ow_call en7 rfl (c7 _ _ _ _ (hP.blk (i := 1) rfl)) rfl ?_
  rintro e W ⟨rfl, hJ⟩; replace hP := hP.below hJ; clear hJ; refine ⟨_, rfl, ?_⟩
  refine ow_step (r_pick rfl rfl rfl) rfl ?_
  refine ow_step (r_move rfl) rfl ?_
  first | (refine ow_pass rfl rfl rfl (by rfl) rfl ?_) | (refine ow_guard rfl rfl rfl (by rfl) ?_; refine ow_step (r_move rfl) rfl ?_)
  refine ow_guard rfl rfl rfl (by rfl) ?_
  refine ow_call en7 rfl (c7 _ _ _ _ (hP.blk (i := 0) rfl)) rfl ?_
  rintro e W ⟨rfl, hJ⟩; replace hP := hP.below hJ; clear hJ; refine ⟨_, rfl, ?_⟩
  refine ow_step (r_pick rfl rfl rfl) rfl ?_
  refine ow_step (r_assign rfl) rfl ?_
  refine ow_nil ?_
  refine ew_next ?_
  refine cw_ret ?_
  refine ew_ret1 rfl (.tmp rfl .nil) ⟨rfl, hP.old⟩
end Go.Proofs.YtiakkaolnlhffacGreatDoor.Nl
