/- Own walks: two lists of the same files are alike. -/
import Derived.Test.YtlhmbncalonomaaDoorFil2
import Derived.Test.YtlhmbncalonomaaDoorQ3
namespace Go.Proofs.YtlhmbncalonomaaDoor.Alk
open Go.RowKit Go.Proofs.YtlhmbncalonomaaDoor.Q Go.Proofs.YtlhmbncalonomaaDoor.Cpy Go.Proofs.YtlhmbncalonomaaDoor.Hand Go.Proofs.YtlhmbncalonomaaDoor.Arr Go.Proofs.YtlhmbncalonomaaDoor.Sx Go.Proofs.YtlhmbncalonomaaDoor.Head Go.Proofs.YtlhmbncalonomaaDoor.Snd Go.Proofs.YtlhmbncalonomaaDoor.TpB Go.Proofs.YtlhmbncalonomaaDoor.TpH Go.Proofs.YtlhmbncalonomaaDoor.RfH Go.Proofs.YtlhmbncalonomaaDoor.Spc Go.Proofs.YtlhmbncalonomaaDoor.Spd Go.Proofs.YtlhmbncalonomaaDoor.Fil Go.Proofs.YtlhmbncalonomaaDoor.Fil2 Go.Proofs.YtlhmbncalonomaaDoorW.PrintWords Go.Proofs.YtlhmbncalonomaaDoorW.PrintLast Go.Proofs.YtlhmbncalonomaaDoorW.PrintMore
set_option linter.unusedVariables false
set_option linter.unusedSimpArgs false

theorem same_ref (l : List Int) (hl : l.length ≤ 1099511627776) : ∀ (d i k : Nat), l.length - i ≤ d → d < k → valiselaw24_same.l0 k l l (i : Int) = some true := by
  intro d
  induction d with
  | zero =>
    intro i k hd hk
    obtain ⟨m, rfl⟩ : ∃ m, k = m + 1 := ⟨k - 1, by omega⟩
    simp only [valiselaw24_same.l0]
    rw [if_neg (by omega)]
  | succ d ih =>
    intro i k hd hk
    obtain ⟨m, rfl⟩ : ∃ m, k = m + 1 := ⟨k - 1, by omega⟩
    simp only [valiselaw24_same.l0]
    by_cases h : (i : Int) < (l.length : Int)
    · rw [if_pos h, if_pos (by omega), if_pos h, if_pos trivial, w64 (by omega)]
      have := ih (i + 1) m (by omega) (by omega)
      rwa [Int.natCast_add] at this
    · rw [if_neg h]
theorem same_f (l : List Int) (hl : l.length ≤ 1099511627776) : valiselaw24_same.f (l.length + 1) l l = some true := by
  unfold valiselaw24_same.f
  rw [if_pos rfl]
  exact same_ref l hl l.length 0 _ (by omega) (by omega)
theorem same_calls (A B : Option Addr) (c d : Nat) (l : List Int) (w : World) (hA : Kd.C (Kd.int .u8) w A l.length l) (hB : Kd.C (Kd.int .u8) w B l.length l) (hc : l.length ≤ c) (hd : l.length ≤ d) (hl : l.length ≤ 1099511627776) :
    Calls Tryd.prog 14 #[.slice A l.length c, .slice B l.length d] w fun e w' => e = .returned (.bool true) ∧ Below w.heap.size w w' :=
  (valiselaw24_same.calls (l.length + 1) A c l B d l true w hA hc hB hd (same_f l hl)).mono (fun e w' ⟨he, m, hm⟩ => ⟨he, by rw [hm]; exact (HP.start w).drewN m |>.old⟩)
section
variable {P : Program} {n : Nat} {sl : List (Nat × Value)} {w : World} {dst : Option Tmp} {ty t t2 : TypeId} {pos : String} {aft : Array Edge} {g : Option (Nat × Bool)} {x y : Operand}
theorem r_sneS {s : ByteArray} (hx : sv sl x = some (.string s)) (hy : sv sl y = some (.string s)) : Runs P ⟨dst, .binOp .neq t x y t2, ty, pos, aft, g⟩ n sl w (.bool false) w := by
  have h := r_sne (P := P) (n := n) (w := w) (dst := dst) (ty := ty) (t := t) (t2 := t2) (pos := pos) (aft := aft) (g := g) hx hy
  simpa using h
theorem r_seqS {s : ByteArray} (hx : sv sl x = some (.string s)) (hy : sv sl y = some (.string s)) : Runs P ⟨dst, .binOp .eql t x y t2, ty, pos, aft, g⟩ n sl w (.bool true) w := by
  have h := r_seq (P := P) (n := n) (w := w) (dst := dst) (ty := ty) (t := t) (t2 := t2) (pos := pos) (aft := aft) (g := g) hx hy
  simpa using h
theorem r_neS {k : IntKind} {a : Int} (hx : sv sl x = some (.int k a)) (hy : sv sl y = some (.int k a)) : Runs P ⟨dst, .binOp .neq t x y t2, ty, pos, aft, g⟩ n sl w (.bool false) w := by
  have h := r_ne (P := P) (n := n) (w := w) (dst := dst) (ty := ty) (t := t) (t2 := t2) (pos := pos) (aft := aft) (g := g) hx hy
  simpa using h
theorem r_eqS {k : IntKind} {a : Int} (hx : sv sl x = some (.int k a)) (hy : sv sl y = some (.int k a)) : Runs P ⟨dst, .binOp .eql t x y t2, ty, pos, aft, g⟩ n sl w (.bool true) w := by
  have h := r_eq (P := P) (n := n) (w := w) (dst := dst) (ty := ty) (t := t) (t2 := t2) (pos := pos) (aft := aft) (g := g) hx hy
  simpa using h
end
theorem en14 : Enters Tryd.prog 14 := fun args w => by kernel_rfl

set_option maxRecDepth 100000 in
theorem alike_calls (A B : Option Addr) (c d : Nat) (xs : List S26) (w : World) (hA : Kd.C k26 w A xs.length xs) (hB : Kd.C k26 w B xs.length xs) (hs : Small xs) :
    Calls Tryd.prog 15 #[.slice A xs.length c, .slice B xs.length d] w fun e w' => e = .returned (.bool true) ∧ Below w.heap.size w w' := by
  have hP := HP.start w
  have hlen := hs.len
  refine calls_cw Tryd.func15 rfl rfl (by simp) ?_
  refine cw_seq ?_
  -- region 0 tape.go:45
  refine cw_region ?_
  refine ow_step (r_assign rfl) rfl ?_
  refine ow_nil ?_
  refine ew_next ?_
  refine cw_seq ?_
  refine cw_seq ?_
  -- region 1 tape.go:46
  refine cw_region ?_
  refine ow_step (r_move rfl) rfl ?_
  refine ow_step (r_len rfl (by rfl) rfl) rfl ?_
  refine ow_step (r_move rfl) rfl ?_
  refine ow_step (r_len rfl (by rfl) rfl) rfl ?_
  refine ow_step (r_neS rfl rfl) rfl ?_
  refine ow_nil ?_
  refine ew_next ?_
  refine cw_false rfl ?_
  refine cw_skip ?_
  refine ew_next ?_
  refine cw_seq ?_
  refine cw_seq ?_
  -- region 3 tape.go:49
  refine cw_region ?_
  refine ow_step (r_assign rfl) rfl ?_
  refine ow_nil ?_
  refine ew_next ?_
  refine cw_block ?_
  refine cw_loop (fun i : Nat => xs.length - i) (fun i : Nat => [(0, .slice A xs.length c), (1, .slice B xs.length d), (5, .int .i64 ((i : Nat) : Int))]) (fun (i : Nat) w' => i ≤ xs.length ∧ HP w w' []) 0 ⟨rfl, rfl, rfl, trivial⟩ ⟨Nat.zero_le _, hP⟩ ?_
  clear hP; rintro i W ⟨hi, hP⟩
  · -- round 0
    refine cw_seq ?_
    refine cw_seq ?_
    -- region 4 tape.go:49
    refine cw_region ?_
    refine ow_step (r_move rfl) rfl ?_
    refine ow_step (r_move rfl) rfl ?_
    refine ow_step (r_len rfl (by rfl) rfl) rfl ?_
    refine ow_step (r_lt rfl rfl) rfl ?_
    refine ow_nil ?_
    refine ew_next ?_
    refine cw_cond rfl (fun hb1 => ?_) (fun hb1 => ?_)
    · -- cond 1 yes
      have hc1 := hb1; (try simp only [Bool.and_eq_true, Bool.or_eq_true, Bool.and_eq_false_iff, Bool.or_eq_false_iff, Bool.not_eq_true', Bool.not_eq_false', decide_eq_true_eq, decide_eq_false_iff_not, ne_eq, Decidable.not_not, not_true_eq_false, not_false_eq_true] at hc1)
      have hi' : i < xs.length := by omega
      obtain ⟨b, o, A9, c9, hA', hcells, hc9, hC9⟩ := files_at hA i hi'
      obtain ⟨b2, o2, B9, d9, hB', hcells2, hd9, hD9⟩ := files_at hB i hi'
      have hsx := hs.at_ _ (fileAt_mem hi')
      subst hA'; subst hB'
      have hcW : ∀ j u, (rowF (fileAt xs i) A9 c9)[j]? = some u → W.cell? ((⟨b, o + i * 10, none⟩ : Addr).add j) = some u := fun j u hj => by rw [Addr.add_mid]; exact pw_cell_below hP.old (hcells j u hj)
      have hcW2 : ∀ W', Below w.heap.size w W' → ∀ j u, (rowF (fileAt xs i) B9 d9)[j]? = some u → W'.cell? ((⟨b2, o2 + i * 10, none⟩ : Addr).add j) = some u := fun W' hP j u hj => by rw [Addr.add_mid]; exact pw_cell_below hP (hcells2 j u hj)
      refine cw_skip ?_
      refine ew_next ?_
      refine cw_seq ?_
      refine cw_block ?_
      refine cw_seq ?_
      -- region 6 tape.go:50
      refine cw_region ?_
      refine ow_step (r_move rfl) rfl ?_
      refine ow_step (r_move rfl) rfl ?_
      refine ow_step (r_indexSl' (o' := o + i * 10) rfl rfl Tryd.underlying22 size26 ⟨by omega, by omega⟩ (by rw [Int.toNat_natCast])) rfl ?_
      refine ow_step (r_loads (c := rowF (fileAt xs i) A9 c9) rfl Tryd.underlying26 rfl size26 hcW) rfl ?_
      refine ow_var (ws := rowF (fileAt xs i) A9 c9) hP rfl (by kernel_rfl) (by simp [rowF, Value.oneCell']) rfl ?_
      clear hP; intro b6 W hz hg hP; clear hz hg
      refine ow_nil ?_
      refine ew_next ?_
      refine cw_seq ?_
      -- region 7 tape.go:51
      refine cw_region ?_
      refine ow_step (r_move rfl) rfl ?_
      refine ow_step (r_move rfl) rfl ?_
      refine ow_step (r_indexSl' (o' := o2 + i * 10) rfl rfl Tryd.underlying22 size26 ⟨by omega, by omega⟩ (by rw [Int.toNat_natCast])) rfl ?_
      refine ow_step (r_loads (c := rowF (fileAt xs i) B9 d9) rfl Tryd.underlying26 rfl size26 (hcW2 _ hP.old)) rfl ?_
      refine ow_var (ws := rowF (fileAt xs i) B9 d9) hP rfl (by kernel_rfl) (by simp [rowF, Value.oneCell']) rfl ?_
      clear hP; intro b7 W hz hg hP; clear hz hg
      refine ow_nil ?_
      refine ew_next ?_
      refine cw_seq ?_
      refine cw_seq ?_
      -- region 8 tape.go:52
      refine cw_region ?_
      refine ow_step (r_fieldAddr rfl fl26_0) rfl ?_
      refine ow_step (r_load rfl rfl (hP.cell (i := 1) rfl rfl)) rfl ?_
      refine ow_step (r_fieldAddr rfl fl26_0) rfl ?_
      refine ow_step (r_load rfl rfl (hP.cell (i := 0) rfl rfl)) rfl ?_
      refine ow_step (r_sneS rfl rfl) rfl ?_
      refine ow_step (r_move rfl) rfl ?_
      first | (refine ow_pass rfl rfl rfl (by rfl) rfl ?_) | (refine ow_guard rfl rfl rfl (by rfl) ?_; refine ow_step (r_fieldAddr rfl fl26_1) rfl ?_)
      first | (refine ow_pass rfl rfl rfl (by rfl) rfl ?_) | (refine ow_guard rfl rfl rfl (by rfl) ?_; refine ow_step (r_load rfl rfl (hP.cell (i := 1) rfl rfl)) rfl ?_)
      first | (refine ow_pass rfl rfl rfl (by rfl) rfl ?_) | (refine ow_guard rfl rfl rfl (by rfl) ?_; refine ow_step (r_fieldAddr rfl fl26_1) rfl ?_)
      first | (refine ow_pass rfl rfl rfl (by rfl) rfl ?_) | (refine ow_guard rfl rfl rfl (by rfl) ?_; refine ow_step (r_load rfl rfl (hP.cell (i := 0) rfl rfl)) rfl ?_)
      first | (refine ow_pass rfl rfl rfl (by rfl) rfl ?_) | (refine ow_guard rfl rfl rfl (by rfl) ?_; refine ow_step (r_sneS rfl rfl) rfl ?_)
      refine ow_step (r_pick rfl rfl rfl) rfl ?_
      refine ow_step (r_move rfl) rfl ?_
      first | (refine ow_pass rfl rfl rfl (by rfl) rfl ?_) | (refine ow_guard rfl rfl rfl (by rfl) ?_; refine ow_step (r_fieldAddr rfl fl26_2) rfl ?_)
      first | (refine ow_pass rfl rfl rfl (by rfl) rfl ?_) | (refine ow_guard rfl rfl rfl (by rfl) ?_; refine ow_step (r_load rfl rfl (hP.cell (i := 1) rfl rfl)) rfl ?_)
      first | (refine ow_pass rfl rfl rfl (by rfl) rfl ?_) | (refine ow_guard rfl rfl rfl (by rfl) ?_; refine ow_step (r_fieldAddr rfl fl26_2) rfl ?_)
      first | (refine ow_pass rfl rfl rfl (by rfl) rfl ?_) | (refine ow_guard rfl rfl rfl (by rfl) ?_; refine ow_step (r_load rfl rfl (hP.cell (i := 0) rfl rfl)) rfl ?_)
      first | (refine ow_pass rfl rfl rfl (by rfl) rfl ?_) | (refine ow_guard rfl rfl rfl (by rfl) ?_; refine ow_step (r_sneS rfl rfl) rfl ?_)
      refine ow_step (r_pick rfl rfl rfl) rfl ?_
      refine ow_step (r_move rfl) rfl ?_
      first | (refine ow_pass rfl rfl rfl (by rfl) rfl ?_) | (refine ow_guard rfl rfl rfl (by rfl) ?_; refine ow_step (r_fieldAddr rfl fl26_3) rfl ?_)
      first | (refine ow_pass rfl rfl rfl (by rfl) rfl ?_) | (refine ow_guard rfl rfl rfl (by rfl) ?_; refine ow_step (r_load rfl rfl (hP.cell (i := 1) rfl rfl)) rfl ?_)
      first | (refine ow_pass rfl rfl rfl (by rfl) rfl ?_) | (refine ow_guard rfl rfl rfl (by rfl) ?_; refine ow_step (r_fieldAddr rfl fl26_3) rfl ?_)
      first | (refine ow_pass rfl rfl rfl (by rfl) rfl ?_) | (refine ow_guard rfl rfl rfl (by rfl) ?_; refine ow_step (r_load rfl rfl (hP.cell (i := 0) rfl rfl)) rfl ?_)
      first | (refine ow_pass rfl rfl rfl (by rfl) rfl ?_) | (refine ow_guard rfl rfl rfl (by rfl) ?_; refine ow_step (r_sneS rfl rfl) rfl ?_)
      refine ow_step (r_pick rfl rfl rfl) rfl ?_
      refine ow_step (r_move rfl) rfl ?_
      first | (refine ow_pass rfl rfl rfl (by rfl) rfl ?_) | (refine ow_guard rfl rfl rfl (by rfl) ?_; refine ow_step (r_fieldAddr rfl fl26_4) rfl ?_)
      first | (refine ow_pass rfl rfl rfl (by rfl) rfl ?_) | (refine ow_guard rfl rfl rfl (by rfl) ?_; refine ow_step (r_load rfl rfl (hP.cell (i := 1) rfl rfl)) rfl ?_)
      first | (refine ow_pass rfl rfl rfl (by rfl) rfl ?_) | (refine ow_guard rfl rfl rfl (by rfl) ?_; refine ow_step (r_fieldAddr rfl fl26_4) rfl ?_)
      first | (refine ow_pass rfl rfl rfl (by rfl) rfl ?_) | (refine ow_guard rfl rfl rfl (by rfl) ?_; refine ow_step (r_load rfl rfl (hP.cell (i := 0) rfl rfl)) rfl ?_)
      first | (refine ow_pass rfl rfl rfl (by rfl) rfl ?_) | (refine ow_guard rfl rfl rfl (by rfl) ?_; refine ow_step (r_neS rfl rfl) rfl ?_)
      refine ow_step (r_pick rfl rfl rfl) rfl ?_
      refine ow_nil ?_
      refine ew_next ?_
      refine cw_false rfl ?_
      refine cw_skip ?_
      refine ew_next ?_
      refine cw_seq ?_
      -- region 10 tape.go:55
      refine cw_region ?_
      refine ow_step (r_fieldAddr rfl fl26_5) rfl ?_
      refine ow_step (r_load rfl rfl (hP.cell (i := 1) rfl rfl)) rfl ?_
      refine ow_step (r_fieldAddr rfl fl26_5) rfl ?_
      refine ow_step (r_load rfl rfl (hP.cell (i := 0) rfl rfl)) rfl ?_
      refine ow_step (r_neS rfl rfl) rfl ?_
      refine ow_step (r_move rfl) rfl ?_
      first | (refine ow_pass rfl rfl rfl (by rfl) rfl ?_) | (refine ow_guard rfl rfl rfl (by rfl) ?_; refine ow_step (r_fieldAddr rfl fl26_6) rfl ?_)
      first | (refine ow_pass rfl rfl rfl (by rfl) rfl ?_) | (refine ow_guard rfl rfl rfl (by rfl) ?_; refine ow_step (r_load rfl rfl (hP.cell (i := 1) rfl rfl)) rfl ?_)
      first | (refine ow_pass rfl rfl rfl (by rfl) rfl ?_) | (refine ow_guard rfl rfl rfl (by rfl) ?_; refine ow_step (r_fieldAddr rfl fl26_6) rfl ?_)
      first | (refine ow_pass rfl rfl rfl (by rfl) rfl ?_) | (refine ow_guard rfl rfl rfl (by rfl) ?_; refine ow_step (r_load rfl rfl (hP.cell (i := 0) rfl rfl)) rfl ?_)
      first | (refine ow_pass rfl rfl rfl (by rfl) rfl ?_) | (refine ow_guard rfl rfl rfl (by rfl) ?_; refine ow_step (r_neS rfl rfl) rfl ?_)
      refine ow_step (r_pick rfl rfl rfl) rfl ?_
      refine ow_step (r_move rfl) rfl ?_
      first | (refine ow_pass rfl rfl rfl (by rfl) rfl ?_) | (refine ow_guard rfl rfl rfl (by rfl) ?_; refine ow_step (r_fieldAddr rfl fl26_7) rfl ?_)
      first | (refine ow_pass rfl rfl rfl (by rfl) rfl ?_) | (refine ow_guard rfl rfl rfl (by rfl) ?_; refine ow_step (r_load rfl rfl (hP.cell (i := 1) rfl rfl)) rfl ?_)
      first | (refine ow_pass rfl rfl rfl (by rfl) rfl ?_) | (refine ow_guard rfl rfl rfl (by rfl) ?_; refine ow_step (r_fieldAddr rfl fl26_7) rfl ?_)
      first | (refine ow_pass rfl rfl rfl (by rfl) rfl ?_) | (refine ow_guard rfl rfl rfl (by rfl) ?_; refine ow_step (r_load rfl rfl (hP.cell (i := 0) rfl rfl)) rfl ?_)
      first | (refine ow_pass rfl rfl rfl (by rfl) rfl ?_) | (refine ow_guard rfl rfl rfl (by rfl) ?_; refine ow_step (r_neS rfl rfl) rfl ?_)
      refine ow_step (r_pick rfl rfl rfl) rfl ?_
      refine ow_step (r_move rfl) rfl ?_
      first | (refine ow_pass rfl rfl rfl (by rfl) rfl ?_) | (refine ow_guard rfl rfl rfl (by rfl) ?_; refine ow_step (r_fieldAddr rfl fl26_8) rfl ?_)
      first | (refine ow_pass rfl rfl rfl (by rfl) rfl ?_) | (refine ow_guard rfl rfl rfl (by rfl) ?_; refine ow_step (r_load rfl rfl (hP.cell (i := 1) rfl rfl)) rfl ?_)
      first | (refine ow_pass rfl rfl rfl (by rfl) rfl ?_) | (refine ow_guard rfl rfl rfl (by rfl) ?_; refine ow_step (r_fieldAddr rfl fl26_8) rfl ?_)
      first | (refine ow_pass rfl rfl rfl (by rfl) rfl ?_) | (refine ow_guard rfl rfl rfl (by rfl) ?_; refine ow_step (r_load rfl rfl (hP.cell (i := 0) rfl rfl)) rfl ?_)
      first | (refine ow_pass rfl rfl rfl (by rfl) rfl ?_) | (refine ow_guard rfl rfl rfl (by rfl) ?_; refine ow_step (r_neS rfl rfl) rfl ?_)
      refine ow_step (r_pick rfl rfl rfl) rfl ?_
      refine ow_step (r_move rfl) rfl ?_
      first | (refine ow_pass rfl rfl rfl (by rfl) rfl ?_) | (refine ow_guard rfl rfl rfl (by rfl) ?_; refine ow_step (r_fieldAddr rfl fl26_9) rfl ?_)
      first | (refine ow_pass rfl rfl rfl (by rfl) rfl ?_) | (refine ow_guard rfl rfl rfl (by rfl) ?_; refine ow_step (r_load rfl rfl (hP.cell (i := 1) rfl rfl)) rfl ?_)
      first | (refine ow_pass rfl rfl rfl (by rfl) rfl ?_) | (refine ow_guard rfl rfl rfl (by rfl) ?_; refine ow_step (r_fieldAddr rfl fl26_9) rfl ?_)
      first | (refine ow_pass rfl rfl rfl (by rfl) rfl ?_) | (refine ow_guard rfl rfl rfl (by rfl) ?_; refine ow_step (r_load rfl rfl (hP.cell (i := 0) rfl rfl)) rfl ?_)
      refine ow_guard rfl rfl rfl (by rfl) ?_
      refine ow_call en14 rfl (same_calls A9 B9 c9 d9 (fileAt xs i).f9 _ (Kd.C_below hC9 hP.old) (Kd.C_below hD9 hP.old) hc9 hd9 (by omega)) rfl ?_
      rintro e W ⟨rfl, hb⟩; replace hP := hP.below hb; clear hb; refine ⟨_, rfl, ?_⟩
      first | (refine ow_pass rfl rfl rfl (by rfl) rfl ?_) | (refine ow_guard rfl rfl rfl (by rfl) ?_; refine ow_step (r_not rfl) rfl ?_)
      refine ow_step (r_pick rfl rfl rfl) rfl ?_
      refine ow_nil ?_
      refine ew_next ?_
      refine cw_false rfl ?_
      refine cw_skip ?_
      refine ew_block ?_
      refine ew_next ?_
      -- region 5 tape.go:49
      refine cw_region ?_
      refine ow_step (r_move rfl) rfl ?_
      refine ow_step (i_add rfl rfl (by omega)) rfl ?_
      refine ow_step (r_assign rfl) rfl ?_
      refine ow_nil ?_
      refine ew_round (m := (fun i : Nat => xs.length - i)) (S := (fun i : Nat => [(0, .slice (some ⟨b, o, none⟩) xs.length c), (1, .slice (some ⟨b2, o2, none⟩) xs.length d), (5, .int .i64 ((i : Nat) : Int))])) (I := (fun (i : Nat) w' => i ≤ xs.length ∧ HP w w' [])) (u := i) (i + 1) ⟨rfl, rfl, rfl, trivial⟩ ⟨by omega, hP.sub (List.nil_sublist _)⟩ (by omega)
    · -- cond 1 no
      have hc1 := hb1; (try simp only [Bool.and_eq_true, Bool.or_eq_true, Bool.and_eq_false_iff, Bool.or_eq_false_iff, Bool.not_eq_true', Bool.not_eq_false', decide_eq_true_eq, decide_eq_false_iff_not, ne_eq, Decidable.not_not, not_true_eq_false, not_false_eq_true] at hc1)
      refine cw_exit ?_
      refine ew_then_exit ?_
      refine ew_then_exit ?_
      refine ew_block_hit ?_
      refine ew_next ?_
      refine cw_seq ?_
      -- region 12 tape.go:59
      refine cw_region ?_
      refine ow_step (r_assign rfl) rfl ?_
      refine ow_nil ?_
      refine ew_next ?_
      refine cw_ret ?_
      refine ew_ret1 rfl (.tmp rfl .nil) ⟨rfl, hP.old⟩
end Go.Proofs.YtlhmbncalonomaaDoor.Alk
