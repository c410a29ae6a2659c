/- Own walk: the law TapePuts. -/
import Derived.Test.YtlhmbncalonomaaDoorTwn
import Derived.Test.YtlhmbncalonomaaDoorPrP
import Derived.Test.YtlhmbncalonomaaDoorRfP
namespace Go.Proofs.YtlhmbncalonomaaDoor.PtL
open Go.RowKit Go.Proofs.YtlhmbncalonomaaDoor.Q Go.Proofs.YtlhmbncalonomaaDoor.Cpy Go.Proofs.YtlhmbncalonomaaDoor.Hand Go.Proofs.YtlhmbncalonomaaDoor.Arr Go.Proofs.YtlhmbncalonomaaDoor.Sx Go.Proofs.YtlhmbncalonomaaDoor.Head Go.Proofs.YtlhmbncalonomaaDoor.Snd Go.Proofs.YtlhmbncalonomaaDoor.TpB Go.Proofs.YtlhmbncalonomaaDoor.TpH Go.Proofs.YtlhmbncalonomaaDoor.RfH Go.Proofs.YtlhmbncalonomaaDoor.Spc Go.Proofs.YtlhmbncalonomaaDoor.Spd Go.Proofs.YtlhmbncalonomaaDoor.Fil Go.Proofs.YtlhmbncalonomaaDoor.Fil2 Go.Proofs.YtlhmbncalonomaaDoor.Alk Go.Proofs.YtlhmbncalonomaaDoor.Twn Go.Proofs.YtlhmbncalonomaaDoor.PrP Go.Proofs.YtlhmbncalonomaaDoor.RfP Go.Proofs.YtlhmbncalonomaaDoorW.PrintWords Go.Proofs.YtlhmbncalonomaaDoorW.PrintLast Go.Proofs.YtlhmbncalonomaaDoorW.PrintMore
set_option linter.unusedVariables false
set_option linter.unusedSimpArgs false

theorem info24 : (Tryd.prog.info? 24).map (fun j => (j.zero, j.size, j.bytes)) = some (some (.slice none 0 0), 1, 24) := by kernel_rfl
theorem size24 : (Tryd.prog.info? 24).map (·.size) = some 1 := by kernel_rfl
def markF : S26 := ⟨⟨#[109, 97, 114, 107]⟩, ⟨#[]⟩, ⟨#[]⟩, ⟨#[]⟩, 0, 0, 0, 0, 0, []⟩
def markR : List Value := rowV markF (.slice none 0 0)
def rCells (xs : List S26) (j : Nat) (d : Nat × Nat × List Value) : List Value := (u8s (fileAt xs j).f9 ++ u8s [165, 166, 167]) ++ d.2.2
def rBlk (xs : List S26) (j : Nat) (d : Nat × Nat × List Value) : Nat × List Value × Nat := (d.1, rCells xs j d, 5)
def DS (xs : List S26) (ds : List (Nat × Nat × List Value)) : List (Nat × List Value × Nat) := ds.mapIdx fun j d => rBlk xs j d
def rVal (xs : List S26) (j : Nat) (d : Nat × Nat × List Value) : Value := .slice (some ⟨d.1, 0, none⟩) ((fileAt xs j).f9.length + 3) d.2.1
def gVal (xs : List S26) (j : Nat) (d : Nat × Nat × List Value) : Value := .slice (some ⟨d.1, 0, none⟩) (fileAt xs j).f9.length d.2.1
def RM (xs : List S26) (ds : List (Nat × Nat × List Value)) : List Value := ds.mapIdx fun j d => rVal xs j d
def GF (xs : List S26) (ds : List (Nat × Nat × List Value)) (f0 : Nat → Value) (j : Nat) : Value := match ds[j]? with
  | some d => gVal xs j d
  | none => f0 j
def OKd (xs : List S26) (ds : List (Nat × Nat × List Value)) : Prop := ∀ (j : Nat) d, ds[j]? = some d → (fileAt xs j).f9.length + 3 ≤ d.2.1
theorem DS_snoc (xs : List S26) (ds : List (Nat × Nat × List Value)) (d : Nat × Nat × List Value) : DS xs (ds ++ [d]) = DS xs ds ++ [rBlk xs ds.length d] := List.mapIdx_concat
theorem RM_snoc (xs : List S26) (ds : List (Nat × Nat × List Value)) (d : Nat × Nat × List Value) : RM xs (ds ++ [d]) = RM xs ds ++ [rVal xs ds.length d] := List.mapIdx_concat
theorem GF_snoc (xs : List S26) (ds : List (Nat × Nat × List Value)) (d : Nat × Nat × List Value) (f0 : Nat → Value) (j : Nat) : (if j = ds.length then gVal xs ds.length d else GF xs ds f0 j) = GF xs (ds ++ [d]) f0 j := by
  unfold GF
  by_cases h : j = ds.length
  · subst h
    rw [if_pos rfl, List.getElem?_append_right (Nat.le_refl _), Nat.sub_self]
    rfl
  · rw [if_neg h]
    by_cases h2 : j < ds.length
    · rw [List.getElem?_append_left h2]
    · rw [List.getElem?_eq_none (by omega), List.getElem?_eq_none (by simp; omega)]
theorem OKd_snoc {xs : List S26} {ds : List (Nat × Nat × List Value)} {d : Nat × Nat × List Value} (h : OKd xs ds) (hd : (fileAt xs ds.length).f9.length + 3 ≤ d.2.1) : OKd xs (ds ++ [d]) := fun j d' hj => by
  by_cases h2 : j < ds.length
  · rw [List.getElem?_append_left h2] at hj
    exact h j d' hj
  · have : j = ds.length := by
      have := (List.getElem?_eq_some_iff.1 hj).1
      simp at this
      omega
    subst this
    rw [List.getElem?_append_right (Nat.le_refl _), Nat.sub_self] at hj
    cases hj
    exact hd
theorem cellOf {w : World} {b o t : Nat} {cs : List Value} {v : Value} (h : w.heap[b]? = some (.cells cs.toArray t (0, 0))) (hv : cs[o]? = some v) : w.cell? ⟨b, o, none⟩ = some v := by simp [World.cell?, h, hv]
/-- The list of rooms: nil, or a block. -/
def RoomsB (v : Value) (n : Nat) (cells : List Value) (bsR : List (Nat × List Value × Nat)) : Prop :=
  (v = .slice none 0 0 ∧ n = 0 ∧ cells = [] ∧ bsR = []) ∨ ∃ g cap spare, v = .slice (some ⟨g, 0, none⟩) n cap ∧ n ≤ cap ∧ cells.length = n * 1 ∧ (cells ++ spare).length = cap * 1 ∧ bsR = [(g, cells ++ spare, 24)]
theorem RoomsB.join {W0 W : World} {v : Value} {n : Nat} {cells : List Value} {bsR bs bsx : List (Nat × List Value × Nat)} (h : RoomsB v n cells bsR) (hP : HP W0 W bsx) (hp : (bsR ++ bs).Perm bsx) : Grow W0 W bs v n cells 24 1 := by
  have hP := hP.perm hp
  rcases h with ⟨h1, h2, h3, rfl⟩ | ⟨g, cap, spare, h1, h2, h3, h4, rfl⟩
  · exact .inl ⟨h1, h2, h3, hP⟩
  · exact .inr ⟨g, cap, spare, h1, h2, h3, h4, hP⟩
theorem RoomsB.split {W0 W : World} {v : Value} {n : Nat} {cells : List Value} {bs : List (Nat × List Value × Nat)} (h : Grow W0 W bs v n cells 24 1) : ∃ bsR, RoomsB v n cells bsR ∧ HP W0 W (bsR ++ bs) := by
  rcases h with ⟨h1, h2, h3, hP⟩ | ⟨g, cap, spare, h1, h2, h3, h4, hP⟩
  · exact ⟨[], .inl ⟨h1, h2, h3, rfl⟩, hP⟩
  · exact ⟨_, .inr ⟨g, cap, spare, h1, h2, h3, h4, rfl⟩, hP⟩
theorem DS_at {xs : List S26} {ds : List (Nat × Nat × List Value)} {j : Nat} {d : Nat × Nat × List Value} (h : ds[j]? = some d) : rBlk xs j d ∈ DS xs ds := by
  have : (DS xs ds)[j]? = some (rBlk xs j d) := by unfold DS; rw [List.getElem?_mapIdx, h]; rfl
  exact List.mem_of_getElem? this
/-- The files with their rooms, as they are handed on. -/
theorem given_C {w W : World} {g : Nat} {xs : List S26} {ds : List (Nat × Nat × List Value)} {f0 : Nat → Value} {more : List Value} {bsR : List (Nat × List Value × Nat)} (hs : Small xs) (hn : ds.length = xs.length) (hok : OKd xs ds) (hP : HP w W ((g, rowsF xs (GF xs ds f0) ++ more, 26) :: (DS xs ds ++ bsR))) : Kd.C k26 W (some ⟨g, 0, none⟩) xs.length xs := by
  have hlen := hs.len
  refine kdC_rows (f := GF xs ds f0) (by omega) (fun m u hm => hP.cell (i := 0) rfl (by rw [List.getElem?_append_left (List.getElem?_eq_some_iff.1 hm).1]; exact hm)) (fun i hi => ?_)
  have hsx := hs.at_ _ (fileAt_mem hi)
  obtain ⟨d, hd⟩ : ∃ d, ds[i]? = some d := ⟨_, List.getElem?_eq_getElem (by omega)⟩
  have h1 : GF xs ds f0 i = gVal xs i d := by unfold GF; rw [hd]
  have h2 := hok i d hd
  have h3 := hP.at_ _ (List.mem_cons_of_mem _ (List.mem_append_left _ (DS_at (xs := xs) hd)))
  rw [h1]
  refine dataAt_own (by omega) h3 (fun j u hj => ?_) (by omega)
  have hlt := (List.getElem?_eq_some_iff.1 hj).1
  show (rCells xs i d)[j]? = some u
  unfold rCells
  rw [List.append_assoc, List.getElem?_append_left hlt]
  exact hj
theorem grow_C {W0 W : World} {bs : List (Nat × List Value × Nat)} {v : Value} {l : List Int} (h : Grow W0 W bs v l.length (u8s l) 5 1) (hl : l.length ≤ 9223372036854775807) : ∃ A c, v = .slice A l.length c ∧ l.length ≤ c ∧ (Kd.int .u8).C W A l.length l := by
  rcases h with ⟨h1, h2, h3, hP⟩ | ⟨g, cap, spare, h1, h2, h3, h4, hP⟩
  · have : l = [] := List.eq_nil_of_length_eq_zero h2
    subst this
    exact ⟨none, 0, h1, Nat.le_refl _, rfl, hl, fun hn => absurd hn (by simp)⟩
  · exact ⟨_, cap, h1, h2, u8_C hl (hP.blk (i := 0) rfl) (fun j u hj => by rw [List.getElem?_append_left (List.getElem?_eq_some_iff.1 hj).1]; exact hj)⟩
theorem putB_bd (xs : List S26) (hs : Small xs) : (putB xs).length ≤ 16777216 := by
  unfold putB
  split
  · rename_i h
    have hno : ¬ 16777216 < putN xs := fun hc => by rw [(putE1 hc).1] at h; cases h
    have ha : xs.all okS = true := by
      cases ha : xs.all okS with
      | true => rfl
      | false => rw [(putE2 hno ha).1] at h; cases h
    have := recs_length xs hs xs.length (Nat.le_refl _) (fun j hj => List.all_eq_true.1 ha _ (fileAt_mem hj))
    rw [List.take_length] at this
    rw [List.length_append, List.length_replicate]
    omega
  · simp
theorem en9 : Enters Tryd.prog 9 := fun args w => by kernel_rfl
theorem en10 : Enters Tryd.prog 10 := fun args w => by kernel_rfl
theorem en11 : Enters Tryd.prog 11 := fun args w => by kernel_rfl
theorem en12 : Enters Tryd.prog 12 := fun args w => by kernel_rfl
theorem en13 : Enters Tryd.prog 13 := fun args w => by kernel_rfl
theorem en14 : Enters Tryd.prog 14 := fun args w => by kernel_rfl
theorem en15 : Enters Tryd.prog 15 := fun args w => by kernel_rfl

set_option maxRecDepth 100000 in
theorem law_calls (A : Option Addr) (c : Nat) (xs : List S26) (w : World) (hl : Laid w) (hC : Kd.C k26 w A xs.length xs) (hs : Small xs) :
    Calls Tryd.prog 3 #[.slice A xs.length c] w fun e w' => e = .returned (.bool true) ∧ Below w.heap.size w w' := by
  have hP := HP.start w
  have hlen := hs.len
  refine calls_cw Tryd.func3 rfl rfl (by simp) ?_
  refine cw_seq ?_
  -- region 0 tape.go:63
  refine cw_region ?_
  refine ow_step (r_assign rfl) rfl ?_
  refine ow_nil ?_
  refine ew_next ?_
  refine cw_seq ?_
  -- region 1 tape.go:64
  refine cw_region ?_
  refine ow_step (r_move rfl) rfl ?_
  refine ow_step (r_len rfl (by rfl) rfl) rfl ?_
  refine ow_step (r_assign rfl) rfl ?_
  refine ow_nil ?_
  refine ew_next ?_
  refine cw_seq ?_
  -- region 2 tape.go:65
  refine cw_region ?_
  refine ow_step (r_move rfl) rfl ?_
  refine ow_call en9 rfl (twin_calls A c xs _ hC hs) rfl ?_
  rintro e W ⟨g, G, rfl, hJ⟩; replace hP := hJ.sub (List.cons_sublist_cons.2 (List.nil_sublist _)); clear hJ; refine ⟨_, rfl, ?_⟩
  refine ow_step (r_build (v := .agg markR.toArray) rfl (fun w => by kernel_rfl)) rfl ?_
  refine ow_buildSlice hP (ws := markR) (e := 26) rfl (fun w => by kernel_rfl) rfl ?_
  clear hP; intro b19 W hz hg hP; clear hz hg
  obtain ⟨f0, hf0⟩ : ∃ f : Nat → Value, f = fun j => .slice (some ⟨G j, 0, none⟩) (fileAt xs j).f9.length (fileAt xs j).f9.length := ⟨_, rfl⟩
  rw [← hf0] at hP
  have hG : Grow w W [(b19, markR, 26)] (.slice (some ⟨g, 0, none⟩) xs.length xs.length) xs.length (rowsF xs f0) 26 10 := .inr ⟨g, xs.length, [], rfl, Nat.le_refl _, rowsF_length _ _, by rw [List.append_nil, rowsF_length], by rw [List.append_nil]; exact hP.perm (List.Perm.swap _ _ _)⟩
  refine ow_append (m := 1) (news := markR) hG rfl rfl Tryd.underlying22 info26 rfl (takes_slice Tryd.underlying22 rfl (fun j u hj => by rw [Addr.add_mid, Nat.zero_add]; exact hP.cell (i := 0) rfl hj) (by simp [markR, rowV, Value.oneCell'])) (by omega) (by omega) rfl ?_
  clear hP hG; intro v4 W hg hG; clear hg
  rcases hG with ⟨_, h0, _⟩ | ⟨g4, cap4, sp4, hv4, hcap, _, hl4, hP⟩
  · omega
  subst hv4
  replace hP := hP.sub (List.cons_sublist_cons.2 (List.nil_sublist _))
  refine ow_step (r_assign rfl) rfl ?_
  refine ow_nil ?_
  refine ew_next ?_
  refine cw_seq ?_
  -- region 3 tape.go:66
  refine cw_region ?_
  refine ow_step (r_assign rfl) rfl ?_
  refine ow_nil ?_
  refine ew_next ?_
  refine cw_seq ?_
  refine cw_seq ?_
  -- region 4 tape.go:67
  refine cw_region ?_
  refine ow_step (r_assign rfl) rfl ?_
  refine ow_nil ?_
  refine ew_next ?_
  refine cw_block ?_
  refine cw_loop (α := List (Nat × Nat × List Value) × Value) (fun u : List (Nat × Nat × List Value) × Value => xs.length - u.1.length) (fun u : List (Nat × Nat × List Value) × Value => [(0, .slice A xs.length c), (3, .int .i64 (xs.length : Int)), (4, .slice (some ⟨g4, 0, none⟩) (xs.length + 1) cap4), (5, u.2), (6, .int .i64 (u.1.length : Int))]) (fun (u : List (Nat × Nat × List Value) × Value) w' => u.1.length ≤ xs.length ∧ OKd xs u.1 ∧ ∃ bsR, RoomsB u.2 u.1.length (RM xs u.1) bsR ∧ HP w w' ((g4, rowsF xs (GF xs u.1 f0) ++ (markR ++ sp4), 26) :: (DS xs u.1 ++ bsR))) ([], .slice none 0 0) ⟨rfl, rfl, rfl, rfl, rfl, trivial⟩ ⟨Nat.zero_le _, (fun j d hj => by simp at hj), [], .inl ⟨rfl, rfl, rfl, rfl⟩, ?_⟩ ?_
  · rw [List.append_assoc] at hP
    have : GF xs [] f0 = f0 := by funext j; rfl
    dsimp only
    rw [this]
    exact hP
  clear hP; rintro ⟨ds, v5⟩ W ⟨hi, hok, bsR, hR, hP⟩; dsimp only at hi hok hR hP ⊢
  · -- round 0
    refine cw_seq ?_
    refine cw_seq ?_
    -- region 5 tape.go:67
    refine cw_region ?_
    refine ow_step (r_move rfl) rfl ?_
    refine ow_step (r_move rfl) rfl ?_
    refine ow_step (r_lt rfl rfl) rfl ?_
    refine ow_nil ?_
    refine ew_next ?_
    refine cw_cond rfl (fun hb0 => ?_) (fun hb0 => ?_)
    · -- cond 0 yes
      have hc0 := hb0; (try simp only [Bool.and_eq_true, Bool.or_eq_true, Bool.and_eq_false_iff, Bool.or_eq_false_iff, Bool.not_eq_true', Bool.not_eq_false', decide_eq_true_eq, decide_eq_false_iff_not, ne_eq, Decidable.not_not, not_true_eq_false, not_false_eq_true] at hc0)
      have hi' : ds.length < xs.length := by omega
      obtain ⟨b, o, A9, c9, hA, hcells, hc9, hC9⟩ := files_at hC ds.length hi'
      have hsx := hs.at_ _ (fileAt_mem hi')
      subst hA
      refine cw_skip ?_
      refine ew_next ?_
      refine cw_seq ?_
      refine cw_block ?_
      refine cw_seq ?_
      -- region 7 tape.go:68
      refine cw_region ?_
      refine ow_step (r_move rfl) rfl ?_
      refine ow_step (r_move rfl) rfl ?_
      refine ow_step (r_indexSl' (o' := o + ds.length * 10) rfl rfl Tryd.underlying22 size26 ⟨by omega, by omega⟩ (by rw [Int.toNat_natCast])) rfl ?_
      refine ow_step (r_fieldAddr rfl fl26_9) rfl ?_
      refine ow_step (r_load rfl rfl (pw_cell_below hP.old (hcells 9 _ rfl))) rfl ?_
      refine ow_call en10 rfl (clone_ex A9 c9 (fileAt xs ds.length).f9 _ (Kd.C_below hC9 hP.old) (by omega)) rfl ?_
      rintro e W ⟨gc, rfl, hJ⟩; replace hP := hP.push hJ.old (hJ.ge (i := 0) rfl) (hJ.blk (i := 0) rfl); clear hJ; refine ⟨_, rfl, ?_⟩
      refine ow_buildSlice hP (ws := u8s [165, 166, 167]) (e := 5) rfl (fun w => by kernel_rfl) rfl ?_
      clear hP; intro b32 W hz hg hP; clear hz hg
      have hG : Grow w W ((b32, u8s [165, 166, 167], 5) :: (g4, rowsF xs (GF xs ds f0) ++ (markR ++ sp4), 26) :: (DS xs ds ++ bsR)) (.slice (some ⟨gc, 0, none⟩) (fileAt xs ds.length).f9.length (fileAt xs ds.length).f9.length) (fileAt xs ds.length).f9.length (u8s (fileAt xs ds.length).f9) 5 1 := .inr ⟨gc, (fileAt xs ds.length).f9.length, [], rfl, Nat.le_refl _, by rw [u8s_length, Nat.mul_one], by rw [List.append_nil, u8s_length, Nat.mul_one], by rw [List.append_nil]; exact hP.perm (List.Perm.swap _ _ _)⟩
      refine ow_append (m := 3) (news := u8s [165, 166, 167]) hG rfl rfl Tryd.underlying24 info5s rfl (takes_slice Tryd.underlying24 rfl (fun j u hj => by rw [Addr.add_mid, Nat.zero_add]; exact hP.cell (i := 0) rfl hj) u8s_one) (by omega) (by omega) rfl ?_
      clear hP hG; intro v7 W hg hG; clear hg
      rcases hG with ⟨_, h0, _⟩ | ⟨h7, k7, sp7, hv7, hcap7, _, hl7, hP⟩
      · omega
      subst hv7
      obtain ⟨d, hd⟩ : ∃ d : Nat × Nat × List Value, d = (h7, k7, sp7) := ⟨_, rfl⟩
      refine ow_step (r_assign rfl) rfl ?_
      refine ow_nil ?_
      refine ew_next ?_
      refine cw_seq ?_
      -- region 8 tape.go:69
      refine cw_region ?_
      refine ow_step (r_move rfl) rfl ?_
      refine ow_step (r_move rfl) rfl ?_
      refine ow_buildSlice hP (ws := [.slice (some ⟨h7, 0, none⟩) ((fileAt xs ds.length).f9.length + 3) k7]) (e := 24) rfl (fun w => by kernel_rfl) rfl ?_
      clear hP; intro b36 W hz hg hP; clear hz hg
      have hG := hR.join (bs := (b36, [.slice (some ⟨h7, 0, none⟩) ((fileAt xs ds.length).f9.length + 3) k7], 24) :: (h7, (u8s (fileAt xs ds.length).f9 ++ u8s [165, 166, 167]) ++ sp7, 5) :: (b32, u8s [165, 166, 167], 5) :: (g4, rowsF xs (GF xs ds f0) ++ (markR ++ sp4), 26) :: DS xs ds) hP List.perm_append_comm
      refine ow_append (m := 1) (news := [.slice (some ⟨h7, 0, none⟩) ((fileAt xs ds.length).f9.length + 3) k7]) hG rfl rfl Tryd.underlying27 info24 rfl (takes_slice Tryd.underlying27 rfl (fun j u hj => by rw [Addr.add_mid, Nat.zero_add]; exact hP.cell (i := 0) rfl hj) (by simp [Value.oneCell'])) (by omega) (by omega) rfl ?_
      clear hP hG hR; intro v5' W hg hG; clear hg; have hP := hG.hp
      refine ow_step (r_assign rfl) rfl ?_
      refine ow_nil ?_
      refine ew_next ?_
      -- region 9 tape.go:70
      refine cw_region ?_
      refine ow_step (r_move rfl) rfl ?_
      refine ow_step (r_move rfl) rfl ?_
      refine ow_step (r_move rfl) rfl ?_
      refine ow_step (r_move rfl) rfl ?_
      refine ow_step (r_move rfl) rfl ?_
      refine ow_step (r_indexSl' (o' := o + ds.length * 10) rfl rfl Tryd.underlying22 size26 ⟨by omega, by omega⟩ (by rw [Int.toNat_natCast])) rfl ?_
      refine ow_step (r_fieldAddr rfl fl26_9) rfl ?_
      refine ow_step (r_load rfl rfl (pw_cell_below hP.old (hcells 9 _ rfl))) rfl ?_
      refine ow_step (r_len rfl (by rfl) rfl) rfl ?_
      refine ow_step (v := .slice (some ⟨h7, 0, none⟩) (fileAt xs ds.length).f9.length k7) (r_sliceTo (i := (((fileAt xs ds.length).f9.length : Nat) : Int)) rfl rfl Tryd.underlying24 size5 ⟨by omega, by omega⟩) rfl ?_
      refine ow_step (r_indexSl' (o' := ds.length * 10) rfl rfl Tryd.underlying22 size26 ⟨by omega, by omega⟩ (by rw [Int.toNat_natCast, Nat.zero_add])) rfl ?_
      refine ow_step (r_fieldAddr rfl fl26_9) rfl ?_
      refine ow_store hP 3 rfl (by rw [List.length_append, rowsF_length]; omega) rfl rfl rfl rfl rfl ?_
      intro W' hg hP'; replace hG := hG.mod (i := 3) rfl hg (hP'.blk (i := 3) rfl); clear hP hP' hg
      dsimp only [List.set] at hG
      rw [List.set_append_left _ _ (by rw [rowsF_length]; omega), rowsF_set _ _ _ _ hi'] at hG
      refine ow_nil ?_
      refine ew_block ?_
      refine ew_next ?_
      -- region 6 tape.go:67
      refine cw_region ?_
      refine ow_step (r_move rfl) rfl ?_
      refine ow_step (i_add rfl rfl (by omega)) rfl ?_
      refine ow_step (r_assign rfl) rfl ?_
      refine ow_nil ?_
      have e1 := rowsF_congr xs (fun j => if j = ds.length then Value.slice (some ⟨h7, 0, none⟩) (fileAt xs ds.length).f9.length k7 else GF xs ds f0 j) (GF xs (ds ++ [d]) f0) (fun j hj => by
        have := GF_snoc xs ds d f0 j
        rw [← this, hd]
        rfl)
      rw [e1] at hG
      obtain ⟨bsR', hR', hP'⟩ := RoomsB.split (hG.sub (.cons _ (.cons_cons _ (.cons _ (List.Sublist.refl _)))))
      refine ew_round (α := List (Nat × Nat × List Value) × Value) (m := (fun u : List (Nat × Nat × List Value) × Value => xs.length - u.1.length)) (S := (fun u : List (Nat × Nat × List Value) × Value => [(0, .slice (some ⟨b, o, none⟩) xs.length c), (3, .int .i64 (xs.length : Int)), (4, .slice (some ⟨g4, 0, none⟩) (xs.length + 1) cap4), (5, u.2), (6, .int .i64 (u.1.length : Int))])) (I := (fun (u : List (Nat × Nat × List Value) × Value) w' => u.1.length ≤ xs.length ∧ OKd xs u.1 ∧ ∃ bsR, RoomsB u.2 u.1.length (RM xs u.1) bsR ∧ HP w w' ((g4, rowsF xs (GF xs u.1 f0) ++ (markR ++ sp4), 26) :: (DS xs u.1 ++ bsR)))) (u := (ds, v5)) (ds ++ [d], v5') ⟨rfl, rfl, rfl, rfl, ?_, trivial⟩ ⟨by dsimp only; rw [List.length_append]; simp; omega, OKd_snoc hok (by rw [hd]; exact hcap7), bsR', ?_, ?_⟩ (by dsimp only; rw [List.length_append]; simp; omega)
      · dsimp only
        rw [List.length_append]
        rfl
      · dsimp only
        rw [RM_snoc, List.length_append, hd]
        exact hR'
      · dsimp only
        rw [DS_snoc]
        refine hP'.perm ?_
        have hb : rBlk xs ds.length d = (h7, (u8s (fileAt xs ds.length).f9 ++ u8s [165, 166, 167]) ++ sp7, 5) := by rw [hd]; rfl
        rw [hb]
        exact (List.perm_append_comm (l₁ := _ :: (DS xs ds ++ [_])) (l₂ := bsR')).trans (List.Perm.append_left bsR' ((List.Perm.cons _ List.perm_append_comm).trans (List.Perm.swap _ _ _)))
    · -- cond 0 no
      have hc0 := hb0; (try simp only [Bool.and_eq_true, Bool.or_eq_true, Bool.and_eq_false_iff, Bool.or_eq_false_iff, Bool.not_eq_true', Bool.not_eq_false', decide_eq_true_eq, decide_eq_false_iff_not, ne_eq, Decidable.not_not, not_true_eq_false, not_false_eq_true] at hc0)
      have hn : ds.length = xs.length := by omega
      refine cw_exit ?_
      refine ew_then_exit ?_
      refine ew_then_exit ?_
      refine ew_block_hit ?_
      refine ew_next ?_
      refine cw_seq ?_
      -- region 10 tape.go:72
      refine cw_region ?_
      refine ow_step (r_move rfl) rfl ?_
      refine ow_step (r_move rfl) rfl ?_
      refine ow_step (v := .slice (some ⟨g4, 0, none⟩) xs.length cap4) (r_sliceTo (i := ((xs.length : Nat) : Int)) rfl rfl Tryd.underlying22 size26 ⟨by omega, by omega⟩) rfl ?_
      refine ow_call en11 rfl (prPut_calls _ cap4 xs _ (hl.below hP.old) (given_C hs hn hok hP) hs) rfl ?_
      rintro e W ⟨v8, rfl, hG8⟩; replace hP := hP.below hG8.hp.old; refine ⟨_, rfl, ?_⟩
      refine ow_step (r_move rfl) rfl ?_
      refine ow_step (r_extract rfl rfl) rfl ?_
      refine ow_step (r_extract rfl rfl) rfl ?_
      refine ow_step (r_assign rfl) rfl ?_
      refine ow_step (r_assign rfl) rfl ?_
      refine ow_nil ?_
      refine ew_next ?_
      refine cw_seq ?_
      -- region 11 tape.go:73
      refine cw_region ?_
      refine ow_step (r_move rfl) rfl ?_
      refine ow_call en12 rfl (refPut_calls A c xs _ (Kd.C_below hC hP.old) hs) rfl ?_
      rintro e W3 ⟨v10, rfl, hG10⟩; replace hP := hP.below hG10.hp.old; replace hG8 := hG8.below hG10.hp.old; refine ⟨_, rfl, ?_⟩
      refine ow_step (r_move rfl) rfl ?_
      refine ow_step (r_extract rfl rfl) rfl ?_
      refine ow_step (r_extract rfl rfl) rfl ?_
      refine ow_step (r_assign rfl) rfl ?_
      refine ow_step (r_assign rfl) rfl ?_
      refine ow_nil ?_
      refine ew_next ?_
      refine cw_seq ?_
      refine cw_seq ?_
      -- region 12 tape.go:74
      refine cw_region ?_
      refine ow_step (r_assign rfl) rfl ?_
      refine ow_nil ?_
      refine ew_next ?_
      refine cw_block ?_
      refine cw_loop (fun i : Nat => xs.length - i) (fun i : Nat => [(0, .slice A xs.length c), (3, .int .i64 (xs.length : Int)), (4, .slice (some ⟨g4, 0, none⟩) (xs.length + 1) cap4), (5, v5), (8, v8), (9, .int .i64 (putE xs)), (10, v10), (11, .int .i64 (putE xs)), (12, .int .i64 ((i : Nat) : Int))]) (fun (i : Nat) w' => i ≤ xs.length ∧ w' = W3) 0 ⟨rfl, rfl, rfl, rfl, rfl, rfl, rfl, rfl, rfl, trivial⟩ ⟨Nat.zero_le _, rfl⟩ ?_
      rintro i W4 ⟨hi2, hW4⟩; subst hW4
      · -- round 1
        refine cw_seq ?_
        refine cw_seq ?_
        -- region 13 tape.go:74
        refine cw_region ?_
        refine ow_step (r_move rfl) rfl ?_
        refine ow_step (r_move rfl) rfl ?_
        refine ow_step (r_lt rfl rfl) rfl ?_
        refine ow_nil ?_
        refine ew_next ?_
        refine cw_cond rfl (fun hb1 => ?_) (fun hb1 => ?_)
        · -- cond 1 yes
          have hc1 := hb1; (try simp only [Bool.and_eq_true, Bool.or_eq_true, Bool.and_eq_false_iff, Bool.or_eq_false_iff, Bool.not_eq_true', Bool.not_eq_false', decide_eq_true_eq, decide_eq_false_iff_not, ne_eq, Decidable.not_not, not_true_eq_false, not_false_eq_true] at hc1)
          have hi' : i < xs.length := by omega
          obtain ⟨b, o, A9, c9, hA, hcells, hc9, hC9⟩ := files_at hC i hi'
          have hsx := hs.at_ _ (fileAt_mem hi')
          subst hA
          obtain ⟨d, hd⟩ : ∃ d, ds[i]? = some d := ⟨_, List.getElem?_eq_getElem (by omega)⟩
          have h3 := hP.at_ _ (List.mem_cons_of_mem _ (List.mem_append_left _ (DS_at (xs := xs) hd)))
          have hcd := hok i d hd
          have hrm : (RM xs ds)[i]? = some (rVal xs i d) := by unfold RM; rw [List.getElem?_mapIdx, hd]; rfl
          rcases hR with ⟨_, h0, _⟩ | ⟨g5, cap5, sp5, hv5, hc5, hl5, hl5', hbR⟩
          · omega
          subst hv5
          have h5 := hP.at_ (g5, RM xs ds ++ sp5, 24) (List.mem_cons_of_mem _ (List.mem_append_right _ (by rw [hbR]; exact List.mem_singleton_self _)))
          have hc5' : W4.cell? ⟨g5, i, none⟩ = some (rVal xs i d) := cellOf h5 (by rw [List.getElem?_append_left (List.getElem?_eq_some_iff.1 hrm).1]; exact hrm)
          have hx : ∀ (k : Nat) (u : Value), (u8s [165, 166, 167])[k]? = some u → (rCells xs i d)[(fileAt xs i).f9.length + k]? = some u := fun k u hk => by
            unfold rCells
            have hk3 := (List.getElem?_eq_some_iff.1 hk).1
            rw [List.append_assoc, List.getElem?_append_right (by rw [u8s_length]; omega), u8s_length, Nat.add_sub_cancel_left, List.getElem?_append_left hk3]
            exact hk
          have hq : ∀ (k : Nat) (u : Value), (u8s [165, 166, 167])[k]? = some u → W4.cell? ⟨d.1, (fileAt xs i).f9.length + k, none⟩ = some u := fun k u hk => cellOf (cs := rCells xs i d) h3 (hx k u hk)
          refine cw_skip ?_
          refine ew_next ?_
          refine cw_seq ?_
          refine cw_block ?_
          refine cw_seq ?_
          -- region 15 tape.go:75
          refine cw_region ?_
          refine ow_step (r_move rfl) rfl ?_
          refine ow_step (r_move rfl) rfl ?_
          refine ow_step (r_indexSl' (o' := o + i * 10) rfl rfl Tryd.underlying22 size26 ⟨by omega, by omega⟩ (by rw [Int.toNat_natCast])) rfl ?_
          refine ow_step (r_fieldAddr rfl fl26_9) rfl ?_
          refine ow_step (r_load rfl rfl (pw_cell_below hP.old (hcells 9 _ rfl))) rfl ?_
          refine ow_step (r_len rfl (by rfl) rfl) rfl ?_
          refine ow_step (r_assign rfl) rfl ?_
          refine ow_nil ?_
          refine ew_next ?_
          refine cw_seq ?_
          -- region 16 tape.go:76
          refine cw_region ?_
          refine ow_step (r_move rfl) rfl ?_
          refine ow_step (r_move rfl) rfl ?_
          refine ow_step (r_indexSl' (o' := i) rfl rfl Tryd.underlying27 size24 ⟨by omega, by omega⟩ (by rw [Int.toNat_natCast]; omega)) rfl ?_
          refine ow_step (r_load rfl rfl hc5') rfl ?_
          refine ow_step (r_move rfl) rfl ?_
          refine ow_step (r_indexSl' (o' := (fileAt xs i).f9.length + 0) rfl rfl Tryd.underlying24 size5 ⟨by omega, by omega⟩ (by omega)) rfl ?_
          refine ow_step (r_load rfl rfl (hq 0 _ rfl)) rfl ?_
          refine ow_step (r_ne rfl rfl) rfl ?_
          refine ow_step (r_move rfl) rfl ?_
          first | (refine ow_pass rfl rfl rfl (by rfl) rfl ?_) | (refine ow_guard rfl rfl rfl (by rfl) ?_; refine ow_step (r_move rfl) rfl ?_)
          first | (refine ow_pass rfl rfl rfl (by rfl) rfl ?_) | (refine ow_guard rfl rfl rfl (by rfl) ?_; refine ow_step (r_move rfl) rfl ?_)
          first | (refine ow_pass rfl rfl rfl (by rfl) rfl ?_) | (refine ow_guard rfl rfl rfl (by rfl) ?_; refine ow_step (r_indexSl' (o' := i) rfl rfl Tryd.underlying27 size24 ⟨by omega, by omega⟩ (by rw [Int.toNat_natCast]; omega)) rfl ?_)
          first | (refine ow_pass rfl rfl rfl (by rfl) rfl ?_) | (refine ow_guard rfl rfl rfl (by rfl) ?_; refine ow_step (r_load rfl rfl hc5') rfl ?_)
          first | (refine ow_pass rfl rfl rfl (by rfl) rfl ?_) | (refine ow_guard rfl rfl rfl (by rfl) ?_; refine ow_step (r_move rfl) rfl ?_)
          first | (refine ow_pass rfl rfl rfl (by rfl) rfl ?_) | (refine ow_guard rfl rfl rfl (by rfl) ?_; refine ow_step (i_add rfl rfl (by omega)) rfl ?_)
          first | (refine ow_pass rfl rfl rfl (by rfl) rfl ?_) | (refine ow_guard rfl rfl rfl (by rfl) ?_; refine ow_step (r_indexSl' (o' := (fileAt xs i).f9.length + 1) rfl rfl Tryd.underlying24 size5 ⟨by omega, by omega⟩ (by omega)) rfl ?_)
          first | (refine ow_pass rfl rfl rfl (by rfl) rfl ?_) | (refine ow_guard rfl rfl rfl (by rfl) ?_; refine ow_step (r_load rfl rfl (hq 1 _ rfl)) rfl ?_)
          first | (refine ow_pass rfl rfl rfl (by rfl) rfl ?_) | (refine ow_guard rfl rfl rfl (by rfl) ?_; refine ow_step (r_ne rfl rfl) rfl ?_)
          refine ow_step (r_pick rfl rfl rfl) rfl ?_
          refine ow_step (r_move rfl) rfl ?_
          first | (refine ow_pass rfl rfl rfl (by rfl) rfl ?_) | (refine ow_guard rfl rfl rfl (by rfl) ?_; refine ow_step (r_move rfl) rfl ?_)
          first | (refine ow_pass rfl rfl rfl (by rfl) rfl ?_) | (refine ow_guard rfl rfl rfl (by rfl) ?_; refine ow_step (r_move rfl) rfl ?_)
          first | (refine ow_pass rfl rfl rfl (by rfl) rfl ?_) | (refine ow_guard rfl rfl rfl (by rfl) ?_; refine ow_step (r_indexSl' (o' := i) rfl rfl Tryd.underlying27 size24 ⟨by omega, by omega⟩ (by rw [Int.toNat_natCast]; omega)) rfl ?_)
          first | (refine ow_pass rfl rfl rfl (by rfl) rfl ?_) | (refine ow_guard rfl rfl rfl (by rfl) ?_; refine ow_step (r_load rfl rfl hc5') rfl ?_)
          first | (refine ow_pass rfl rfl rfl (by rfl) rfl ?_) | (refine ow_guard rfl rfl rfl (by rfl) ?_; refine ow_step (r_move rfl) rfl ?_)
          first | (refine ow_pass rfl rfl rfl (by rfl) rfl ?_) | (refine ow_guard rfl rfl rfl (by rfl) ?_; refine ow_step (i_add rfl rfl (by omega)) rfl ?_)
          first | (refine ow_pass rfl rfl rfl (by rfl) rfl ?_) | (refine ow_guard rfl rfl rfl (by rfl) ?_; refine ow_step (r_indexSl' (o' := (fileAt xs i).f9.length + 2) rfl rfl Tryd.underlying24 size5 ⟨by omega, by omega⟩ (by omega)) rfl ?_)
          first | (refine ow_pass rfl rfl rfl (by rfl) rfl ?_) | (refine ow_guard rfl rfl rfl (by rfl) ?_; refine ow_step (r_load rfl rfl (hq 2 _ rfl)) rfl ?_)
          first | (refine ow_pass rfl rfl rfl (by rfl) rfl ?_) | (refine ow_guard rfl rfl rfl (by rfl) ?_; refine ow_step (r_ne rfl rfl) rfl ?_)
          refine ow_step (r_pick rfl rfl rfl) rfl ?_
          refine ow_nil ?_
          refine ew_next ?_
          refine cw_false rfl ?_
          refine cw_skip ?_
          refine ew_block ?_
          refine ew_next ?_
          -- region 14 tape.go:74
          refine cw_region ?_
          refine ow_step (r_move rfl) rfl ?_
          refine ow_step (i_add rfl rfl (by omega)) rfl ?_
          refine ow_step (r_assign rfl) rfl ?_
          refine ow_nil ?_
          refine ew_round (m := (fun i : Nat => xs.length - i)) (S := (fun i : Nat => [(0, .slice (some ⟨b, o, none⟩) xs.length c), (3, .int .i64 (xs.length : Int)), (4, .slice (some ⟨g4, 0, none⟩) (xs.length + 1) cap4), (5, .slice (some ⟨g5, 0, none⟩) ds.length cap5), (8, v8), (9, .int .i64 (putE xs)), (10, v10), (11, .int .i64 (putE xs)), (12, .int .i64 ((i : Nat) : Int))])) (I := (fun (i : Nat) w' => i ≤ xs.length ∧ w' = _)) (u := i) (i + 1) ⟨rfl, rfl, rfl, rfl, rfl, rfl, rfl, rfl, rfl, trivial⟩ ⟨by omega, rfl⟩ (by omega)
        · -- cond 1 no
          have hc1 := hb1; (try simp only [Bool.and_eq_true, Bool.or_eq_true, Bool.and_eq_false_iff, Bool.or_eq_false_iff, Bool.not_eq_true', Bool.not_eq_false', decide_eq_true_eq, decide_eq_false_iff_not, ne_eq, Decidable.not_not, not_true_eq_false, not_false_eq_true] at hc1)
          obtain ⟨A8, c8, e8, hc8, hC8⟩ := grow_C hG8 (by have := putB_bd xs hs; omega)
          obtain ⟨A10, c10, e10, hc10, hC10⟩ := grow_C hG10 (by have := putB_bd xs hs; omega)
          have hpb := putB_bd xs hs
          subst e8; subst e10
          refine cw_exit ?_
          refine ew_then_exit ?_
          refine ew_then_exit ?_
          refine ew_block_hit ?_
          refine ew_next ?_
          refine cw_seq ?_
          -- region 18 tape.go:80
          refine cw_region ?_
          refine ow_step (r_move rfl) rfl ?_
          refine ow_call en13 rfl (valiselaw24_num.calls _ _ _ rfl) rfl ?_
          rintro e W ⟨rfl, m_, rfl⟩; replace hP := hP.drewN m_; refine ⟨_, rfl, ?_⟩
          refine ow_step (r_move rfl) rfl ?_
          refine ow_step (r_eqS rfl rfl) rfl ?_
          refine ow_step (r_move rfl) rfl ?_
          first | (refine ow_pass rfl rfl rfl (by rfl) rfl ?_) | (refine ow_guard rfl rfl rfl (by rfl) ?_; refine ow_step (r_move rfl) rfl ?_)
          first | (refine ow_pass rfl rfl rfl (by rfl) rfl ?_) | (refine ow_guard rfl rfl rfl (by rfl) ?_; refine ow_step (r_move rfl) rfl ?_)
          refine ow_guard rfl rfl rfl (by rfl) ?_
          refine ow_call en14 rfl (same_calls A8 A10 c8 c10 (putB xs) _ ((HP.start _).drewN m_ |>.old |> Kd.C_below hC8) ((HP.start _).drewN m_ |>.old |> Kd.C_below hC10) hc8 hc10 (by omega)) rfl ?_
          rintro e W ⟨rfl, hb⟩; replace hP := hP.below hb; clear hb; refine ⟨_, rfl, ?_⟩
          refine ow_step (r_pick rfl rfl rfl) rfl ?_
          refine ow_step (r_move rfl) rfl ?_
          first | (refine ow_pass rfl rfl rfl (by rfl) rfl ?_) | (refine ow_guard rfl rfl rfl (by rfl) ?_; refine ow_step (r_move rfl) rfl ?_)
          first | (refine ow_pass rfl rfl rfl (by rfl) rfl ?_) | (refine ow_guard rfl rfl rfl (by rfl) ?_; refine ow_step (r_move rfl) rfl ?_)
          first | (refine ow_pass rfl rfl rfl (by rfl) rfl ?_) | (refine ow_guard rfl rfl rfl (by rfl) ?_; refine ow_step (v := .slice (some ⟨g4, 0, none⟩) xs.length cap4) (r_sliceTo (i := ((xs.length : Nat) : Int)) rfl rfl Tryd.underlying22 size26 ⟨by omega, by omega⟩) rfl ?_)
          first | (refine ow_pass rfl rfl rfl (by rfl) rfl ?_) | (refine ow_guard rfl rfl rfl (by rfl) ?_; refine ow_step (r_move rfl) rfl ?_)
          refine ow_guard rfl rfl rfl (by rfl) ?_
          refine ow_call en15 rfl (alike_calls _ _ cap4 c xs _ (given_C hs hn hok hP) (Kd.C_below hC hP.old) hs) rfl ?_
          rintro e W ⟨rfl, hb⟩; replace hP := hP.below hb; clear hb; refine ⟨_, rfl, ?_⟩
          refine ow_step (r_pick rfl rfl rfl) rfl ?_
          refine ow_step (r_move rfl) rfl ?_
          first | (refine ow_pass rfl rfl rfl (by rfl) rfl ?_) | (refine ow_guard rfl rfl rfl (by rfl) ?_; refine ow_step (r_move rfl) rfl ?_)
          first | (refine ow_pass rfl rfl rfl (by rfl) rfl ?_) | (refine ow_guard rfl rfl rfl (by rfl) ?_; refine ow_step (r_move rfl) rfl ?_)
          first | (refine ow_pass rfl rfl rfl (by rfl) rfl ?_) | (refine ow_guard rfl rfl rfl (by rfl) ?_; refine ow_step (r_indexSl' (o' := xs.length * 10) rfl rfl Tryd.underlying22 size26 ⟨by omega, by omega⟩ (by rw [Int.toNat_natCast, Nat.zero_add])) rfl ?_)
          first | (refine ow_pass rfl rfl rfl (by rfl) rfl ?_) | (refine ow_guard rfl rfl rfl (by rfl) ?_; refine ow_step (r_fieldAddr rfl fl26_0) rfl ?_)
          first | (refine ow_pass rfl rfl rfl (by rfl) rfl ?_) | (refine ow_guard rfl rfl rfl (by rfl) ?_; refine ow_step (v := .string ⟨#[109, 97, 114, 107]⟩) (r_load rfl rfl (hP.cell (i := 0) rfl (by rw [List.getElem?_append_right (by rw [rowsF_length]; omega), rowsF_length, Nat.add_zero, Nat.sub_self]; rfl))) rfl ?_)
          first | (refine ow_pass rfl rfl rfl (by rfl) rfl ?_) | (refine ow_guard rfl rfl rfl (by rfl) ?_; refine ow_step (r_seqS rfl rfl) rfl ?_)
          refine ow_step (r_pick rfl rfl rfl) rfl ?_
          refine ow_step (r_assign rfl) rfl ?_
          refine ow_nil ?_
          refine ew_next ?_
          refine cw_ret ?_
          refine ew_ret1 rfl (.tmp rfl .nil) ⟨rfl, hP.old⟩
end Go.Proofs.YtlhmbncalonomaaDoor.PtL
