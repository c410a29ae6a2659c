/- Own walks: clone and twin, with the blocks that they make. -/
import Derived.Test.YtlhmbncalonomaaDoorFil2
import Derived.Test.YtlhmbncalonomaaDoorAlk
namespace Go.Proofs.YtlhmbncalonomaaDoor.Twn
open Go.RowKit Go.Proofs.YtlhmbncalonomaaDoor.Q Go.Proofs.YtlhmbncalonomaaDoor.Cpy Go.Proofs.YtlhmbncalonomaaDoor.Hand Go.Proofs.YtlhmbncalonomaaDoor.Arr Go.Proofs.YtlhmbncalonomaaDoor.Sx Go.Proofs.YtlhmbncalonomaaDoor.Head Go.Proofs.YtlhmbncalonomaaDoor.Snd Go.Proofs.YtlhmbncalonomaaDoor.TpB Go.Proofs.YtlhmbncalonomaaDoor.TpH Go.Proofs.YtlhmbncalonomaaDoor.RfH Go.Proofs.YtlhmbncalonomaaDoor.Spc Go.Proofs.YtlhmbncalonomaaDoor.Spd Go.Proofs.YtlhmbncalonomaaDoor.Fil Go.Proofs.YtlhmbncalonomaaDoor.Fil2 Go.Proofs.YtlhmbncalonomaaDoor.Alk Go.Proofs.YtlhmbncalonomaaDoorW.PrintWords Go.Proofs.YtlhmbncalonomaaDoorW.PrintLast Go.Proofs.YtlhmbncalonomaaDoorW.PrintMore
set_option linter.unusedVariables false
set_option linter.unusedSimpArgs false

/-- A file's cells, the last one given. -/
def rowV (x : S26) (v : Value) : List Value := [.string x.f0, .string x.f1, .string x.f2, .string x.f3, .int .i64 x.f4, .int .i64 x.f5, .int .i64 x.f6, .int .i64 x.f7, .int .i64 x.f8, v]
theorem rowF_V (x : S26) (A9 : Option Addr) (c9 : Nat) : rowF x A9 c9 = rowV x (.slice A9 x.f9.length c9) := rfl
/-- The cells of files, their last ones given. -/
def rowsF (xs : List S26) (f : Nat → Value) : List Value := (List.range (xs.length * 10)).map fun m => (rowV (fileAt xs (m / 10)) (f (m / 10))).getD (m % 10) undef
theorem rowsF_length (xs : List S26) (f : Nat → Value) : (rowsF xs f).length = xs.length * 10 := by simp [rowsF]
theorem rowsF_at (xs : List S26) (f : Nat → Value) (i k : Nat) (hi : i < xs.length) (hk : k < 10) : (rowsF xs f)[i * 10 + k]? = some ((rowV (fileAt xs i) (f i)).getD k undef) := by
  unfold rowsF
  rw [List.getElem?_map, List.getElem?_range (by omega)]
  simp only [Option.map_some, show (i * 10 + k) / 10 = i by omega, show (i * 10 + k) % 10 = k by omega]
theorem rowV_get (x : S26) (v : Value) (k : Nat) (hk : k < 10) : (rowV x v)[k]? = some ((rowV x v).getD k undef) := by
  rw [List.getD_eq_getElem?_getD, List.getElem?_eq_getElem (by simp [rowV]; exact hk)]
  rfl
theorem rowV_low (x : S26) (v v' : Value) (k : Nat) (hk : k < 9) : (rowV x v).getD k undef = (rowV x v').getD k undef := by
  match k, hk with
  | 0, _ | 1, _ | 2, _ | 3, _ | 4, _ | 5, _ | 6, _ | 7, _ | 8, _ => rfl
theorem rowsF_set (xs : List S26) (f : Nat → Value) (i : Nat) (v : Value) (hi : i < xs.length) : (rowsF xs f).set (i * 10 + 9) v = rowsF xs (fun j => if j = i then v else f j) := by
  apply List.ext_getElem?
  intro m
  rw [List.getElem?_set]
  by_cases hm : m < xs.length * 10
  · have e : m = (m / 10) * 10 + m % 10 := by omega
    have e2 : ∀ f, (rowsF xs f)[m]? = some ((rowV (fileAt xs (m / 10)) (f (m / 10))).getD (m % 10) undef) := fun f => by
      have := rowsF_at xs f (m / 10) (m % 10) (by omega) (by omega)
      rwa [← e] at this
    rw [e2, e2]
    by_cases h9 : i * 10 + 9 = m
    · rw [if_pos h9, if_pos (by rw [rowsF_length]; omega)]
      simp only [show m / 10 = i by omega, show m % 10 = 9 by omega, if_true]
      rfl
    · rw [if_neg h9]
      by_cases hj : m / 10 = i
      · have : m % 10 < 9 := by omega
        rw [rowV_low _ _ _ _ this]
      · simp only [hj, if_false]
  · rw [List.getElem?_eq_none (by rw [rowsF_length]; omega), List.getElem?_eq_none (by rw [rowsF_length]; omega), if_neg (by omega)]
theorem rowsF_congr (xs : List S26) (f g : Nat → Value) (h : ∀ i, i < xs.length → f i = g i) : rowsF xs f = rowsF xs g := by
  unfold rowsF
  apply List.map_congr_left
  intro m hm
  have := List.mem_range.1 hm
  rw [h (m / 10) (by omega)]
theorem rowsF_one (xs : List S26) (f : Nat → Value) (h : ∀ i, i < xs.length → (f i).oneCell' = true) : ∀ u ∈ rowsF xs f, u.oneCell' = true := fun u hu => by
  unfold rowsF at hu
  obtain ⟨m, hm, rfl⟩ := List.mem_map.1 hu
  have hm := List.mem_range.1 hm
  have hv := h (m / 10) (by omega)
  have : m % 10 < 10 := Nat.mod_lt _ (by omega)
  revert this
  generalize m % 10 = k
  intro hk
  match k, hk with
  | 0, _ | 1, _ | 2, _ | 3, _ | 4, _ | 5, _ | 6, _ | 7, _ | 8, _ => rfl
  | 9, _ => exact hv
/-- What a file's last cell must be. -/
def DataAt (W : World) (l : List Int) (v : Value) : Prop := ∃ A9 c9, v = .slice A9 l.length c9 ∧ l.length ≤ c9 ∧ (Kd.int .u8).C W A9 l.length l
theorem DataAt.below {W W' : World} {l : List Int} {v : Value} (h : DataAt W l v) (hb : Below W.heap.size W W') : DataAt W' l v := by
  obtain ⟨A9, c9, h1, h2, h3⟩ := h
  exact ⟨A9, c9, h1, h2, Kd.C_below h3 hb⟩
/-- Bytes that begin a block. -/
theorem u8_C {W : World} {g t : Nat} {l : List Int} {cs : List Value} (hl : l.length ≤ 9223372036854775807) (h : W.heap[g]? = some (.cells cs.toArray t (0, 0))) (hc : ∀ (j : Nat) u, (u8s l)[j]? = some u → cs[j]? = some u) : (Kd.int .u8).C W (some ⟨g, 0, none⟩) l.length l :=
  ⟨rfl, hl, fun _ => ⟨_, rfl, fun j p hj => ⟨[.int .u8 p], rfl, rfl, fun i u hu => by
    match i, hu with
    | 0, hu =>
      cases hu
      rw [Addr.add_mid, show 0 + (j * (Kd.int .u8).sz + 0) = j by show 0 + (j * 1 + 0) = j; omega]
      have := hc j (.int .u8 p) (by rw [List.getElem?_map, hj]; rfl)
      simp [World.cell?, h, this]⟩⟩⟩
theorem dataAt_own {W : World} {g t k : Nat} {l : List Int} {cs : List Value} (hl : l.length ≤ 9223372036854775807) (h : W.heap[g]? = some (.cells cs.toArray t (0, 0))) (hc : ∀ (j : Nat) u, (u8s l)[j]? = some u → cs[j]? = some u) (hk : l.length ≤ k) : DataAt W l (.slice (some ⟨g, 0, none⟩) l.length k) := ⟨_, _, rfl, hk, u8_C hl h hc⟩
theorem kdC_rows {W : World} {g : Nat} {xs : List S26} {f : Nat → Value} (hn : xs.length ≤ 9223372036854775807) (hc : ∀ m u, (rowsF xs f)[m]? = some u → W.cell? ⟨g, m, none⟩ = some u) (hf : ∀ i, i < xs.length → DataAt W (fileAt xs i).f9 (f i)) : Kd.C k26 W (some ⟨g, 0, none⟩) xs.length xs :=
  ⟨rfl, hn, fun _ => ⟨_, rfl, fun j p hj => by
    obtain ⟨hlt, hp⟩ := List.getElem?_eq_some_iff.1 hj
    have hp' : fileAt xs j = p := by unfold fileAt; rw [List.getD_eq_getElem?_getD, hj]; rfl
    obtain ⟨A9, c9, e, h1, h2⟩ := hf j hlt
    rw [hp'] at e h1 h2
    refine ⟨rowF p A9 c9, rfl, k26_mk W p h1 h2, fun i u hu => ?_⟩
    have hi : i < 10 := (List.getElem?_eq_some_iff.1 hu).1
    rw [Addr.add_mid, Nat.zero_add]
    refine hc _ _ ?_
    rw [show k26.sz = 10 from rfl, rowsF_at xs f j i hlt hi, hp', e, ← rowV_get _ _ _ hi]
    exact hu⟩⟩
theorem files_rows {w : World} {A : Option Addr} {xs : List S26} (h : Kd.C k26 w A xs.length xs) : ∃ f : Nat → Value, (∀ i, i < xs.length → DataAt w (fileAt xs i).f9 (f i)) ∧ ∀ b o, A = some ⟨b, o, none⟩ → ∀ m u, (rowsF xs f)[m]? = some u → w.cell? ⟨b, o + m, none⟩ = some u := by
  have key : ∀ i, ∃ v, i < xs.length → DataAt w (fileAt xs i).f9 v ∧ ∀ b o, A = some ⟨b, o, none⟩ → ∀ k u, (rowV (fileAt xs i) v)[k]? = some u → w.cell? ⟨b, o + i * 10 + k, none⟩ = some u := fun i => by
    by_cases hi : i < xs.length
    · obtain ⟨b, o, A9, c9, hA, hcells, hc9, hC9⟩ := files_at h i hi
      refine ⟨_, fun _ => ⟨⟨A9, c9, rfl, hc9, hC9⟩, fun b' o' hA' k u hk => ?_⟩⟩
      rw [hA] at hA'
      cases hA'
      exact hcells k u hk
    · exact ⟨undef, fun hi' => absurd hi' hi⟩
  obtain ⟨f, hf⟩ := Classical.skolem.1 key
  refine ⟨f, fun i hi => (hf i hi).1, fun b o hA m u hm => ?_⟩
  have hlt : m < xs.length * 10 := by have := (List.getElem?_eq_some_iff.1 hm).1; rwa [rowsF_length] at this
  have e : m = (m / 10) * 10 + m % 10 := by omega
  have h1 := rowsF_at xs f (m / 10) (m % 10) (by omega) (by omega)
  rw [← e, hm, ← rowV_get _ _ _ (by omega)] at h1
  have := (hf (m / 10) (by omega)).2 b o hA (m % 10) u h1.symm
  rwa [Nat.add_assoc, ← e] at this
/-- copy of bytes into a block of their own length. -/
theorem ow_copyU {Q : Exit → Act → World → Prop} {N : Nat} {sl : List (Nat × Value)} {W0 W : World} {ops : Array Oper} {rest : List Oper} {d m c c2 g : Nat} {ty : TypeId} {pos : String} {aft : Array Edge} {x y : Operand} {bs : List (Nat × List Value × Nat)} {A : Option Addr} {l : List Int} {cs : List Value}
    (hP : HP W0 W bs) (q : Nat) (hq : bs[q]? = some (g, cs, 5)) (hx : sv sl x = some (.slice (some ⟨g, 0, none⟩) m c)) (hy : sv sl y = some (.slice A l.length c2)) (hC : (Kd.int .u8).C W A l.length l) (hm : m = l.length) (hcs : cs.length = l.length) (hd : Nat.blt d N = true)
    (h : ∀ v W', HP W0 W' (bs.set q (g, u8s l, 5)) → OW Tryd.prog ops Q rest N ((d, v) :: sl) W') : OW Tryd.prog ops Q (⟨some d, .call ⟨.builtin .copy, #[x, y], #[24, 24]⟩, ty, pos, aft, none⟩ :: rest) N sl W := by
  subst hm
  rcases Nat.eq_zero_or_pos l.length with h0 | h0
  · have hl : l = [] := List.eq_nil_of_length_eq_zero h0
    subst hl
    have hcs0 : cs = [] := List.eq_nil_of_length_eq_zero (by simpa using hcs)
    subst hcs0
    refine ow_copy0 (sz := 1) hx hy Tryd.underlying24 size5 (by simp) hd (h _ _ ?_)
    have : bs.set q (g, u8s [], 5) = bs := by
      apply List.ext_getElem?
      intro j
      rw [List.getElem?_set]
      by_cases hj : q = j
      · subst hj
        obtain ⟨hlt, e⟩ := List.getElem?_eq_some_iff.1 hq
        rw [if_pos rfl, if_pos hlt, List.getElem?_eq_getElem hlt, e]
        rfl
      · rw [if_neg hj]
    rw [this]
    exact hP
  · obtain ⟨_, _, h2⟩ := hC
    obtain ⟨ad, rfl, hc⟩ := h2 h0
    refine ow_copy (ws := u8s l) (sz := 1) (o := 0) hP q hq hx hy Tryd.underlying24 size5 (by rw [u8s_length]; simp) (fun j u hj => ?_) u8s_one (by rw [u8s_length]; omega) hd (fun W' hg hP' => h _ _ ?_)
    · rw [List.getElem?_map] at hj
      obtain ⟨p, hp, rfl⟩ := Option.map_eq_some_iff.1 hj
      obtain ⟨c, _, rfl, hcell⟩ := hc j p hp
      have := hcell 0 _ rfl
      rwa [show j * (Kd.int .u8).sz + 0 = j from Nat.mul_one j] at this
    · rw [List.take_zero, List.nil_append, u8s_length, List.drop_eq_nil_of_le (by omega), List.append_nil] at hP'
      exact hP'

set_option maxRecDepth 100000 in
theorem clone_ex (A : Option Addr) (c : Nat) (l : List Int) (w : World) (hC : (Kd.int .u8).C w A l.length l) (hl : l.length ≤ 1099511627776) :
    Calls Tryd.prog 10 #[.slice A l.length c] w fun e w' => ∃ g, e = .returned (.slice (some ⟨g, 0, none⟩) l.length l.length) ∧ HP w w' [(g, u8s l, 5)] := by
  have hP := HP.start w
  refine calls_cw Tryd.func10 rfl rfl (by simp) ?_
  refine cw_seq ?_
  -- region 0 tape.go:28
  refine cw_region ?_
  refine ow_step (r_assign rfl) rfl ?_
  refine ow_nil ?_
  refine ew_next ?_
  refine cw_seq ?_
  -- region 1 tape.go:29
  refine cw_region ?_
  refine ow_step (r_move rfl) rfl ?_
  refine ow_step (r_len rfl (by rfl) rfl) rfl ?_
  refine ow_make1 (N := l.length) (M := l.length) (z := .int .u8 0) (m := 1) hP rfl rfl Tryd.underlying24 info5s rfl ⟨by omega, by omega, by omega, by omega⟩ (Int.toNat_natCast _) (Int.toNat_natCast _) rfl ?_
  clear hP; intro g W hz hg hP
  refine ow_step (r_assign rfl) rfl ?_
  refine ow_nil ?_
  refine ew_next ?_
  refine cw_seq ?_
  -- region 2 tape.go:30
  refine cw_region ?_
  refine ow_step (r_move rfl) rfl ?_
  refine ow_step (r_move rfl) rfl ?_
  refine ow_copyU hP 0 rfl rfl rfl (Kd.C_below hC hP.old) rfl (by rw [List.length_replicate]) rfl ?_
  clear hP; intro v W hP; dsimp only [List.set] at hP
  refine ow_nil ?_
  refine ew_next ?_
  refine cw_seq ?_
  -- region 3 tape.go:31
  refine cw_region ?_
  refine ow_step (r_move rfl) rfl ?_
  refine ow_step (r_assign rfl) rfl ?_
  refine ow_nil ?_
  refine ew_next ?_
  refine cw_ret ?_
  refine ew_ret1 rfl (.tmp rfl .nil) ⟨g, rfl, hP⟩

theorem ow_copyF {Q : Exit → Act → World → Prop} {N : Nat} {sl : List (Nat × Value)} {w W : World} {ops : Array Oper} {rest : List Oper} {d m c c2 g : Nat} {ty : TypeId} {pos : String} {aft : Array Edge} {x y : Operand} {bs : List (Nat × List Value × Nat)} {A : Option Addr} {xs : List S26} {cs : List Value} {f0 : Nat → Value}
    (hP : HP w W bs) (q : Nat) (hq : bs[q]? = some (g, cs, 26)) (hx : sv sl x = some (.slice (some ⟨g, 0, none⟩) m c)) (hy : sv sl y = some (.slice A xs.length c2)) (hf : ∀ i, i < xs.length → DataAt w (fileAt xs i).f9 (f0 i)) (hfc : ∀ b o, A = some ⟨b, o, none⟩ → ∀ m u, (rowsF xs f0)[m]? = some u → w.cell? ⟨b, o + m, none⟩ = some u) (hC : Kd.C k26 W A xs.length xs) (hm : m = xs.length) (hcs : cs.length = xs.length * 10) (h1 : ∀ u ∈ rowsF xs f0, u.oneCell' = true) (hd : Nat.blt d N = true)
    (h : ∀ v W', HP w W' (bs.set q (g, rowsF xs f0, 26)) → OW Tryd.prog ops Q rest N ((d, v) :: sl) W') : OW Tryd.prog ops Q (⟨some d, .call ⟨.builtin .copy, #[x, y], #[22, 22]⟩, ty, pos, aft, none⟩ :: rest) N sl W := by
  subst hm
  rcases Nat.eq_zero_or_pos xs.length with h0 | h0
  · have hcs0 : cs = [] := List.eq_nil_of_length_eq_zero (by omega)
    have hr0 : rowsF xs f0 = [] := List.eq_nil_of_length_eq_zero (by rw [rowsF_length]; omega)
    refine ow_copy0 (sz := 10) hx hy Tryd.underlying22 size26 (by rw [h0]; rfl) hd (h _ _ ?_)
    have : bs.set q (g, rowsF xs f0, 26) = bs := by
      rw [hr0, ← hcs0]
      apply List.ext_getElem?
      intro j
      rw [List.getElem?_set]
      by_cases hj : q = j
      · subst hj
        obtain ⟨hlt, e⟩ := List.getElem?_eq_some_iff.1 hq
        rw [if_pos rfl, if_pos hlt, List.getElem?_eq_getElem hlt, e]
      · rw [if_neg hj]
    rw [this]
    exact hP
  · obtain ⟨b, o, _, _, hA, _⟩ := files_at hC 0 h0
    subst hA
    refine ow_copy (ws := rowsF xs f0) (sz := 10) (o := 0) hP q hq hx hy Tryd.underlying22 size26 (by rw [rowsF_length]; simp) (fun j u hj => ?_) h1 (by rw [rowsF_length]; omega) hd (fun W' hg hP' => h _ _ ?_)
    · rw [Addr.add_mid]
      exact pw_cell_below hP.old (hfc b o rfl j u hj)
    · rw [List.take_zero, List.nil_append, rowsF_length, List.drop_eq_nil_of_le (by omega), List.append_nil] at hP'
      exact hP'
theorem en10 : Enters Tryd.prog 10 := fun args w => by kernel_rfl

set_option maxRecDepth 100000 in
theorem twin_calls (A : Option Addr) (c : Nat) (xs : List S26) (w : World) (hC : Kd.C k26 w A xs.length xs) (hs : Small xs) :
    Calls Tryd.prog 9 #[.slice A xs.length c] w fun e w' => ∃ (g : Nat) (G : Nat → Nat), e = .returned (.slice (some ⟨g, 0, none⟩) xs.length xs.length) ∧
      HP w w' ((g, rowsF xs (fun j => .slice (some ⟨G j, 0, none⟩) (fileAt xs j).f9.length (fileAt xs j).f9.length), 26) :: ((List.range xs.length).map fun j => (G j, u8s (fileAt xs j).f9, 5))) := by
  have hP := HP.start w
  have hlen := hs.len
  obtain ⟨f0, hf0, hfc⟩ := files_rows hC
  obtain ⟨j26, hj26, hj0⟩ := Option.map_eq_some_iff.1 info26
  simp only [Prod.mk.injEq] at hj0
  obtain ⟨hj1, hj2, hj3⟩ := hj0
  refine calls_cw Tryd.func9 rfl rfl (by simp) ?_
  refine cw_seq ?_
  -- region 0 tape.go:35
  refine cw_region ?_
  refine ow_step (r_assign rfl) rfl ?_
  refine ow_nil ?_
  refine ew_next ?_
  refine cw_seq ?_
  -- region 1 tape.go:36
  refine cw_region ?_
  refine ow_step (r_move rfl) rfl ?_
  refine ow_step (r_len rfl (by rfl) rfl) rfl ?_
  refine ow_make (z := .agg #[(.string ⟨#[]⟩), (.string ⟨#[]⟩), (.string ⟨#[]⟩), (.string ⟨#[]⟩), (.int .i64 0), (.int .i64 0), (.int .i64 0), (.int .i64 0), (.int .i64 0), (.slice none 0 0)]) hP rfl rfl Tryd.underlying22 hj26 hj1 ⟨by omega, by omega, by omega, by rw [hj3]; omega⟩ rfl ?_
  clear hP; intro g W hz hg hP
  rw [hj2, Int.toNat_natCast] at hP
  refine ow_step (r_assign rfl) rfl ?_
  refine ow_nil ?_
  refine ew_next ?_
  refine cw_seq ?_
  -- region 2 tape.go:37
  refine cw_region ?_
  refine ow_step (r_move rfl) rfl ?_
  refine ow_step (r_move rfl) rfl ?_
  refine ow_copyF hP 0 rfl rfl rfl hf0 hfc (Kd.C_below hC hP.old) rfl (by rw [Array.length_toList, size_madeCells]) (rowsF_one xs f0 (fun i hi => by obtain ⟨A9, c9, e, _⟩ := hf0 i hi; rw [e]; rfl)) rfl ?_
  clear hP; intro v W hP; dsimp only [List.set] at hP
  refine ow_nil ?_
  refine ew_next ?_
  refine cw_seq ?_
  refine cw_seq ?_
  -- region 3 tape.go:38
  refine cw_region ?_
  refine ow_step (r_assign rfl) rfl ?_
  refine ow_nil ?_
  refine ew_next ?_
  refine cw_block ?_
  refine cw_loop (α := Nat × (Nat → Nat)) (fun u : Nat × (Nat → Nat) => xs.length - u.1) (fun u : Nat × (Nat → Nat) => [(0, .slice A xs.length c), (3, .slice (some ⟨g, 0, none⟩) xs.length xs.length), (4, .int .i64 ((u.1 : Nat) : Int))]) (fun (u : Nat × (Nat → Nat)) w' => u.1 ≤ xs.length ∧ HP w w' ((g, rowsF xs (fun j => if j < u.1 then .slice (some ⟨u.2 j, 0, none⟩) (fileAt xs j).f9.length (fileAt xs j).f9.length else f0 j), 26) :: ((List.range u.1).map fun j => (u.2 j, u8s (fileAt xs j).f9, 5)))) (0, fun _ => 0) ⟨rfl, rfl, rfl, trivial⟩ ⟨Nat.zero_le _, ?_⟩ ?_
  · have : rowsF xs f0 = rowsF xs (fun j => if j < 0 then .slice (some ⟨(fun _ => 0) j, 0, none⟩) (fileAt xs j).f9.length (fileAt xs j).f9.length else f0 j) := rowsF_congr _ _ _ (fun i hi => by simp)
    rw [this] at hP
    exact hP
  clear hP; rintro ⟨i, G⟩ W ⟨hi, hP⟩; dsimp only at hi hP ⊢
  · -- round 0
    refine cw_seq ?_
    refine cw_seq ?_
    -- region 4 tape.go:38
    refine cw_region ?_
    refine ow_step (r_move rfl) rfl ?_
    refine ow_step (r_move rfl) rfl ?_
    refine ow_step (r_len rfl (by rfl) rfl) rfl ?_
    refine ow_step (r_lt rfl rfl) rfl ?_
    refine ow_nil ?_
    refine ew_next ?_
    refine cw_cond rfl (fun hb0 => ?_) (fun hb0 => ?_)
    · -- cond 0 yes
      have hc0 := hb0; (try simp only [Bool.and_eq_true, Bool.or_eq_true, Bool.and_eq_false_iff, Bool.or_eq_false_iff, Bool.not_eq_true', Bool.not_eq_false', decide_eq_true_eq, decide_eq_false_iff_not, ne_eq, Decidable.not_not, not_true_eq_false, not_false_eq_true] at hc0)
      have hi' : i < xs.length := by omega
      obtain ⟨b, o, A9, c9, hA, hcells, hc9, hC9⟩ := files_at hC i hi'
      have hsx := hs.at_ _ (fileAt_mem hi')
      subst hA
      refine cw_skip ?_
      refine ew_next ?_
      refine cw_seq ?_
      refine cw_block ?_
      -- region 6 tape.go:39
      refine cw_region ?_
      refine ow_step (r_move rfl) rfl ?_
      refine ow_step (r_move rfl) rfl ?_
      refine ow_step (r_move rfl) rfl ?_
      refine ow_step (r_move rfl) rfl ?_
      refine ow_step (r_indexSl' (o' := o + i * 10) rfl rfl Tryd.underlying22 size26 ⟨by omega, by omega⟩ (by rw [Int.toNat_natCast])) rfl ?_
      refine ow_step (r_fieldAddr rfl fl26_9) rfl ?_
      refine ow_step (r_load rfl rfl (pw_cell_below hP.old (hcells 9 _ rfl))) rfl ?_
      refine ow_call en10 rfl (clone_ex A9 c9 (fileAt xs i).f9 _ (Kd.C_below hC9 hP.old) (by omega)) rfl ?_
      rintro e W ⟨gc, rfl, hJ⟩; replace hP := hP.push hJ.old (hJ.ge (i := 0) rfl) (hJ.blk (i := 0) rfl); clear hJ; refine ⟨_, rfl, ?_⟩
      refine ow_step (r_indexSl' (o' := i * 10) rfl rfl Tryd.underlying22 size26 ⟨by omega, by omega⟩ (by rw [Int.toNat_natCast, Nat.zero_add])) rfl ?_
      refine ow_step (r_fieldAddr rfl fl26_9) rfl ?_
      refine ow_store hP 1 rfl (by rw [rowsF_length]; omega) rfl rfl rfl rfl rfl ?_
      clear hP; intro W hg hP; dsimp only [List.set] at hP; rw [rowsF_set _ _ _ _ hi'] at hP
      refine ow_nil ?_
      refine ew_block ?_
      refine ew_next ?_
      -- region 5 tape.go:38
      refine cw_region ?_
      refine ow_step (r_move rfl) rfl ?_
      refine ow_step (i_add rfl rfl (by omega)) rfl ?_
      refine ow_step (r_assign rfl) rfl ?_
      refine ow_nil ?_
      refine ew_round (α := Nat × (Nat → Nat)) (m := (fun u : Nat × (Nat → Nat) => xs.length - u.1)) (S := (fun u : Nat × (Nat → Nat) => [(0, .slice (some ⟨b, o, none⟩) xs.length c), (3, .slice (some ⟨g, 0, none⟩) xs.length xs.length), (4, .int .i64 ((u.1 : Nat) : Int))])) (I := (fun (u : Nat × (Nat → Nat)) w' => u.1 ≤ xs.length ∧ HP w w' ((g, rowsF xs (fun j => if j < u.1 then .slice (some ⟨u.2 j, 0, none⟩) (fileAt xs j).f9.length (fileAt xs j).f9.length else f0 j), 26) :: ((List.range u.1).map fun j => (u.2 j, u8s (fileAt xs j).f9, 5))))) (u := (i, G)) (i + 1, fun j => if j = i then gc else G j) ⟨rfl, rfl, rfl, trivial⟩ ⟨by dsimp only; omega, ?_⟩ (by dsimp only; omega)
      dsimp only
      have e1 : ((List.range (i + 1)).map fun j => ((fun j => if j = i then gc else G j) j, u8s (fileAt xs j).f9, 5)) = ((List.range i).map fun j => (G j, u8s (fileAt xs j).f9, 5)) ++ [(gc, u8s (fileAt xs i).f9, 5)] := by
        rw [List.range_succ, List.map_append]
        congr 1
        · apply List.map_congr_left
          intro j hj
          have := List.mem_range.1 hj
          dsimp only
          rw [if_neg (by omega)]
        · simp
      rw [e1]
      have e2 := rowsF_congr xs (fun j => if j = i then Value.slice (some ⟨gc, 0, none⟩) (fileAt xs i).f9.length (fileAt xs i).f9.length else (fun j => if j < i then .slice (some ⟨G j, 0, none⟩) (fileAt xs j).f9.length (fileAt xs j).f9.length else f0 j) j) (fun j => if j < i + 1 then .slice (some ⟨(fun j => if j = i then gc else G j) j, 0, none⟩) (fileAt xs j).f9.length (fileAt xs j).f9.length else f0 j) (fun j hj => by
        by_cases h1 : j = i
        · subst h1; simp
        · by_cases h2 : j < i
          · simp [h1, h2, show j < i + 1 by omega]
          · simp [h1, h2, show ¬ j < i + 1 by omega])
      rw [e2] at hP
      exact hP.perm ((List.Perm.cons _ List.perm_append_comm).trans (List.Perm.swap _ _ _))
    · -- cond 0 no
      have hc0 := hb0; (try simp only [Bool.and_eq_true, Bool.or_eq_true, Bool.and_eq_false_iff, Bool.or_eq_false_iff, Bool.not_eq_true', Bool.not_eq_false', decide_eq_true_eq, decide_eq_false_iff_not, ne_eq, Decidable.not_not, not_true_eq_false, not_false_eq_true] at hc0)
      obtain rfl : i = xs.length := by omega
      refine cw_exit ?_
      refine ew_then_exit ?_
      refine ew_then_exit ?_
      refine ew_block_hit ?_
      refine ew_next ?_
      refine cw_seq ?_
      -- region 7 tape.go:41
      refine cw_region ?_
      refine ow_step (r_move rfl) rfl ?_
      refine ow_step (r_assign rfl) rfl ?_
      refine ow_nil ?_
      refine ew_next ?_
      refine cw_ret ?_
      have e3 := rowsF_congr xs (fun j => if j < xs.length then .slice (some ⟨G j, 0, none⟩) (fileAt xs j).f9.length (fileAt xs j).f9.length else f0 j) (fun j => .slice (some ⟨G j, 0, none⟩) (fileAt xs j).f9.length (fileAt xs j).f9.length) (fun j hj => by simp [hj])
      rw [e3] at hP
      refine ew_ret1 rfl (.tmp rfl .nil) ⟨g, G, rfl, hP⟩
end Go.Proofs.YtlhmbncalonomaaDoor.Twn
