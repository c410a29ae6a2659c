/- PlanDiffs, the plain law: both Diffs make the same list of writes: one step a place of the second text. -/
import Derived.Test.YtallfhhncibkpaaQ1
import Derived.Test.YtallfhhncibkpaaQ2
import Derived.Test.YtallfhhncibkpaaQ3
namespace Go.Proofs.Ytallfhhncibkpaa.DiffsPure
open Go.RowKit Go.Proofs.Ytallfhhncibkpaa.Q Go.Proofs.YtallfhhncibkpaaW.PrintWords Go.Proofs.YtallfhhncibkpaaW.PrintLast Go.Proofs.YtallfhhncibkpaaW.PrintMore

theorem w64 {x : Int} (h0 : -9223372036854775808 ≤ x) (h1 : x ≤ 9223372036854775807) : wrap64 x = x := by unfold wrap64; omega
theorem ev_eq {α : Type} {g f : Nat → Option α} {r : α} (h : ∀ k, g (k + 1) = f k) (k : Ev f r) : Ev g r := Ev.step h k
theorem rd_get (l : List Int) (i : Nat) (h : i < l.length) : rd l (i : Int) = l[i] := by simp [rd, List.getD_eq_getElem?_getD, h]

def was (old : List Int) (p : Nat) : Int := if p < old.length then rd old (p : Int) else 0
def top (ws : List S41) : S41 := rd_T41 ws (((ws.length - 1 : Nat) : Int))
def ext (ws : List S41) (d : List Int) : List S41 := ws.set (ws.length - 1) ⟨(top ws).f0, (top ws).f1 ++ d⟩
def dstep (old next : List Int) (st : List S41 × Int) (p : Nat) : List S41 × Int :=
  if rd next (p : Int) = was old p then st
  else if 0 ≤ st.2 ∧ (p : Int) - st.2 ≤ 9 then (ext st.1 ((next.take (p + 1)).drop (st.2 + 1).toNat), (p : Int))
  else (st.1 ++ [⟨(p : Int), [rd next (p : Int)]⟩], (p : Int))

structure Inv (p : Nat) (ws : List S41) (last : Int) : Prop where
  lo : -1 ≤ last
  hi : last < p
  non : 0 ≤ last ↔ 0 < ws.length
  len : ws.length ≤ p
  dat : ∀ w ∈ ws, w.f1.length ≤ (last + 1).toNat

theorem top_mem {ws : List S41} (h : 0 < ws.length) : top ws ∈ ws := by
  unfold top rd_T41
  rw [Int.toNat_natCast, List.getD_eq_getElem?_getD, List.getElem?_eq_getElem (by omega)]
  exact List.getElem_mem _

theorem inv_step {old next : List Int} {p : Nat} {ws : List S41} {last : Int} (h : Inv p ws last) (hp : p < next.length) : Inv (p + 1) (dstep old next (ws, last) p).1 (dstep old next (ws, last) p).2 := by
  have hlo := h.lo
  have hhi := h.hi
  have hlen := h.len
  have hnon := h.non
  unfold dstep
  split
  · exact ⟨hlo, by simp only; omega, hnon, by simp only; omega, h.dat⟩
  · split
    · rename_i hc
      simp only at hc
      have hpos := hnon.1 hc.1
      refine ⟨by simp only; omega, by simp only; omega, by simp only [ext, List.length_set]; omega, by simp only [ext, List.length_set]; omega, ?_⟩
      intro w hw
      rcases List.mem_or_eq_of_mem_set hw with hw | rfl
      · have := h.dat w hw
        simp only
        omega
      · simp only [List.length_append, List.length_drop, List.length_take]
        have := h.dat _ (top_mem hpos)
        omega
    · refine ⟨by simp only; omega, by simp only; omega, by simp only [List.length_append, List.length_singleton]; omega, by simp only [List.length_append, List.length_singleton]; omega, ?_⟩
      intro w hw
      rcases List.mem_append.1 hw with hw | hw
      · have := h.dat w hw
        simp only
        omega
      · obtain rfl := List.mem_singleton.1 hw
        simp only [List.length_singleton]
        omega

def run (old next : List Int) (d p : Nat) (st : List S41 × Int) : List S41 × Int := (List.range' p d).foldl (dstep old next) st
theorem run_zero (old next : List Int) (p : Nat) (st : List S41 × Int) : run old next 0 p st = st := rfl
theorem run_succ (old next : List Int) (d p : Nat) (st : List S41 × Int) : run old next (d + 1) p st = run old next d (p + 1) (dstep old next st p) := rfl

theorem plan_ev (old next : List Int) (hn : next.length ≤ 1048576) : ∀ (d p : Nat) (ws : List S41) (last : Int), p + d = next.length → Inv p ws last →
    Ev (fun k => plan_Diff.l0 k old next ws last next (next.length : Int) (p : Int)) (run old next d p (ws, last)).1 := by
  intro d
  induction d with
  | zero =>
    intro p ws last hd hi
    refine ev_eq (f := fun _ => some ws) (fun k => ?_) (Ev.now _)
    simp only [plan_Diff.l0]
    rw [if_neg (by omega)]
  | succ d ih =>
    intro p ws last hd hi
    have hi' := inv_step (old := old) hi (show p < next.length by omega)
    have hgo := ih (p + 1) _ _ (by omega) hi'
    rw [run_succ]
    have hw1 : wrap64 ((p : Int) + 1) = ((p + 1 : Nat) : Int) := w64 (by omega) (by omega)
    refine ev_eq (f := fun k => plan_Diff.j1 k old next ws last (p : Int) (rd next (p : Int)) (was old p) next (next.length : Int) (p : Int)) (fun k => ?_) ?_
    · simp only [plan_Diff.l0]
      rw [if_pos (by omega), if_pos (by omega), if_pos (by omega)]
      unfold was
      by_cases hp : p < old.length
      · rw [if_pos (by omega), if_pos hp]
      · rw [if_neg (by omega), if_neg hp]
    · unfold dstep at hgo ⊢
      by_cases hs : rd next (p : Int) = was old p
      · rw [if_pos hs] at hgo ⊢
        refine ev_eq (f := fun k => plan_Diff.l0 k old next ws last next (next.length : Int) ((p + 1 : Nat) : Int)) (fun k => ?_) hgo
        simp only [plan_Diff.j1]
        rw [if_pos hs, hw1]
      · rw [if_neg hs] at hgo ⊢
        have hlo := hi.lo
        have hhi := hi.hi
        have hlen := hi.len
        have hnon := hi.non
        have hw2 : wrap64 ((p : Int) - last) = (p : Int) - last := w64 (by omega) (by omega)
        by_cases hc : 0 ≤ last ∧ (p : Int) - last ≤ 9
        · rw [if_pos hc] at hgo ⊢
          have hpos := hnon.1 hc.1
          refine ev_eq (f := fun k => plan_Diff.l0 k old next (ext ws ((next.take (p + 1)).drop (last + 1).toNat)) (p : Int) next (next.length : Int) ((p + 1 : Nat) : Int)) (fun k => ?_) hgo
          have hw3 : wrap64 ((ws.length : Int) - 1) = ((ws.length - 1 : Nat) : Int) := by rw [w64 (by omega) (by omega)]; omega
          have hw4 : wrap64 (last + 1) = last + 1 := w64 (by omega) (by omega)
          have htd := hi.dat _ (top_mem hpos)
          simp only [plan_Diff.j1]
          rw [if_neg hs, if_pos hc.1, hw2, if_pos hc.2, hw3, hw4, hw1, if_pos (by omega), if_pos (by omega), if_pos (by omega), if_pos (by omega), if_pos (by omega), Int.toNat_natCast, Int.toNat_natCast, if_pos (by
            rw [List.length_drop, List.length_take]
            unfold top at htd
            omega)]
          rfl
        · rw [if_neg hc] at hgo ⊢
          refine ev_eq (f := fun k => plan_Diff.l0 k old next (ws ++ [(⟨(p : Int), [rd next (p : Int)]⟩ : S41)]) (p : Int) next (next.length : Int) ((p + 1 : Nat) : Int)) (fun k => ?_) hgo
          simp only [plan_Diff.j1]
          rw [if_neg hs, hw1, hw2]
          by_cases h0 : last ≥ 0
          · rw [if_pos h0, if_neg (by omega), if_pos (by omega)]
          · rw [if_neg h0, if_pos (by omega)]

theorem changed_eq (old next : List Int) (p : Nat) (hp : p < next.length) : valiseref15_changed.f old next (p : Int) = some (rd next (p : Int) != was old p) := by
  unfold valiseref15_changed.f was
  by_cases h : p < old.length
  · rw [if_pos (by omega), if_pos (by omega), if_pos (by omega), if_pos h]
  · rw [if_neg (by omega), if_pos (by omega), if_pos (by omega), if_neg h]

theorem set_top (ws : List S41) (x y : S41) : (ws.set (ws.length - 1) x).set (ws.length - 1) y = ws.set (ws.length - 1) y := by rw [List.set_set]
theorem top_set (ws : List S41) (x : S41) (h : 0 < ws.length) : top (ws.set (ws.length - 1) x) = x := by
  unfold top rd_T41
  rw [Int.toNat_natCast, List.length_set, List.getD_eq_getElem?_getD, List.getElem?_set_self (by omega)]
  rfl
theorem ext_ext (ws : List S41) (a b : List Int) (h : 0 < ws.length) : ext (ext ws a) b = ext ws (a ++ b) := by
  unfold ext
  rw [top_set _ _ h, List.length_set, List.set_set, List.append_assoc]
theorem ext_nil (ws : List S41) (h : 0 < ws.length) : ext ws [] = ws := by
  unfold ext top rd_T41
  rw [List.append_nil, Int.toNat_natCast, List.getD_eq_getElem?_getD, List.getElem?_eq_getElem (by omega), Option.getD_some]
  exact List.set_getElem_self _
theorem ext_new (ws : List S41) (p : Int) (d : List Int) : ext (ws ++ [(⟨p, []⟩ : S41)]) d = ws ++ [(⟨p, d⟩ : S41)] := by
  unfold ext top rd_T41
  rw [List.length_append, List.length_singleton, Nat.add_sub_cancel, Int.toNat_natCast, List.getD_eq_getElem?_getD, List.getElem?_append_right (Nat.le_refl _), Nat.sub_self]
  rw [List.set_append_right _ _ (Nat.le_refl _), Nat.sub_self]
  rfl
theorem mid_succ (next : List Int) (q p : Nat) (hq : q ≤ p) (hp : p < next.length) : (next.take (p + 1)).drop q = [rd next (q : Int)] ++ (next.take (p + 1)).drop (q + 1) := by
  rw [rd_get next q (by omega), List.drop_eq_getElem_cons (by rw [List.length_take]; omega)]
  simp [List.getElem_take]

/-- The inner loop of the document's Diff. -/
theorem inner_ev (old next : List Int) (hn : next.length ≤ 1048576) (p : Nat) (hp : p < next.length) (r : List S41) : ∀ (d q : Nat) (ws : List S41), q + d = p + 1 → 0 < ws.length → ws.length ≤ 1048577 → (top ws).f1.length ≤ q →
    Ev (fun k => valiseref15_Diff.l0 k old next (ext ws ((next.take (p + 1)).drop q)) ((p + 1 : Nat) : Int) ((p + 1 : Nat) : Int)) r →
    Ev (fun k => valiseref15_Diff.l1 k old next ws (p : Int) ((ws.length - 1 : Nat) : Int) (q : Int)) r := by
  intro d
  induction d with
  | zero =>
    intro q ws hd h0 hl ht hr
    have hq : (next.take (p + 1)).drop q = [] := by rw [List.drop_eq_nil_iff, List.length_take]; omega
    rw [hq, ext_nil ws h0] at hr
    refine ev_eq (f := fun k => valiseref15_Diff.l0 k old next ws ((p + 1 : Nat) : Int) ((p + 1 : Nat) : Int)) (fun k => ?_) hr
    have hw : wrap64 ((p : Int) + 1) = ((p + 1 : Nat) : Int) := w64 (by omega) (by omega)
    simp only [valiseref15_Diff.l1]
    rw [if_neg (by omega), hw]
  | succ d ih =>
    intro q ws hd h0 hl ht hr
    rw [mid_succ next q p (by omega) hp, ← ext_ext _ _ _ h0] at hr
    have hlen : (ext ws [rd next (q : Int)]).length = ws.length := by simp [ext]
    have htop : (top (ext ws [rd next (q : Int)])).f1 = (top ws).f1 ++ [rd next (q : Int)] := by unfold ext; rw [top_set _ _ h0]
    have := ih (q + 1) (ext ws [rd next (q : Int)]) (by omega) (by omega) (by omega) (by rw [htop, List.length_append, List.length_singleton]; omega) hr
    rw [hlen] at this
    refine ev_eq (f := fun k => valiseref15_Diff.l1 k old next (ext ws [rd next (q : Int)]) (p : Int) ((ws.length - 1 : Nat) : Int) ((q + 1 : Nat) : Int)) (fun k => ?_) this
    have hw : wrap64 ((q : Int) + 1) = ((q + 1 : Nat) : Int) := w64 (by omega) (by omega)
    simp only [valiseref15_Diff.l1]
    unfold top at ht
    rw [if_pos (by omega), if_pos (by omega), if_pos (by omega), if_pos (by omega), if_pos (by omega), if_pos (by omega), hw, Int.toNat_natCast]
    rfl

theorem ref_ev (old next : List Int) (hn : next.length ≤ 1048576) : ∀ (d p : Nat) (ws : List S41) (last : Int), p + d = next.length → Inv p ws last →
    Ev (fun k => valiseref15_Diff.l0 k old next ws (last + 1) (p : Int)) (run old next d p (ws, last)).1 := by
  intro d
  induction d with
  | zero =>
    intro p ws last hd hi
    refine ev_eq (f := fun _ => some ws) (fun k => ?_) (Ev.now _)
    simp only [valiseref15_Diff.l0]
    rw [if_neg (by omega)]
  | succ d ih =>
    intro p ws last hd hi
    have hi' := inv_step (old := old) hi (show p < next.length by omega)
    have hgo := ih (p + 1) _ _ (by omega) hi'
    rw [run_succ]
    have hw1 : wrap64 ((p : Int) + 1) = ((p + 1 : Nat) : Int) := w64 (by omega) (by omega)
    unfold dstep at hgo ⊢
    by_cases hs : rd next (p : Int) = was old p
    · rw [if_pos hs] at hgo ⊢
      refine ev_eq (f := fun k => valiseref15_Diff.l0 k old next ws (last + 1) ((p + 1 : Nat) : Int)) (fun k => ?_) hgo
      simp only [valiseref15_Diff.l0]
      rw [if_pos (by omega), changed_eq old next p (by omega), Option.bind_some, if_neg (by simp [hs]), hw1]
    · rw [if_neg hs] at hgo ⊢
      have hlo := hi.lo
      have hhi := hi.hi
      have hlen := hi.len
      have hnon := hi.non
      have hw2 : wrap64 ((p : Int) - (last + 1)) = (p : Int) - (last + 1) := w64 (by omega) (by omega)
      have hne : (rd next (p : Int) != was old p) = true := by rw [bne_iff_ne]; exact hs
      by_cases hc : 0 ≤ last ∧ (p : Int) - last ≤ 9
      · rw [if_pos hc] at hgo ⊢
        have hpos := hnon.1 hc.1
        obtain ⟨m, rfl⟩ := Int.eq_ofNat_of_zero_le hc.1
        have htd := hi.dat _ (top_mem hpos)
        rw [show ((m : Int) + 1).toNat = m + 1 from by omega] at hgo htd ⊢
        have hin := inner_ev old next hn p (by omega) _ (p - m) (m + 1) ws (by omega) hpos (by omega) htd (by simpa using hgo)
        refine ev_eq (f := fun k => valiseref15_Diff.j1 k old next ws ((m : Int) + 1) (p : Int) false) (fun k => ?_) ?_
        · simp only [valiseref15_Diff.l0]
          rw [if_pos (by omega), changed_eq old next p (by omega), Option.bind_some, if_pos hne, if_neg (by omega), hw2, decide_eq_false (by omega)]
        refine ev_eq (f := fun k => valiseref15_Diff.j2 k old next ws ((m : Int) + 1) (p : Int)) (fun k => ?_) ?_
        · simp only [valiseref15_Diff.j1]
          rw [if_neg (by simp)]
        refine ev_eq (f := fun k => valiseref15_Diff.l1 k old next ws (p : Int) ((ws.length - 1 : Nat) : Int) ((m + 1 : Nat) : Int)) (fun k => ?_) hin
        have hw3 : wrap64 ((ws.length : Int) - 1) = ((ws.length - 1 : Nat) : Int) := by rw [w64 (by omega) (by omega)]; omega
        simp only [valiseref15_Diff.j2]
        rw [hw3]
        rfl
      · rw [if_neg hc] at hgo ⊢
        have hnew : ext (ws ++ [(⟨(p : Int), []⟩ : S41)]) ((next.take (p + 1)).drop p) = ws ++ [(⟨(p : Int), [rd next (p : Int)]⟩ : S41)] := by
          rw [ext_new, mid_succ next p p (Nat.le_refl _) (by omega), List.drop_eq_nil_of_le (by rw [List.length_take]; omega), List.append_nil]
        have hin := inner_ev old next hn p (by omega) _ 1 p (ws ++ [(⟨(p : Int), []⟩ : S41)]) (by omega) (by simp) (by rw [List.length_append, List.length_singleton]; omega)
          (by unfold top rd_T41; rw [List.length_append, List.length_singleton, Nat.add_sub_cancel, Int.toNat_natCast, List.getD_eq_getElem?_getD, List.getElem?_append_right (Nat.le_refl _), Nat.sub_self]; simp)
          (by rw [hnew]; simpa using hgo)
        have hj2 : Ev (fun k => valiseref15_Diff.j2 k old next (ws ++ [(⟨(p : Int), []⟩ : S41)]) (p : Int) (p : Int)) (run old next d (p + 1) (ws ++ [(⟨(p : Int), [rd next (p : Int)]⟩ : S41)], (p : Int))).1 := by
          refine ev_eq (fun k => ?_) hin
          have hw3 : wrap64 (((ws ++ [(⟨(p : Int), []⟩ : S41)]).length : Int) - 1) = (((ws ++ [(⟨(p : Int), []⟩ : S41)]).length - 1 : Nat) : Int) := by
            rw [List.length_append, List.length_singleton, w64 (by omega) (by omega)]; omega
          simp only [valiseref15_Diff.j2]
          rw [hw3]
        have hj1 : Ev (fun k => valiseref15_Diff.j1 k old next ws (last + 1) (p : Int) true) (run old next d (p + 1) (ws ++ [(⟨(p : Int), [rd next (p : Int)]⟩ : S41)], (p : Int))).1 := by
          refine ev_eq (fun k => ?_) hj2
          simp only [valiseref15_Diff.j1]
          rw [if_pos trivial, if_pos (by omega)]
        refine ev_eq (fun k => ?_) hj1
        simp only [valiseref15_Diff.l0]
        rw [if_pos (by omega), changed_eq old next p (by omega), Option.bind_some, if_pos hne]
        by_cases h0 : ws.length = 0
        · rw [if_pos (by omega)]
        · rw [if_neg (by omega), hw2, decide_eq_true (by omega)]

theorem same_ev (l : List Int) (hn : l.length ≤ 9223372036854775807) : ∀ (d i : Nat), i + d = l.length → Ev (fun k => valiselaw15_same.l0 k l l (i : Int)) true := by
  intro d
  induction d with
  | zero =>
    intro i hd
    refine ev_eq (f := fun _ => some true) (fun k => ?_) (Ev.now _)
    simp only [valiselaw15_same.l0]
    rw [if_neg (by omega)]
  | succ d ih =>
    intro i hd
    refine ev_eq (fun k => ?_) (ih (i + 1) (by omega))
    simp only [valiselaw15_same.l0]
    rw [if_pos (by omega), if_pos (by omega), if_pos (by omega), if_pos trivial, w64 (by omega) (by omega)]
    rfl
theorem same_f (l : List Int) (hn : l.length ≤ 9223372036854775807) : Ev (fun k => valiselaw15_same.f k l l) true :=
  Ev.congr (fun k => by unfold valiselaw15_same.f; rw [if_pos rfl]; rfl) (same_ev l hn l.length 0 (by omega))

theorem writes_ev (ws : List S41) (hn : ws.length ≤ 9223372036854775807) (hd : ∀ w ∈ ws, w.f1.length ≤ 9223372036854775807) : ∀ (d i : Nat), i + d = ws.length → Ev (fun k => valiselaw15_sameWrites.l0 k ws ws (i : Int)) true := by
  intro d
  induction d with
  | zero =>
    intro i hi
    refine ev_eq (f := fun _ => some true) (fun k => ?_) (Ev.now _)
    simp only [valiselaw15_sameWrites.l0]
    rw [if_neg (by omega)]
  | succ d ih =>
    intro i hi
    have hm : rd_T41 ws (i : Int) ∈ ws := by
      unfold rd_T41
      rw [Int.toNat_natCast, List.getD_eq_getElem?_getD, List.getElem?_eq_getElem (by omega)]
      exact List.getElem_mem _
    refine ev_eq (f := fun k => (valiselaw15_same.f k (rd_T41 ws (i : Int)).f1 (rd_T41 ws (i : Int)).f1).bind fun t => if t = true then valiselaw15_sameWrites.l0 k ws ws ((i + 1 : Nat) : Int) else some false) (fun k => ?_) ?_
    · simp only [valiselaw15_sameWrites.l0]
      rw [if_pos (by omega), if_pos (by omega), if_pos (by omega), if_pos trivial, w64 (by omega) (by omega)]
      rfl
    · refine Ev.bind (same_f _ (hd _ hm)) ?_
      simpa using ih (i + 1) (by omega)
theorem writes_f (ws : List S41) (hn : ws.length ≤ 9223372036854775807) (hd : ∀ w ∈ ws, w.f1.length ≤ 9223372036854775807) : Ev (fun k => valiselaw15_sameWrites.f k ws ws) true :=
  Ev.congr (fun k => by unfold valiselaw15_sameWrites.f; rw [if_pos rfl]; rfl) (writes_ev ws hn hd ws.length 0 (by omega))

def diffs (old next : List Int) : List S41 := (run old next next.length 0 ([], -1)).1

theorem inv_run {old next : List Int} : ∀ (d p : Nat) (st : List S41 × Int), p + d = next.length → Inv p st.1 st.2 → Inv (p + d) (run old next d p st).1 (run old next d p st).2 := by
  intro d
  induction d with
  | zero => intro p st _ h; exact h
  | succ d ih =>
    intro p st hd h
    rw [run_succ, show p + (d + 1) = (p + 1) + d by omega]
    exact ih (p + 1) _ (by omega) (inv_step h (by omega))
theorem inv_start : Inv 0 [] (-1) := ⟨by omega, by omega, by simp, by simp, by simp⟩

theorem plan_diff (old next : List Int) (hn : next.length ≤ 1048576) : Ev (fun k => plan_Diff.f k old next) (diffs old next) :=
  Ev.congr (fun k => by unfold plan_Diff.f; rfl) (plan_ev old next hn next.length 0 [] (-1) (by omega) inv_start)
theorem ref_diff (old next : List Int) (hn : next.length ≤ 1048576) : Ev (fun k => valiseref15_Diff.f k old next) (diffs old next) :=
  Ev.congr (fun k => by unfold valiseref15_Diff.f; rfl) (ref_ev old next hn next.length 0 [] (-1) (by omega) inv_start)
theorem writes_same (old next : List Int) (hn : next.length ≤ 1048576) : Ev (fun k => valiselaw15_sameWrites.f k (diffs old next) (diffs old next)) true := by
  have h := inv_run (old := old) (next := next) next.length 0 ([], -1) (by omega) inv_start
  refine writes_f _ ?_ ?_
  · have := h.len
    unfold diffs
    omega
  · intro w hw
    have h1 := h.dat w hw
    have h2 := h.hi
    omega
/-- All three at one number of rounds. -/
theorem all (old next : List Int) (hn : next.length ≤ 1048576) : ∃ k, plan_Diff.f k old next = some (diffs old next) ∧ valiseref15_Diff.f k old next = some (diffs old next) ∧ valiselaw15_sameWrites.f k (diffs old next) (diffs old next) = some true := by
  obtain ⟨k1, h1⟩ := plan_diff old next hn
  obtain ⟨k2, h2⟩ := ref_diff old next hn
  obtain ⟨k3, h3⟩ := writes_same old next hn
  exact ⟨k1 + k2 + k3, h1 _ (by omega), h2 _ (by omega), h3 _ (by omega)⟩
end Go.Proofs.Ytallfhhncibkpaa.DiffsPure
