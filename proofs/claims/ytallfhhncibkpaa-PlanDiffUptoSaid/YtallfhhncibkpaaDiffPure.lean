/- PlanDiff, the plain law: what the writes of Diff are: where they begin and end, what stands in them, what lies between; laid over the first text they make the second one. -/
import Derived.Test.YtallfhhncibkpaaDiffsPure
import Derived.Test.YtallfhhncibkpaaApply
import Derived.Test.YtallfhhncibkpaaHand
namespace Go.Proofs.Ytallfhhncibkpaa.DiffPure
set_option linter.unusedVariables false
set_option linter.unusedSimpArgs false
open Go.RowKit Go.Proofs.Ytallfhhncibkpaa.Q Go.Proofs.Ytallfhhncibkpaa.DiffsPure Go.Proofs.Ytallfhhncibkpaa.Apl Go.Proofs.YtallfhhncibkpaaW.PrintWords

/-- A place that is not changed. -/
def Sm (old next : List Int) (q : Nat) : Prop := rd next (q : Int) = was old q
def wend (x : S41) : Int := x.f0 + (x.f1.length : Int)
/-- Where the write ahead of the i-th one ends. -/
def endAt (ws : List S41) : Nat → Int
  | 0 => 0
  | i + 1 => wend (rd_T41 ws ((i : Nat) : Int))

structure W (old next : List Int) (a : Int) (i : Nat) (x : S41) : Prop where
  pos : 0 < x.f1.length
  from0 : 0 ≤ a
  beg : a ≤ x.f0
  far : 0 < i → a + 9 ≤ x.f0
  fits : wend x ≤ (next.length : Int)
  gap : ∀ q : Nat, a ≤ q → (q : Int) < x.f0 → Sm old next q
  data : ∀ q : Nat, x.f0 ≤ q → (q : Int) < wend x → rd x.f1 ((q : Int) - x.f0) = rd next (q : Int)
  last : ¬ Sm old next (wend x - 1).toNat
  near : ∀ q : Nat, x.f0 ≤ q → (q : Int) < wend x → ∃ z : Nat, x.f0 ≤ z ∧ z ≤ q ∧ q ≤ z + 8 ∧ ¬ Sm old next z

structure G (old next : List Int) (p : Nat) (ws : List S41) (l : Int) : Prop where
  all : ∀ i, i < ws.length → W old next (endAt ws i) i (rd_T41 ws ((i : Nat) : Int))
  fin : endAt ws ws.length = l + 1
  rest : ∀ q : Nat, l < (q : Int) → q < p → Sm old next q

theorem rdT_get {ws : List S41} {i : Nat} (h : i < ws.length) : rd_T41 ws ((i : Nat) : Int) = ws[i] := by
  simp [rd_T41, List.getD_eq_getElem?_getD, List.getElem?_eq_getElem h]
theorem rdT_app {ws : List S41} {y : S41} {i : Nat} (h : i < ws.length) : rd_T41 (ws ++ [y]) ((i : Nat) : Int) = rd_T41 ws ((i : Nat) : Int) := by
  simp [rd_T41, List.getD_eq_getElem?_getD, List.getElem?_append_left h]
theorem rdT_last {ws : List S41} {y : S41} : rd_T41 (ws ++ [y]) ((ws.length : Nat) : Int) = y := by
  simp [rd_T41, List.getD_eq_getElem?_getD]
theorem rdT_set_ne {ws : List S41} {y : S41} {i j : Nat} (h : i ≠ j) : rd_T41 (ws.set j y) ((i : Nat) : Int) = rd_T41 ws ((i : Nat) : Int) := by
  simp [rd_T41, List.getD_eq_getElem?_getD, List.getElem?_set_ne (Ne.symm h)]
theorem rdT_set_eq {ws : List S41} {y : S41} {j : Nat} (h : j < ws.length) : rd_T41 (ws.set j y) ((j : Nat) : Int) = y := by
  simp [rd_T41, List.getD_eq_getElem?_getD, List.getElem?_set_self h]
theorem endAt_app {ws : List S41} {y : S41} {i : Nat} (h : i ≤ ws.length) : endAt (ws ++ [y]) i = endAt ws i := by
  cases i with
  | zero => rfl
  | succ i => simp only [endAt]; rw [rdT_app (by omega)]
theorem endAt_set {ws : List S41} {y : S41} {i j : Nat} (h : i ≤ j) : endAt (ws.set j y) i = endAt ws i := by
  cases i with
  | zero => rfl
  | succ i => simp only [endAt]; rw [rdT_set_ne (by omega)]

theorem mid_len (next : List Int) (m p : Nat) (hp : p < next.length) : ((next.take (p + 1)).drop m).length = p + 1 - m := by
  rw [List.length_drop, List.length_take]; omega
theorem mid_rd (next : List Int) (m p q : Nat) (hp : p < next.length) (h1 : m ≤ q) (h2 : q ≤ p) : rd ((next.take (p + 1)).drop m) ((q : Int) - (m : Int)) = rd next (q : Int) := by
  have e : ((q : Int) - (m : Int)).toNat = q - m := by omega
  simp only [rd, e, List.getD_eq_getElem?_getD, List.getElem?_drop, List.getElem?_take, Int.toNat_natCast]
  rw [show m + (q - m) = q by omega, if_pos (by omega)]
theorem rd_app_l (a b : List Int) (i : Int) (h0 : 0 ≤ i) (h : i < a.length) : rd (a ++ b) i = rd a i := by
  simp [rd, List.getD_eq_getElem?_getD, List.getElem?_append_left (show i.toNat < a.length by omega)]
theorem rd_app_r (a b : List Int) (i : Int) (h : (a.length : Int) ≤ i) : rd (a ++ b) i = rd b (i - (a.length : Int)) := by
  simp only [rd, List.getD_eq_getElem?_getD, List.getElem?_append_right (show a.length ≤ i.toNat by omega)]
  rw [show i.toNat - a.length = (i - (a.length : Int)).toNat by omega]

theorem g_step {old next : List Int} {p : Nat} {ws : List S41} {l : Int} (hi : Inv p ws l) (h : G old next p ws l) (hp : p < next.length) : G old next (p + 1) (dstep old next (ws, l) p).1 (dstep old next (ws, l) p).2 := by
  have hlo := hi.lo
  have hhi := hi.hi
  have hnon := hi.non
  unfold dstep
  by_cases hs : rd next (p : Int) = was old p
  · rw [if_pos hs]
    refine ⟨h.all, h.fin, fun q h1 h2 => ?_⟩
    by_cases hq : q = p
    · subst hq; exact hs
    · exact h.rest q h1 (by omega)
  · rw [if_neg hs]
    have hns : ¬ Sm old next p := hs
    by_cases hc : 0 ≤ l ∧ (p : Int) - l ≤ 9
    · rw [if_pos hc]
      have hpos : 0 < ws.length := hnon.1 hc.1
      obtain ⟨m, rfl⟩ := Int.eq_ofNat_of_zero_le hc.1
      obtain ⟨j, hj⟩ : ∃ j, ws.length = j + 1 := ⟨ws.length - 1, by omega⟩
      have hW := h.all j (by omega)
      have hfin := h.fin
      rw [hj] at hfin
      simp only [endAt] at hfin
      obtain ⟨x, hx⟩ : ∃ x, x = rd_T41 ws ((j : Nat) : Int) := ⟨_, rfl⟩
      rw [← hx] at hW hfin
      have htop : top ws = x := by unfold top; rw [hj, Nat.add_sub_cancel, ← hx]
      have hend : wend x = (m : Int) + 1 := hfin
      unfold wend at hend
      rw [show ((m : Int) + 1).toNat = m + 1 by omega]
      have hml := mid_len next (m + 1) p hp
      obtain ⟨d, hd⟩ : ∃ d, d = (next.take (p + 1)).drop (m + 1) := ⟨_, rfl⟩
      rw [← hd] at hml ⊢
      obtain ⟨y, hy⟩ : ∃ y : S41, y = ⟨x.f0, x.f1 ++ d⟩ := ⟨_, rfl⟩
      have hyf : y.f0 = x.f0 := by rw [hy]
      have hyd : y.f1 = x.f1 ++ d := by rw [hy]
      have hye : wend y = (p : Int) + 1 := by unfold wend; rw [hyf, hyd, List.length_append]; omega
      have hext : ext ws d = ws.set j y := by unfold ext; rw [htop, hj, Nat.add_sub_cancel, hy]
      simp only [hext]
      refine ⟨?_, ?_, fun q h1 h2 => by omega⟩
      · intro i hi2
        rw [List.length_set] at hi2
        rw [endAt_set (by omega)]
        by_cases hij : i = j
        · subst hij
          rw [rdT_set_eq hi2]
          refine ⟨by rw [hyd, List.length_append]; have := hW.pos; omega, hW.from0, by rw [hyf]; exact hW.beg, fun h0 => by rw [hyf]; exact hW.far h0, by rw [hye]; omega, fun q h1 h2 => hW.gap q h1 (by rw [← hyf]; exact h2), ?_, ?_, ?_⟩
          · intro q h1 h2
            rw [hyf] at h1 ⊢
            rw [hye] at h2
            rw [hyd]
            by_cases hq : (q : Int) < wend x
            · unfold wend at hq
              rw [rd_app_l _ _ _ (by omega) (by omega)]
              exact hW.data q h1 hq
            · unfold wend at hq
              rw [rd_app_r _ _ _ (by omega), hd, show (q : Int) - x.f0 - (x.f1.length : Int) = (q : Int) - ((m + 1 : Nat) : Int) by omega]
              exact mid_rd next (m + 1) p q hp (by omega) (by omega)
          · rw [hye, show ((p : Int) + 1 - 1).toNat = p by omega]
            exact hns
          · intro q h1 h2
            rw [hyf] at h1 ⊢
            rw [hye] at h2
            by_cases hq : (q : Int) < wend x
            · exact hW.near q h1 hq
            · unfold wend at hq
              have hpos2 := hW.pos
              by_cases hqp : q = p
              · subst hqp
                exact ⟨q, by omega, Nat.le_refl _, by omega, hns⟩
              · refine ⟨m, by omega, by omega, by omega, ?_⟩
                have := hW.last
                rw [show wend x - 1 = (m : Int) by unfold wend; omega, Int.toNat_natCast] at this
                exact this
        · rw [rdT_set_ne hij]
          exact h.all i (by omega)
      · rw [List.length_set, hj]
        simp only [endAt]
        rw [rdT_set_eq (by omega), hye]
    · rw [if_neg hc]
      show G old next (p + 1) (ws ++ [(⟨(p : Int), [rd next (p : Int)]⟩ : S41)]) (p : Int)
      refine ⟨?_, ?_, fun q h1 h2 => by omega⟩
      · intro i hi2
        simp only [List.length_append, List.length_singleton] at hi2
        rw [endAt_app (by omega)]
        by_cases hij : i = ws.length
        · subst hij
          rw [rdT_last]
          have hfin := h.fin
          have he : wend (⟨(p : Int), [rd next (p : Int)]⟩ : S41) = (p : Int) + 1 := by simp [wend]
          refine ⟨by simp, by omega, by simp only; omega, fun h0 => by simp only; omega, by rw [he]; omega, fun q h1 h2 => ?_, ?_, ?_, ?_⟩
          · simp only at h2
            exact h.rest q (by omega) (by omega)
          · intro q h1 h2
            simp only at h1
            rw [he] at h2
            obtain rfl : q = p := by omega
            simp [rd]
          · rw [he, show ((p : Int) + 1 - 1).toNat = p by omega]
            exact hns
          · intro q h1 h2
            simp only at h1
            rw [he] at h2
            obtain rfl : q = p := by omega
            exact ⟨q, by simp, Nat.le_refl _, by omega, hns⟩
        · rw [rdT_app (by omega)]
          exact h.all i (by omega)
      · simp only [List.length_append, List.length_singleton, endAt]
        rw [rdT_last]
        simp [wend]

theorem g_run {old next : List Int} : ∀ (d p : Nat) (st : List S41 × Int), p + d = next.length → Inv p st.1 st.2 → G old next p st.1 st.2 → G old next (p + d) (run old next d p st).1 (run old next d p st).2 := by
  intro d
  induction d with
  | zero => intro p st _ _ h; exact h
  | succ d ih =>
    intro p st hd hi h
    rw [run_succ, show p + (d + 1) = (p + 1) + d by omega]
    exact ih (p + 1) _ (by omega) (inv_step hi (by omega)) (g_step hi h (by omega))
theorem g_all (old next : List Int) : ∃ l, G old next next.length (diffs old next) l := by
  have h := g_run (old := old) (next := next) next.length 0 ([], -1) (by omega) inv_start ⟨fun i h => by simp at h, by simp [endAt], fun q _ h => by omega⟩
  rw [Nat.zero_add] at h
  exact ⟨_, h⟩
theorem g_rest {old next : List Int} {l : Int} (h : G old next next.length (diffs old next) l) (q : Nat) (h0 : endAt (diffs old next) (diffs old next).length ≤ q) (h1 : q < next.length) : Sm old next q :=
  h.rest q (by have := h.fin; omega) h1

/-! ### the update -/
theorem right_ev {old next ws : List Int} {l : Int} (ds : List S41) (h : G old next next.length ds l) (hn : next.length ≤ 1048576) : ∀ (d i : Nat), i + d = ds.length →
    Ev (fun k => journal_right.l0 k (next.length : Int) (endAt ds i) ds (ds.length : Int) (i : Int)) true := by
  intro d
  induction d with
  | zero =>
    intro i hd
    refine ev_eq (f := fun _ => some true) (fun k => ?_) (Ev.now _)
    simp only [journal_right.l0]
    rw [if_neg (by omega)]
  | succ d ih =>
    intro i hd
    have hW := h.all i (by omega)
    have hlen : ds.length ≤ 9223372036854775807 ∨ True := .inr trivial
    have h1 := hW.pos
    have h2 := hW.from0
    have h3 := hW.beg
    have h4 := hW.fits
    have h5 := ih (i + 1) (by omega)
    simp only [endAt] at h5
    unfold wend at h4 h5
    refine ev_eq (fun k => ?_) h5
    simp only [journal_right.l0]
    by_cases hsmall : (i : Int) + 1 ≤ 9223372036854775807
    · rw [if_pos (by omega), if_pos (by omega), if_pos (by omega), if_neg (by omega), if_neg (by omega), if_neg (by omega), w64 (by omega) (by omega), if_neg (by omega), w64 (by omega) (by omega), w64 (by omega) hsmall]
      rfl
    · exfalso
      have hend : ∀ j, j ≤ ds.length → (j : Int) ≤ endAt ds j := by
        intro j
        induction j with
        | zero => intro _; simp [endAt]
        | succ j ih2 =>
          intro hj
          have a := ih2 (by omega)
          have b := h.all j (by omega)
          have c := b.beg
          have e := b.pos
          simp only [endAt, wend]
          omega
      have a := hend i (by omega)
      omega
theorem right_f (old next : List Int) (hn : next.length ≤ 1048576) : Ev (fun k => journal_right.f k (next.length : Int) (diffs old next)) true := by
  obtain ⟨l, h⟩ := g_all old next
  exact Ev.congr (fun k => by unfold journal_right.f; rfl) (right_ev (ws := []) (diffs old next) h hn (diffs old next).length 0 (by omega))

theorem rd_splice_in (nx cs : List Int) (off : Nat) (q : Nat) (h1 : off ≤ q) (h2 : q < off + cs.length) (hf : off + cs.length ≤ nx.length) : rd (splice nx off cs) (q : Int) = rd cs ((q : Int) - (off : Int)) := by
  unfold splice
  have hl : (nx.take off).length = off := by rw [List.length_take]; omega
  rw [rd_app_r _ _ _ (by omega), rd_app_l _ _ _ (by omega) (by omega), hl]
theorem rd_splice_out (nx cs : List Int) (off : Nat) (q : Nat) (h : q < off ∨ off + cs.length ≤ q) (hf : off + cs.length ≤ nx.length) : rd (splice nx off cs) (q : Int) = rd nx (q : Int) := by
  unfold splice
  have hl : (nx.take off).length = off := by rw [List.length_take]; omega
  rcases h with h | h
  · rw [rd_app_l _ _ _ (by omega) (by omega)]
    simp [rd, List.getD_eq_getElem?_getD, List.getElem?_take, h]
  · rw [rd_app_r _ _ _ (by omega), rd_app_r _ _ _ (by omega), hl]
    simp only [rd, List.getD_eq_getElem?_getD, List.getElem?_drop, Int.toNat_natCast]
    rw [show off + cs.length + ((q : Int) - (off : Int) - (cs.length : Int)).toNat = q by omega]
theorem list_ext_rd {a b : List Int} (hl : a.length = b.length) (h : ∀ q : Nat, q < a.length → rd a (q : Int) = rd b (q : Int)) : a = b := by
  apply List.ext_getElem hl
  intro i h1 h2
  have := h i h1
  rwa [rd_get a i h1, rd_get b i h2] at this

theorem lays_all {old next : List Int} {l : Int} {ds : List S41} (h : G old next next.length ds l) : ∀ (d i : Nat) (cur : List Int), i + d = ds.length → cur.length = next.length → (∀ q : Nat, (q : Int) < endAt ds i → rd cur (q : Int) = rd next (q : Int)) →
    (∀ q : Nat, endAt ds i ≤ q → q < next.length → rd cur (q : Int) = was old q) → lays (ds.drop i) cur = some next := by
  intro d
  induction d with
  | zero =>
    intro i cur hd hl h1 h2
    obtain rfl : i = ds.length := by omega
    rw [List.drop_length]
    simp only [lays]
    congr 1
    refine list_ext_rd hl (fun q hq => ?_)
    by_cases hc : (q : Int) < endAt ds ds.length
    · exact h1 q hc
    · rw [h2 q (by omega) (by omega)]
      exact (h.rest q (by have := h.fin; omega) (by omega)).symm
  | succ d ih =>
    intro i cur hd hl h1 h2
    have hW := h.all i (by omega)
    rw [List.drop_eq_getElem_cons (by omega), ← rdT_get (by omega)]
    obtain ⟨x, hx⟩ : ∃ x, x = rd_T41 ds ((i : Nat) : Int) := ⟨_, rfl⟩
    rw [← hx] at hW ⊢
    have a1 := hW.pos
    have a2 := hW.from0
    have a3 := hW.beg
    have a4 := hW.fits
    have a5 : wend x = x.f0 + (x.f1.length : Int) := rfl
    simp only [lays]
    rw [if_pos ⟨by omega, by omega⟩]
    have hen : endAt ds (i + 1) = wend x := by simp only [endAt]; rw [← hx]
    obtain ⟨f, hf⟩ := Int.eq_ofNat_of_zero_le (show 0 ≤ x.f0 by omega)
    have htk : x.f1.take (cur.length - x.f0.toNat) = x.f1 := List.take_of_length_le (by omega)
    have hft : x.f0.toNat = f := by omega
    refine ih (i + 1) (lay cur x) (by omega) ?_ ?_ ?_
    · rw [lay_length _ _ (by omega) (by omega)]; exact hl
    · intro q hq
      rw [hen] at hq
      unfold lay
      rw [htk, hft]
      by_cases hin : f ≤ q
      · rw [rd_splice_in _ _ _ _ hin (by omega) (by omega)]
        have := hW.data q (by omega) hq
        rw [hf] at this
        exact this
      · rw [rd_splice_out _ _ _ _ (.inl (by omega)) (by omega)]
        by_cases hq2 : (q : Int) < endAt ds i
        · exact h1 q hq2
        · rw [h2 q (by omega) (by omega)]
          exact (hW.gap q (by omega) (by omega)).symm
    · intro q hq hqn
      rw [hen] at hq
      unfold lay
      rw [htk, hft, rd_splice_out _ _ _ _ (.inr (by omega)) (by omega)]
      exact h2 q (by omega) hqn
theorem start_rd (old : List Int) (n q : Nat) (hq : q < n) : rd (splice (List.replicate n 0) 0 (old.take n)) (q : Int) = was old q := by
  have hl : (old.take n).length = min n old.length := List.length_take
  unfold was
  by_cases h : q < old.length
  · rw [if_pos h, rd_splice_in _ _ _ _ (by omega) (by omega) (by rw [List.length_replicate]; omega)]
    simp [rd, List.getD_eq_getElem?_getD, List.getElem?_take, hq]
  · rw [if_neg h, rd_splice_out _ _ _ _ (.inr (by omega)) (by rw [List.length_replicate]; omega)]
    simp [rd, List.getD_eq_getElem?_getD, hq]
theorem lays_diffs (old next : List Int) : lays (diffs old next) (splice (List.replicate next.length 0) 0 (old.take next.length)) = some next := by
  obtain ⟨l, h⟩ := g_all old next
  have := lays_all h (diffs old next).length 0 (splice (List.replicate next.length 0) 0 (old.take next.length)) (by omega) ?_ ?_ ?_
  · exact this
  · rw [length_splice _ _ _ (by rw [List.length_take, List.length_replicate]; omega), List.length_replicate]
  · intro q hq
    simp only [endAt] at hq
    omega
  · intro q _ hq
    exact start_rd old _ q hq

/-! ### Diff of two equal texts -/
theorem was_self (l : List Int) (p : Nat) (h : p < l.length) : was l p = rd l (p : Int) := by unfold was; rw [if_pos h]
theorem run_self (l : List Int) : ∀ (d p : Nat), p + d = l.length → run l l d p ([], -1) = ([], -1) := by
  intro d
  induction d with
  | zero => intro p _; rfl
  | succ d ih =>
    intro p hd
    rw [run_succ]
    have : dstep l l ([], -1) p = ([], -1) := by unfold dstep; rw [if_pos (was_self l p (by omega)).symm]
    rw [this]
    exact ih (p + 1) (by omega)
theorem diffs_self (l : List Int) : diffs l l = [] := by unfold diffs; rw [run_self l l.length 0 (by omega)]

/-! ### once more -/
theorem copied_ev (l : List Int) (hn : l.length ≤ 1048576) : Ev (fun k => valiselaw15_copied.f k l) l :=
  Ev.of (valiselaw15_copied.mono l) (Hand.copied_f l (by omega))
theorem fit_ev1 : Ev (fun k => plan_Fit.f k [(⟨0, 9⟩ : S24)] 5) 0 := Ev.of (plan_Fit.mono _ _) (k := 2) (by simp [plan_Fit.f, plan_Fit.l0, rd_T24, wrap64])
theorem fit_ev2 : Ev (fun k => plan_Fit.f k [(⟨0, 1⟩ : S24)] 5) (-1) := Ev.of (plan_Fit.mono _ _) (k := 3) (by simp [plan_Fit.f, plan_Fit.l0, rd_T24, wrap64])

theorem again_end (o n : List Int) (ho : o.length ≤ 1048576) (hn : n.length ≤ 1048576) :
    Ev (fun k => (plan_Diff.f k o n).bind fun t201 => ((valiselaw15_copied.f k o).bind fun t204 => ((valiselaw15_copied.f k n).bind fun t207 => ((plan_Diff.f k t204 t207).bind fun t210 => ((valiselaw15_sameWrites.f k t201 t210).bind fun t213 => (if t213 = true then ((some (([(⟨0, 9⟩ : S24)] : List (S24)) : List (S24))).bind fun y214 => ((plan_Fit.f k y214 5).bind fun t217 => (if 0 < (y214.length : Int) then (if t217 = 0 then ((plan_Fit.f k (y214.set (0 : Int).toNat (⟨0, 1⟩ : S24)) 5).bind fun t219 => (some (t219 == (-1)))) else (some false)) else (none)))) else (some false))))))) true := by
  refine Ev.bind (plan_diff o n hn) (Ev.bind (copied_ev o ho) (Ev.bind (copied_ev n hn) (Ev.bind (plan_diff o n hn) (Ev.bind (writes_same o n hn) ?_))))
  refine Ev.congr (f := fun k => (plan_Fit.f k [(⟨0, 9⟩ : S24)] 5).bind fun t217 => if t217 = 0 then ((plan_Fit.f k [(⟨0, 1⟩ : S24)] 5).bind fun t219 => (some (t219 == (-1)))) else (some false)) (fun k => ?_) ?_
  · rw [if_pos rfl, Option.bind_some]
    rfl
  · refine Ev.bind fit_ev1 ?_
    refine Ev.congr (f := fun k => (plan_Fit.f k [(⟨0, 1⟩ : S24)] 5).bind fun t219 => (some (t219 == (-1)))) (fun k => by rw [if_pos rfl]) ?_
    exact Ev.bind fit_ev2 (Ev.now true)
theorem again_l1 (o : List Int) (ho : o.length ≤ 1048576) : ∀ (d i : Nat) (n : List Int), i + d = n.length → n.length ≤ 1048576 → Ev (fun k => valiselaw15_again.l1 k o n (i : Int)) true := by
  intro d
  induction d with
  | zero =>
    intro i n hd hn
    refine ev_eq (fun k => ?_) (again_end o n ho hn)
    simp only [valiselaw15_again.l1]
    rw [if_neg (by omega)]
  | succ d ih =>
    intro i n hd hn
    refine ev_eq (fun k => ?_) (ih (i + 1) (n.set i (Go.bits .xor .u8 (rd n (i : Int)) 255)) (by rw [List.length_set]; omega) (by rw [List.length_set]; exact hn))
    simp only [valiselaw15_again.l1]
    rw [if_pos (by omega), if_pos (by omega), w64 (by omega) (by omega), Int.toNat_natCast]
    rfl
theorem again_l0 (l : List Int) (hl : l.length ≤ 1048576) (n : List Int) (hn : n.length ≤ 1048576) : ∀ (d i : Nat) (o : List Int), i + d = l.length → o.length = l.length → Ev (fun k => valiselaw15_again.l0 k l o n (i : Int)) true := by
  intro d
  induction d with
  | zero =>
    intro i o hd ho
    refine ev_eq (fun k => ?_) (again_l1 o (by omega) n.length 0 n (by omega) hn)
    simp only [valiselaw15_again.l0]
    rw [if_neg (by omega)]
    rfl
  | succ d ih =>
    intro i o hd ho
    have hw : wrap64 (wrap64 ((l.length : Int) - 1) - (i : Int)) = (l.length : Int) - 1 - (i : Int) := by rw [w64 (x := (l.length : Int) - 1) (by omega) (by omega), w64 (by omega) (by omega)]
    refine ev_eq (fun k => ?_) (ih (i + 1) (o.set i (rd l ((l.length : Int) - 1 - (i : Int)))) (by omega) (by rw [List.length_set]; exact ho))
    simp only [valiselaw15_again.l0]
    rw [if_pos (by omega), hw, if_pos (by omega), if_pos (by omega), if_pos (by omega), w64 (by omega) (by omega), Int.toNat_natCast]
    rfl
theorem again_f (old next : List Int) (ho : old.length ≤ 1048576) (hn : next.length ≤ 1048576) : Ev (fun k => valiselaw15_again.f k old next) true := by
  refine Ev.congr (fun k => by unfold valiselaw15_again.f; rfl) (Ev.bind (copied_ev old ho) (Ev.bind (copied_ev next hn) (Ev.bind (plan_diff old next hn) ?_)))
  exact again_l0 old ho next hn old.length 0 old (by omega) rfl
end Go.Proofs.Ytallfhhncibkpaa.DiffPure
