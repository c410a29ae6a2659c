/- Own walk: the reference's header. -/
import Derived.Test.YtlhmbncalonomaaDoorHead
import Derived.Test.YtlhmbncalonomaaDoorSnd
import Derived.Test.YtlhmbncalonomaaDoorTpB
import Derived.Test.YtlhmbncalonomaaDoorTpH
import Derived.Test.YtlhmbncalonomaaDoorSt
import Derived.Test.YtlhmbncalonomaaDoorQ3
namespace Go.Proofs.YtlhmbncalonomaaDoor.RfH
open Go.RowKit Go.Proofs.YtlhmbncalonomaaDoor.Q Go.Proofs.YtlhmbncalonomaaDoor.Cpy Go.Proofs.YtlhmbncalonomaaDoor.Hand Go.Proofs.YtlhmbncalonomaaDoor.Arr Go.Proofs.YtlhmbncalonomaaDoor.Sx Go.Proofs.YtlhmbncalonomaaDoor.Head Go.Proofs.YtlhmbncalonomaaDoor.Snd Go.Proofs.YtlhmbncalonomaaDoor.TpB Go.Proofs.YtlhmbncalonomaaDoor.TpH Go.Proofs.YtlhmbncalonomaaDoorW.PrintWords Go.Proofs.YtlhmbncalonomaaDoorW.PrintLast Go.Proofs.YtlhmbncalonomaaDoorW.PrintMore
set_option linter.unusedVariables false
set_option linter.unusedSimpArgs false

theorem fill_size (s : ByteArray) (n : Nat) (h : s.size ≤ n) : (fill s n).size = n := by
  have := bn_fill s n h
  have h2 := congrArg List.length this
  rw [bn_length] at h2
  rw [h2]
  exact fldL_length (by rw [bn_length]; exact h)
def us5 : ByteArray := ⟨#[117, 115, 116, 97, 114]⟩
/-- The reference's header. -/
def h2S (r : ByteArray) (f5 f6 f7 : Int) : ByteArray := fill r 100 ++ fill (octS 7 f5) 8 ++ fill (octS 7 f6) 8 ++ fill (octS 7 f7) 8
def h3S (r : ByteArray) (f5 f6 f7 n9 f8 : Int) (sm : ByteArray) : ByteArray := h2S r f5 f6 f7 ++ fill (octS 11 n9) 12 ++ fill (octS 11 f8) 12 ++ sm
def h4S (r f1 f2 f3 : ByteArray) (f4 f5 f6 f7 n9 f8 : Int) (sm : ByteArray) : ByteArray := h3S r f5 f6 f7 n9 f8 sm ++ strOfNums [48 + f4] ++ fill f1 100 ++ fill us5 6 ++ ⟨#[48, 48]⟩ ++ fill f2 32 ++ fill f3 32
def h5S (p r f1 f2 f3 : ByteArray) (f4 f5 f6 f7 n9 f8 : Int) (sm : ByteArray) : ByteArray := h4S r f1 f2 f3 f4 f5 f6 f7 n9 f8 sm ++ fill (octS 7 0) 8 ++ fill (octS 7 0) 8 ++ fill p 155
def hdrS (p r f1 f2 f3 : ByteArray) (f4 f5 f6 f7 n9 f8 : Int) (sm : ByteArray) : ByteArray := fill (h5S p r f1 f2 f3 f4 f5 f6 f7 n9 f8 sm) 512
theorem en27 : Enters Tryd.prog 27 := fun args w => by kernel_rfl
theorem en28 : Enters Tryd.prog 28 := fun args w => by kernel_rfl
theorem en42 : Enters Tryd.prog 42 := fun args w => by kernel_rfl

set_option maxRecDepth 100000 in
theorem header_calls (k : Nat) (f0 f1 f2 f3 : ByteArray) (f4 f5 f6 f7 f8 : Int) (A9 : Option Addr) (n9 c9 : Nat) (sm p r : ByteArray) (ok : Bool) (w : World)
    (hsp : valiseref24_split.f k f0 = some (p, r, ok)) (hp : p.size ≤ 155) (hr : r.size ≤ 100) (h1 : f1.size ≤ 100) (h2 : f2.size ≤ 32) (h3 : f3.size ≤ 32) (h4 : 0 ≤ f4 ∧ f4 ≤ 9) (h5 : 0 ≤ f5 ∧ f5 ≤ 2097151) (h6 : 0 ≤ f6 ∧ f6 ≤ 2097151) (h7 : 0 ≤ f7 ∧ f7 ≤ 2097151) (h8 : 0 ≤ f8 ∧ f8 ≤ 8589934591) (h9 : n9 ≤ 16777216) (hs : sm.size = 8) :
    Calls Tryd.prog 26 #[.agg [.string f0, .string f1, .string f2, .string f3, .int .i64 f4, .int .i64 f5, .int .i64 f6, .int .i64 f7, .int .i64 f8, .slice A9 n9 c9].toArray, .string sm] w fun e w' => e = .returned (.string (hdrS p r f1 f2 f3 f4 f5 f6 f7 n9 f8 sm)) ∧ Below w.heap.size w w' := by
  have hP := HP.start w
  have o7 : ∀ n, 7 ≤ 8 → (octS 7 n).size ≤ 8 := fun n _ => by rw [octS_size]; omega
  have o11 : ∀ n, 11 ≤ 12 → (octS 11 n).size ≤ 12 := fun n _ => by rw [octS_size]; omega
  have z1 : (fill r 100).size = 100 := fill_size _ _ hr
  have z5 : (fill (octS 7 f5) 8).size = 8 := fill_size _ _ (o7 _ (by decide))
  have z6 : (fill (octS 7 f6) 8).size = 8 := fill_size _ _ (o7 _ (by decide))
  have z7 : (fill (octS 7 f7) 8).size = 8 := fill_size _ _ (o7 _ (by decide))
  have z9 : (fill (octS 11 (n9 : Int)) 12).size = 12 := fill_size _ _ (o11 _ (by decide))
  have z8 : (fill (octS 11 f8) 12).size = 12 := fill_size _ _ (o11 _ (by decide))
  have zl : (fill f1 100).size = 100 := fill_size _ _ h1
  have zu : (fill us5 6).size = 6 := fill_size _ _ (by decide)
  have z2 : (fill f2 32).size = 32 := fill_size _ _ h2
  have z3 : (fill f3 32).size = 32 := fill_size _ _ h3
  have z0 : (fill (octS 7 0) 8).size = 8 := fill_size _ _ (o7 _ (by decide))
  have zp : (fill p 155).size = 155 := fill_size _ _ hp
  have y1 : (strOfNums [48 + f4]).size = 1 := strOfNums_size _
  have y2 : (⟨#[48, 48]⟩ : ByteArray).size = 2 := rfl
  have y3 : (h2S r f5 f6 f7).size = 124 := by unfold h2S; simp only [ByteArray.size_append]; omega
  have y4 : (h3S r f5 f6 f7 n9 f8 sm).size = 156 := by unfold h3S; simp only [ByteArray.size_append]; omega
  have y5 : (h4S r f1 f2 f3 f4 f5 f6 f7 n9 f8 sm).size = 329 := by unfold h4S; simp only [ByteArray.size_append]; omega
  have hz5 : (h5S p r f1 f2 f3 f4 f5 f6 f7 n9 f8 sm).size = 500 := by unfold h5S; simp only [ByteArray.size_append]; omega
  refine calls_cw Tryd.func26 rfl rfl (by simp) ?_
  refine cw_seq ?_
  -- region 0 tape.go:87
  refine cw_region ?_
  refine ow_box (ws := [.string f0, .string f1, .string f2, .string f3, .int .i64 f4, .int .i64 f5, .int .i64 f6, .int .i64 f7, .int .i64 f8, .slice A9 n9 c9]) hP rfl rfl rfl ?_
  clear hP; intro b2 W hz hg hP
  refine ow_step (r_assign rfl) rfl ?_
  refine ow_nil ?_
  refine ew_next ?_
  refine cw_seq ?_
  -- region 1 tape.go:88
  refine cw_region ?_
  refine ow_step (r_fieldAddr rfl fl26_0) rfl ?_
  refine ow_step (r_load rfl rfl (hP.cell (i := 0) rfl rfl)) rfl ?_
  refine ow_call en42 rfl (valiseref24_split.calls k f0 p r ok _ hsp) rfl ?_
  rintro e W ⟨rfl, ⟨m_, rfl⟩⟩; replace hP := hP.drewN m_; refine ⟨_, rfl, ?_⟩
  refine ow_step (r_move rfl) rfl ?_
  refine ow_step (r_extract rfl rfl) rfl ?_
  refine ow_step (r_extract rfl rfl) rfl ?_
  refine ow_step (r_extract rfl rfl) rfl ?_
  refine ow_step (r_assign rfl) rfl ?_
  refine ow_step (r_assign rfl) rfl ?_
  refine ow_step (r_assign rfl) rfl ?_
  refine ow_nil ?_
  refine ew_next ?_
  refine cw_seq ?_
  -- region 2 DRAWS tape.go:89
  refine cw_quietP hP (by kernel_rfl) (by kernel_rfl) ?_
  refine qw_step (fun w hw => r_move rfl) rfl ?_
  refine qw_call en28 rfl (fun w hw => (filled_calls r 100 w (by decide) hr).mono (fun e w' ⟨he, hb⟩ => ⟨he, hw.below hb⟩)) rfl ?_
  refine qw_step (fun w hw => r_fieldAddr rfl fl26_5) rfl ?_
  refine qw_step (fun w hw => r_load rfl rfl (hw.cell (i := 0) rfl rfl)) rfl ?_
  refine qw_call en27 rfl (fun w hw => (octal_calls f5 7 w h5.1 (by omega) (by decide)).mono (fun e w' ⟨he, hb⟩ => ⟨he, hw.below hb⟩)) rfl ?_
  refine qw_call en28 rfl (fun w hw => (filled_calls (octS 7 f5) 8 w (by decide) (o7 _ (by decide))).mono (fun e w' ⟨he, hb⟩ => ⟨he, hw.below hb⟩)) rfl ?_
  refine qw_step (fun w hw => r_sadd rfl rfl (by (try simp only [ByteArray.size_append]); omega)) rfl ?_
  refine qw_step (fun w hw => r_fieldAddr rfl fl26_6) rfl ?_
  refine qw_step (fun w hw => r_load rfl rfl (hw.cell (i := 0) rfl rfl)) rfl ?_
  refine qw_call en27 rfl (fun w hw => (octal_calls f6 7 w h6.1 (by omega) (by decide)).mono (fun e w' ⟨he, hb⟩ => ⟨he, hw.below hb⟩)) rfl ?_
  refine qw_call en28 rfl (fun w hw => (filled_calls (octS 7 f6) 8 w (by decide) (o7 _ (by decide))).mono (fun e w' ⟨he, hb⟩ => ⟨he, hw.below hb⟩)) rfl ?_
  refine qw_step (fun w hw => r_sadd rfl rfl (by (try simp only [ByteArray.size_append]); omega)) rfl ?_
  refine qw_step (fun w hw => r_fieldAddr rfl fl26_7) rfl ?_
  refine qw_step (fun w hw => r_load rfl rfl (hw.cell (i := 0) rfl rfl)) rfl ?_
  refine qw_call en27 rfl (fun w hw => (octal_calls f7 7 w h7.1 (by omega) (by decide)).mono (fun e w' ⟨he, hb⟩ => ⟨he, hw.below hb⟩)) rfl ?_
  refine qw_call en28 rfl (fun w hw => (filled_calls (octS 7 f7) 8 w (by decide) (o7 _ (by decide))).mono (fun e w' ⟨he, hb⟩ => ⟨he, hw.below hb⟩)) rfl ?_
  refine qw_step (fun w hw => r_sadd rfl rfl (by (try simp only [ByteArray.size_append]); omega)) rfl ?_
  refine qw_step (fun w hw => r_assign rfl) rfl ?_
  clear hP; refine qw_nil (fun W hP => ?_)
  refine ew_next ?_
  refine cw_seq ?_
  -- region 3 DRAWS tape.go:90
  refine cw_quietP hP (by kernel_rfl) (by kernel_rfl) ?_
  refine qw_step (fun w hw => r_move rfl) rfl ?_
  refine qw_step (fun w hw => r_fieldAddr rfl fl26_9) rfl ?_
  refine qw_step (fun w hw => r_load rfl rfl (hw.cell (i := 0) rfl rfl)) rfl ?_
  refine qw_step (fun w hw => r_len rfl (by rfl) rfl) rfl ?_
  refine qw_call en27 rfl (fun w hw => (octal_calls (n9 : Int) 11 w (by omega) (by omega) (by decide)).mono (fun e w' ⟨he, hb⟩ => ⟨he, hw.below hb⟩)) rfl ?_
  refine qw_call en28 rfl (fun w hw => (filled_calls (octS 11 (n9 : Int)) 12 w (by decide) (o11 _ (by decide))).mono (fun e w' ⟨he, hb⟩ => ⟨he, hw.below hb⟩)) rfl ?_
  refine qw_step (fun w hw => r_sadd rfl rfl (by (try simp only [ByteArray.size_append]); omega)) rfl ?_
  refine qw_step (fun w hw => r_fieldAddr rfl fl26_8) rfl ?_
  refine qw_step (fun w hw => r_load rfl rfl (hw.cell (i := 0) rfl rfl)) rfl ?_
  refine qw_call en27 rfl (fun w hw => (octal_calls f8 11 w h8.1 (by omega) (by decide)).mono (fun e w' ⟨he, hb⟩ => ⟨he, hw.below hb⟩)) rfl ?_
  refine qw_call en28 rfl (fun w hw => (filled_calls (octS 11 f8) 12 w (by decide) (o11 _ (by decide))).mono (fun e w' ⟨he, hb⟩ => ⟨he, hw.below hb⟩)) rfl ?_
  refine qw_step (fun w hw => r_sadd rfl rfl (by (try simp only [ByteArray.size_append]); omega)) rfl ?_
  refine qw_step (fun w hw => r_move rfl) rfl ?_
  refine qw_step (fun w hw => r_sadd rfl rfl (by (try simp only [ByteArray.size_append]); omega)) rfl ?_
  refine qw_step (fun w hw => r_assign rfl) rfl ?_
  clear hP; refine qw_nil (fun W hP => ?_)
  refine ew_next ?_
  refine cw_seq ?_
  -- region 4 DRAWS tape.go:91
  refine cw_stableT (sl2 := [(1, .string sm), (2, .pointer (some ⟨b2, 0, none⟩)), (5, .string p)]) (vat [isV (.string (h3S r f5 f6 f7 n9 f8 sm)), isV (.pointer (some ⟨b2, 4, none⟩)), isV (.int .i64 f4), isV (.int .i64 (48 + f4)), isV (.int .u8 (48 + f4)), (isNew 1 [.int .u8 (48 + f4)] 5), isV (.string (strOfNums [48 + f4])), isV (.string ((h3S r f5 f6 f7 n9 f8 sm) ++ (strOfNums [48 + f4]))), isV (.pointer (some ⟨b2, 1, none⟩)), isV (.string f1), isV (.string (fill f1 100)), isV (.string (((h3S r f5 f6 f7 n9 f8 sm) ++ (strOfNums [48 + f4])) ++ (fill f1 100))), isV (.string (fill us5 6)), isV (.string ((((h3S r f5 f6 f7 n9 f8 sm) ++ (strOfNums [48 + f4])) ++ (fill f1 100)) ++ (fill us5 6))), isV (.string (((((h3S r f5 f6 f7 n9 f8 sm) ++ (strOfNums [48 + f4])) ++ (fill f1 100)) ++ (fill us5 6)) ++ ({data := #[48, 48]} : ByteArray))), isV (.pointer (some ⟨b2, 2, none⟩)), isV (.string f2), isV (.string (fill f2 32)), isV (.string ((((((h3S r f5 f6 f7 n9 f8 sm) ++ (strOfNums [48 + f4])) ++ (fill f1 100)) ++ (fill us5 6)) ++ ({data := #[48, 48]} : ByteArray)) ++ (fill f2 32))), isV (.pointer (some ⟨b2, 3, none⟩)), isV (.string f3), isV (.string (fill f3 32)), isV (.string (((((((h3S r f5 f6 f7 n9 f8 sm) ++ (strOfNums [48 + f4])) ++ (fill f1 100)) ++ (fill us5 6)) ++ ({data := #[48, 48]} : ByteArray)) ++ (fill f2 32)) ++ (fill f3 32))), isV (.string (((((((h3S r f5 f6 f7 n9 f8 sm) ++ (strOfNums [48 + f4])) ++ (fill f1 100)) ++ (fill us5 6)) ++ ({data := #[48, 48]} : ByteArray)) ++ (fill f2 32)) ++ (fill f3 32)))]) (fun w' => HP w w' [(b2, [.string f0, .string f1, .string f2, .string f3, .int .i64 f4, .int .i64 f5, .int .i64 f6, .int .i64 f7, .int .i64 f8, .slice A9 n9 c9], 26)]) (fun w w' => Below w.heap.size w w') (by kernel_rfl) (by kernel_rfl) (by repeat (first | exact trivial | refine ⟨rfl, ?_⟩)) rfl hP.drew (vat_mono ?_) (ops_each ⟨?_, ?_, ?_, ?_, ?_, ?_, ?_, ?_, ?_, ?_, ?_, ?_, ?_, ?_, ?_, ?_, ?_, ?_, ?_, ?_, ?_, ?_, ?_, ?_, trivial⟩) ?_
  · intro V hV w w' v hb hv; simp only [List.mem_cons, List.not_mem_nil, or_false] at hV; rcases hV with rfl | rfl | rfl | rfl | rfl | rfl | rfl | rfl | rfl | rfl | rfl | rfl | rfl | rfl | rfl | rfl | rfl | rfl | rfl | rfl | rfl | rfl | rfl | rfl <;> first | exact hv | exact isNew_mono hb hv
  · -- 0
    intro a W' hw hF hV
    exact does_run hF (r_move rfl) ⟨hw, Below.refl _ _, vat_is rfl⟩
  · -- 1
    intro a W' hw hF hV
    exact does_run hF (r_fieldAddr rfl fl26_4) ⟨hw, Below.refl _ _, vat_is rfl⟩
  · -- 2
    intro a W' hw hF hV
    replace hF := hF.more (vat_at (hV 1 _ 48 rfl rfl rfl) rfl)
    exact does_run hF (r_load rfl rfl (hw.cell (i := 0) rfl rfl)) ⟨hw, Below.refl _ _, vat_is rfl⟩
  · -- 3
    intro a W' hw hF hV
    replace hF := hF.more (vat_at (hV 2 _ 49 rfl rfl rfl) rfl)
    exact does_run hF (i_add rfl rfl (by omega)) ⟨hw, Below.refl _ _, vat_is rfl⟩
  · -- 4
    intro a W' hw hF hV
    replace hF := hF.more (vat_at (hV 3 _ 50 rfl rfl rfl) rfl)
    exact does_run hF (r_conv_in rfl rfl Tryd.underlying5 (IntWalk.u8_in _ (by omega))) ⟨hw, Below.refl _ _, vat_is rfl⟩
  · -- 5
    intro a W' hw hF hV
    replace hF := hF.more (vat_at (hV 4 _ 51 rfl rfl rfl) rfl)
    exact does_run hF (r_buildSlice (ws := [.int .u8 (48 + f4)]) (e := 5) rfl (fun w => by kernel_rfl)) ⟨hw.grown (World.grownBy_alloc W' _ none), (Below.refl _ _).alloc (Nat.le_refl _) _, vat_mk rfl ⟨_, rfl, heap_alloc_last _ _⟩⟩
  · -- 6
    intro a W' hw hF hV
    obtain ⟨g, hg1, hg2⟩ := vat_at (hV 5 _ 52 rfl rfl rfl) rfl; replace hF := hF.more hg1
    exact does_run hF (r_bytes (xs := [48 + f4]) rfl Tryd.underlying24 Tryd.underlying5 Tryd.underlying9 rfl (fun j hj => by (obtain rfl : j = 0 := (by omega)); simp [World.cell?, hg2])) ⟨hw, Below.refl _ _, vat_is rfl⟩
  · -- 7
    intro a W' hw hF hV
    replace hF := hF.more (vat_at (hV 0 _ 47 rfl rfl rfl) rfl)
    replace hF := hF.more (vat_at (hV 6 _ 53 rfl rfl rfl) rfl)
    exact does_run hF (r_sadd rfl rfl (by (try simp only [ByteArray.size_append]); omega)) ⟨hw, Below.refl _ _, vat_is rfl⟩
  · -- 8
    intro a W' hw hF hV
    exact does_run hF (r_fieldAddr rfl fl26_1) ⟨hw, Below.refl _ _, vat_is rfl⟩
  · -- 9
    intro a W' hw hF hV
    replace hF := hF.more (vat_at (hV 8 _ 55 rfl rfl rfl) rfl)
    exact does_run hF (r_load rfl rfl (hw.cell (i := 0) rfl rfl)) ⟨hw, Below.refl _ _, vat_is rfl⟩
  · -- 10
    intro a W' hw hF hV
    replace hF := hF.more (vat_at (hV 9 _ 56 rfl rfl rfl) rfl)
    exact does_call hF en28 rfl ((filled_calls f1 100 W' (by decide) h1).mono (fun e w' ⟨he, hb⟩ => ⟨_, he, hw.below hb, hb, vat_is rfl⟩))
  · -- 11
    intro a W' hw hF hV
    replace hF := hF.more (vat_at (hV 7 _ 54 rfl rfl rfl) rfl)
    replace hF := hF.more (vat_at (hV 10 _ 57 rfl rfl rfl) rfl)
    exact does_run hF (r_sadd rfl rfl (by (try simp only [ByteArray.size_append]); omega)) ⟨hw, Below.refl _ _, vat_is rfl⟩
  · -- 12
    intro a W' hw hF hV
    exact does_call hF en28 rfl ((filled_calls us5 6 W' (by decide) (by decide)).mono (fun e w' ⟨he, hb⟩ => ⟨_, he, hw.below hb, hb, vat_is rfl⟩))
  · -- 13
    intro a W' hw hF hV
    replace hF := hF.more (vat_at (hV 11 _ 58 rfl rfl rfl) rfl)
    replace hF := hF.more (vat_at (hV 12 _ 59 rfl rfl rfl) rfl)
    exact does_run hF (r_sadd rfl rfl (by (try simp only [ByteArray.size_append]); omega)) ⟨hw, Below.refl _ _, vat_is rfl⟩
  · -- 14
    intro a W' hw hF hV
    replace hF := hF.more (vat_at (hV 13 _ 60 rfl rfl rfl) rfl)
    exact does_run hF (r_sadd rfl rfl (by (try simp only [ByteArray.size_append]); omega)) ⟨hw, Below.refl _ _, vat_is rfl⟩
  · -- 15
    intro a W' hw hF hV
    exact does_run hF (r_fieldAddr rfl fl26_2) ⟨hw, Below.refl _ _, vat_is rfl⟩
  · -- 16
    intro a W' hw hF hV
    replace hF := hF.more (vat_at (hV 15 _ 62 rfl rfl rfl) rfl)
    exact does_run hF (r_load rfl rfl (hw.cell (i := 0) rfl rfl)) ⟨hw, Below.refl _ _, vat_is rfl⟩
  · -- 17
    intro a W' hw hF hV
    replace hF := hF.more (vat_at (hV 16 _ 63 rfl rfl rfl) rfl)
    exact does_call hF en28 rfl ((filled_calls f2 32 W' (by decide) h2).mono (fun e w' ⟨he, hb⟩ => ⟨_, he, hw.below hb, hb, vat_is rfl⟩))
  · -- 18
    intro a W' hw hF hV
    replace hF := hF.more (vat_at (hV 14 _ 61 rfl rfl rfl) rfl)
    replace hF := hF.more (vat_at (hV 17 _ 64 rfl rfl rfl) rfl)
    exact does_run hF (r_sadd rfl rfl (by (try simp only [ByteArray.size_append]); omega)) ⟨hw, Below.refl _ _, vat_is rfl⟩
  · -- 19
    intro a W' hw hF hV
    exact does_run hF (r_fieldAddr rfl fl26_3) ⟨hw, Below.refl _ _, vat_is rfl⟩
  · -- 20
    intro a W' hw hF hV
    replace hF := hF.more (vat_at (hV 19 _ 66 rfl rfl rfl) rfl)
    exact does_run hF (r_load rfl rfl (hw.cell (i := 0) rfl rfl)) ⟨hw, Below.refl _ _, vat_is rfl⟩
  · -- 21
    intro a W' hw hF hV
    replace hF := hF.more (vat_at (hV 20 _ 67 rfl rfl rfl) rfl)
    exact does_call hF en28 rfl ((filled_calls f3 32 W' (by decide) h3).mono (fun e w' ⟨he, hb⟩ => ⟨_, he, hw.below hb, hb, vat_is rfl⟩))
  · -- 22
    intro a W' hw hF hV
    replace hF := hF.more (vat_at (hV 18 _ 65 rfl rfl rfl) rfl)
    replace hF := hF.more (vat_at (hV 21 _ 68 rfl rfl rfl) rfl)
    exact does_run hF (r_sadd rfl rfl (by (try simp only [ByteArray.size_append]); omega)) ⟨hw, Below.refl _ _, vat_is rfl⟩
  · -- 23
    intro a W' hw hF hV
    replace hF := hF.more (vat_at (hV 22 _ 69 rfl rfl rfl) rfl)
    exact does_run hF (r_assign rfl) ⟨hw, Below.refl _ _, vat_is rfl⟩
  intro a W hw hF hV
  replace hF := hF.more (vat_at (hV 23 _ 8 rfl rfl) rfl)
  clear hV; clear hP; have hP := hw; clear hw; revert a hF; refine (show EW _ _ _ _ _ from ?_)
  refine ew_next ?_
  refine cw_seq ?_
  -- region 5 tape.go:92
  refine cw_region ?_
  refine ow_step (r_move rfl) rfl ?_
  refine ow_call en27 rfl (octal_calls 0 7 _ (by decide) (by decide) (by decide)) rfl ?_
  rintro e W' ⟨rfl, hb⟩; replace hP := hP.below hb; clear hb; refine ⟨_, rfl, ?_⟩
  refine ow_call en28 rfl (filled_calls (octS 7 0) 8 _ (by decide) (o7 _ (by decide))) rfl ?_
  rintro e W' ⟨rfl, hb⟩; replace hP := hP.below hb; clear hb; refine ⟨_, rfl, ?_⟩
  refine ow_step (r_sadd rfl rfl (by (try simp only [ByteArray.size_append]); omega)) rfl ?_
  refine ow_call en27 rfl (octal_calls 0 7 _ (by decide) (by decide) (by decide)) rfl ?_
  rintro e W' ⟨rfl, hb⟩; replace hP := hP.below hb; clear hb; refine ⟨_, rfl, ?_⟩
  refine ow_call en28 rfl (filled_calls (octS 7 0) 8 _ (by decide) (o7 _ (by decide))) rfl ?_
  rintro e W' ⟨rfl, hb⟩; replace hP := hP.below hb; clear hb; refine ⟨_, rfl, ?_⟩
  refine ow_step (r_sadd rfl rfl (by (try simp only [ByteArray.size_append]); omega)) rfl ?_
  refine ow_step (r_move rfl) rfl ?_
  refine ow_call en28 rfl (filled_calls p 155 _ (by decide) hp) rfl ?_
  rintro e W' ⟨rfl, hb⟩; replace hP := hP.below hb; clear hb; refine ⟨_, rfl, ?_⟩
  refine ow_step (r_sadd rfl rfl (by (try simp only [ByteArray.size_append]); omega)) rfl ?_
  refine ow_step (r_assign rfl) rfl ?_
  refine ow_nil ?_
  refine ew_next ?_
  refine cw_seq ?_
  -- region 6 tape.go:93
  refine cw_region ?_
  refine ow_step (r_move rfl) rfl ?_
  refine ow_call en28 rfl (filled_calls (h5S p r f1 f2 f3 f4 f5 f6 f7 n9 f8 sm) 512 _ (by decide) (by omega)) rfl ?_
  rintro e W' ⟨rfl, hb⟩; replace hP := hP.below hb; clear hb; refine ⟨_, rfl, ?_⟩
  refine ow_step (r_assign rfl) rfl ?_
  refine ow_nil ?_
  refine ew_next ?_
  refine cw_ret ?_
  refine ew_ret1 rfl (.tmp rfl .nil) ⟨rfl, hP.old⟩
end Go.Proofs.YtlhmbncalonomaaDoor.RfH
