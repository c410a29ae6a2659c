/- Own walk: the law's own function, over what both Parses tell. -/
import Derived.Test.YtkpdbkkkdidolaaDoorParse
namespace Go.Proofs.YtkpdbkkkdidolaaDoor.Law
open Go.RowKit Go.Proofs.YtkpdbkkkdidolaaDoor.Q Go.Proofs.YtkpdbkkkdidolaaDoor.Prs Go.Proofs.YtkpdbkkkdidolaaDoorW.PrintWords Go.Proofs.YtkpdbkkkdidolaaDoorW.PrintLast Go.Proofs.YtkpdbkkkdidolaaDoorW.PrintMore
attribute [local go_sem] max2_int min2_int max_two min_two max_three min_three max_four min_four
set_option linter.unusedVariables false
set_option linter.unusedSimpArgs false
set_option maxHeartbeats 2000000 in
set_option maxRecDepth 100000 in
theorem walk (k : Nat) (s : ByteArray) (r1 : List ByteArray) (r2 : Bool) (w : World) (hs : s.size ≤ 1048576) (h1 : Pr.l0 k s [] = some (r1, r2)) (h2 : valiseref20_Parse.f k s = some (r1, r2)) (h3 : valiseplay_SameTexts.f k r1 r1 = some true) :
    Calls Tryd.prog 3 #[.string s] w fun e w' => e = .returned (.bool true) ∧ Below w.heap.size w w' := by
  have H1 := Aside0.mk h1
  have H2 := Aside0.mk h2
  have H3 := Aside0.mk h3
  clear h1 h2 h3
  go_enter Tryd.func3, Tryd.ntmps3
  go_wp2_with fail
  refine (parse_calls k s r1 r2 _ hs H1.out).mono ?_
  rintro e w1 ⟨v1, rfl, hR, hb⟩
  have HR1 := Aside0.mk hR
  have HB1 := Aside0.mk hb
  clear hR hb
  go_wp2_with fail
  refine (valiseref20_Parse.calls k s r1 r2 _ H2.out).mono ?_
  rintro e w2 ⟨v2, rfl, hR, hb⟩
  have HR2 := Aside0.mk (Kd.R_below HR1.out hb)
  have HR3 := Aside0.mk hR
  have HB2 := Aside0.mk (below_step HB1.out hb)
  clear hR hb HR1 HB1
  obtain ⟨Ad, cd, ed, hcd, hCd⟩ := Kd.R_reads HR2.out
  obtain ⟨Ae, ce, ee, hce, hCe⟩ := Kd.R_reads HR3.out
  subst ed ee
  have HCd := Aside0.mk hCd
  have HCe := Aside0.mk hCe
  clear hCd hCe
  have hb2 : (r2 == r2) = true := beq_self_eq_true r2
  go_wp2_with fail
  refine (valiseplay_SameTexts.calls k Ad cd r1 Ae ce r1 true _ HCd.out hcd HCe.out hce H3.out).mono ?_
  rintro e w5 ⟨rfl, ⟨m5, rfl⟩⟩
  go_wp2
  go_ret
  exact ⟨rfl, by repeat (first | exact HB2.out | apply pw_below_drewN | apply below_drew)⟩
end Go.Proofs.YtkpdbkkkdidolaaDoor.Law
