/- MarginNows. -/
import Derived.Test.YtndcmmghgljinaaW43
import Derived.Test.YtndcmmghgljinaaW24
import Derived.Test.YtndcmmghgljinaaW27
import Derived.Test.YtndcmmghgljinaaR2
set_option linter.all false
namespace Go.Proofs.Ytndcmmghgljinaa
open Go.RowKit

set_option maxRecDepth 100000 in
set_option maxHeartbeats 16000000 in
theorem nows_walk (k : Kd) (a : Option Addr) (c : Nat) (ac : Option Addr) (cc : Nat) (cs : List MCk) (h : Int) (w : World) (hK0 : KdIn w k a) (hRc : RdCks w ac cs) (hlc : cs.length ≤ 9223372036854775807) :
    Calls Try.prog 4 #[.agg #[.int .i64 k.new, .int .i64 k.wear.lo, .int .i64 k.wear.hi, .slice a k.steps.length c], .slice ac cs.length cc, .int .i64 h] w (fun e w' => e = .returned (.bool true) ∧ Below w.heap.size w w') := by
 have HR := hid hK0.2.2
 have hN := hK0.1
 have hsl := hK0.2.1
 clear hK0
 have HRc := hid hRc
 clear hRc
 refine enter_F Try.func4 rfl Try.ntmps4 (by simp) ?_
 intro s0 hs
 have sl0 : s0 0 = .agg #[.int .i64 k.new, .int .i64 k.wear.lo, .int .i64 k.wear.hi, .slice a k.steps.length c] := hs 0 (by simp)
 have sl1 : s0 1 = .slice ac cs.length cc := hs 1 (by simp)
 have sl2 : s0 2 = .int .i64 h := hs 2 (by simp)
 clear hs
 have HB := hid (OldB.refl [] w)
 repeat ((fail_if_success refine stp ?_); with_reducible go_step)
 refine region_F ?_
 refine pa (fun w1 B3 hB kb3' hb2 => ?_)
 have gb3 := HB.out.gB hB
 have eb3 := eB hB; clear hB
 replace HB := hid (HB.out.below hb2)
 clear hb2
 have kb3 := kb3'
 clear kb3'
 have qb3 := kb3.1
 refine pl ?_
 refine listF_abs (fun s3 hs' => ?_)
 replace sl1 := gs 1 hs' sl1; replace sl2 := gs 2 hs' sl2; have sl3 := gu 3 hs'; clear hs' sl0
 refine listF_nil ?_
 repeat ((fail_if_success refine stp ?_); with_reducible go_step)
 refine region_F ?_
 have cb3_0 := kb3.cell 0 rfl
 have cb3_1 := kb3.cell 1 rfl
 have cb3_2 := kb3.cell 2 rfl
 have cb3_3 := kb3.cell 3 rfl
 refine pl ?_
 refine pl ?_
 refine pl ?_
 refine listF_step rfl (fun K' hK => ?_); unfold opF; go_simp
 refine (qnow_any k a c ac cc cs h _ hN hsl (Rd.oldB HR.out HB.out (by simp)) (Rd.oldB HRc.out HB.out (by simp)) hlc).mono ?_; rintro e w4 ⟨rfl, hb5⟩
 refine ⟨_, rfl, hK _ _ ?_⟩; clear hK K'
 clear cb3_0 cb3_1 cb3_2 cb3_3
 clear qb3
 replace kb3 := kb3.at hb5
 replace HB := hid (HB.out.below hb5)
 clear hb5
 have qb3 := kb3.1
 refine pl ?_
 refine pl ?_
 refine pl ?_
 refine pa (fun w6 B7 hB kb7' hb7 => ?_)
 have gb7 := HB.out.gB hB
 have ob3_b7 := oB qb3 hB
 have eb7 := eB hB; clear hB
 clear qb3
 replace kb3 := kb3.at hb7
 replace HB := hid (HB.out.below hb7)
 clear hb7
 have qb3 := kb3.1
 have kb7 := kb7'
 clear kb7'
 have qb7 := kb7.1
 have cb7_0 := kb7.cell 0 rfl
 have cb7_1 := kb7.cell 1 rfl
 have zb7 := kb7.2.2
 refine pl ?_
 refine listF_absw (fun w8 hw' => ?_)
 have kb7' := cells_of hw' (Cells.set (i := 1) (Cells.set (i := 0) (kb7)))
 (try simp only [vC, List.set_cons_zero, List.set_cons_succ] at kb7')
 have hb9 : OldB [B7] w6 w8 := oldset hw'
 clear hw'
 clear cb7_0 cb7_1 zb7
 clear qb3 qb7
 replace kb7 := kb7'
 replace kb3 := kb3.oldB hb9 (by first | (simp; done) | (simp; omega))
 replace HB := hid (HB.out.more hb9 (by simp; try omega))
 clear hb9
 have qb3 := kb3.1
 have qb7 := kb7.1
 clear kb7'
 refine pl ?_
 refine listF_abs (fun s10 hs' => ?_)
 replace sl1 := gs 1 hs' sl1; replace sl2 := gs 2 hs' sl2; replace sl3 := gs 3 hs' sl3; have sl7 := gu 7 hs'; have sl8 := gu 8 hs'; clear hs'
 refine listF_nil ?_
 repeat ((fail_if_success refine stp ?_); with_reducible go_step)
 refine region_F ?_
 have cb3_0 := kb3.cell 0 rfl
 have cb3_1 := kb3.cell 1 rfl
 have cb3_2 := kb3.cell 2 rfl
 have cb3_3 := kb3.cell 3 rfl
 refine pl ?_
 refine pl ?_
 refine pl ?_
 refine listF_step rfl (fun K' hK => ?_); unfold opF; go_simp
 refine (rnow_any k a c ac cc cs h _ hsl (Rd.oldB HR.out HB.out (by simp)) (Rd.oldB HRc.out HB.out (by simp)) hlc).mono ?_; rintro e w11 ⟨rfl, hb12⟩
 refine ⟨_, rfl, hK _ _ ?_⟩; clear hK K'
 clear cb3_0 cb3_1 cb3_2 cb3_3
 clear qb3 qb7
 replace kb3 := kb3.at hb12
 replace kb7 := kb7.at hb12
 replace HB := hid (HB.out.below hb12)
 clear hb12
 have qb3 := kb3.1
 have qb7 := kb7.1
 refine pl ?_
 refine pl ?_
 refine pl ?_
 refine pa (fun w13 B9 hB kb9' hb14 => ?_)
 have gb9 := HB.out.gB hB
 have ob3_b9 := oB qb3 hB
 have ob7_b9 := oB qb7 hB
 have eb9 := eB hB; clear hB
 clear qb3 qb7
 replace kb3 := kb3.at hb14
 replace kb7 := kb7.at hb14
 replace HB := hid (HB.out.below hb14)
 clear hb14
 have qb3 := kb3.1
 have qb7 := kb7.1
 have kb9 := kb9'
 clear kb9'
 have qb9 := kb9.1
 have cb9_0 := kb9.cell 0 rfl
 have cb9_1 := kb9.cell 1 rfl
 have zb9 := kb9.2.2
 refine pl ?_
 refine listF_absw (fun w15 hw' => ?_)
 have kb9' := cells_of hw' (Cells.set (i := 1) (Cells.set (i := 0) (kb9)))
 (try simp only [vC, List.set_cons_zero, List.set_cons_succ] at kb9')
 have hb16 : OldB [B9] w13 w15 := oldset hw'
 clear hw'
 clear cb9_0 cb9_1 zb9
 clear qb3 qb7 qb9
 replace kb9 := kb9'
 replace kb3 := kb3.oldB hb16 (by first | (simp; done) | (simp; omega))
 replace kb7 := kb7.oldB hb16 (by first | (simp; done) | (simp; omega))
 replace HB := hid (HB.out.more hb16 (by simp; try omega))
 clear hb16
 have qb3 := kb3.1
 have qb7 := kb7.1
 have qb9 := kb9.1
 clear kb9'
 refine pl ?_
 refine listF_abs (fun s17 hs' => ?_)
 replace sl1 := gs 1 hs' sl1; replace sl2 := gs 2 hs' sl2; replace sl3 := gs 3 hs' sl3; replace sl7 := gs 7 hs' sl7; replace sl8 := gs 8 hs' sl8; have sl9 := gu 9 hs'
 have sl10 := gu 10 hs'; clear hs'
 refine listF_nil ?_
 repeat ((fail_if_success refine stp ?_); with_reducible go_step)
 refine region_F ?_
 have cb7_0 := kb7.cell 0 rfl
 have cb7_1 := kb7.cell 1 rfl
 refine pl ?_
 have cb9_0 := kb9.cell 0 rfl
 have cb9_1 := kb9.cell 1 rfl
 refine pl ?_
 refine pl ?_
 refine pl ?_
 refine py ?_
 refine py ?_
 refine py ?_
 refine pl ?_
 refine listF_abs (fun s18 hs' => ?_)
 replace sl1 := gs 1 hs' sl1; replace sl2 := gs 2 hs' sl2; replace sl3 := gs 3 hs' sl3; have sl38 := gu 38 hs'; clear hs' sl7 sl8 sl9 sl10
 refine listF_nil ?_
 repeat ((fail_if_success refine stp ?_); with_reducible go_step)
 refine cond_f ?_
 repeat ((fail_if_success refine stp ?_); with_reducible go_step)
 refine region_F ?_
 have cb3_0 := kb3.cell 0 rfl
 have cb3_1 := kb3.cell 1 rfl
 have cb3_2 := kb3.cell 2 rfl
 have cb3_3 := kb3.cell 3 rfl
 refine pl ?_
 refine pl ?_
 refine pl ?_
 refine listF_step rfl (fun K' hK => ?_); unfold opF; go_simp
 refine (qfails_any k a c ac cc cs h _ hN hsl (Rd.oldB HR.out HB.out (by simp)) (Rd.oldB HRc.out HB.out (by simp)) hlc).mono ?_; rintro e w19 ⟨rfl, hb20⟩
 refine ⟨_, rfl, hK _ _ ?_⟩; clear hK K'
 clear cb3_0 cb3_1 cb3_2 cb3_3 cb7_0 cb7_1 cb9_0 cb9_1
 clear qb3 qb7 qb9
 replace kb3 := kb3.at hb20
 replace kb7 := kb7.at hb20
 replace kb9 := kb9.at hb20
 replace HB := hid (HB.out.below hb20)
 clear hb20
 have qb3 := kb3.1
 have qb7 := kb7.1
 have qb9 := kb9.1
 refine pl ?_
 refine pl ?_
 refine pl ?_
 refine pa (fun w21 B11 hB kb11' hb22 => ?_)
 have gb11 := HB.out.gB hB
 have ob3_b11 := oB qb3 hB
 have ob7_b11 := oB qb7 hB
 have ob9_b11 := oB qb9 hB
 have eb11 := eB hB; clear hB
 clear qb3 qb7 qb9
 replace kb3 := kb3.at hb22
 replace kb7 := kb7.at hb22
 replace kb9 := kb9.at hb22
 replace HB := hid (HB.out.below hb22)
 clear hb22
 have qb3 := kb3.1
 have qb7 := kb7.1
 have qb9 := kb9.1
 have kb11 := kb11'
 clear kb11'
 have qb11 := kb11.1
 have cb11_0 := kb11.cell 0 rfl
 have cb11_1 := kb11.cell 1 rfl
 have zb11 := kb11.2.2
 refine pl ?_
 refine listF_absw (fun w23 hw' => ?_)
 have kb11' := cells_of hw' (Cells.set (i := 1) (Cells.set (i := 0) (kb11)))
 (try simp only [vC, List.set_cons_zero, List.set_cons_succ] at kb11')
 have hb24 : OldB [B11] w21 w23 := oldset hw'
 clear hw'
 clear cb11_0 cb11_1 zb11
 clear qb3 qb7 qb9 qb11
 replace kb11 := kb11'
 replace kb3 := kb3.oldB hb24 (by first | (simp; done) | (simp; omega))
 replace kb7 := kb7.oldB hb24 (by first | (simp; done) | (simp; omega))
 replace kb9 := kb9.oldB hb24 (by first | (simp; done) | (simp; omega))
 replace HB := hid (HB.out.more hb24 (by simp; try omega))
 clear hb24
 have qb3 := kb3.1
 have qb7 := kb7.1
 have qb9 := kb9.1
 have qb11 := kb11.1
 clear kb11'
 refine pl ?_
 refine listF_abs (fun s25 hs' => ?_)
 replace sl1 := gs 1 hs' sl1; replace sl2 := gs 2 hs' sl2; replace sl3 := gs 3 hs' sl3; have sl8 := gu 8 hs'; have sl11 := gu 11 hs'; clear hs' sl38
 refine listF_nil ?_
 repeat ((fail_if_success refine stp ?_); with_reducible go_step)
 refine region_F ?_
 have cb3_0 := kb3.cell 0 rfl
 have cb3_1 := kb3.cell 1 rfl
 have cb3_2 := kb3.cell 2 rfl
 have cb3_3 := kb3.cell 3 rfl
 refine pl ?_
 refine pl ?_
 refine pl ?_
 refine listF_step rfl (fun K' hK => ?_); unfold opF; go_simp
 refine (rFails_any k a c ac cc cs h _ hsl (Rd.oldB HR.out HB.out (by simp)) (Rd.oldB HRc.out HB.out (by simp)) hlc).mono ?_; rintro e w26 ⟨rfl, hb27⟩
 refine ⟨_, rfl, hK _ _ ?_⟩; clear hK K'
 clear cb3_0 cb3_1 cb3_2 cb3_3
 clear qb3 qb7 qb9 qb11
 replace kb3 := kb3.at hb27
 replace kb7 := kb7.at hb27
 replace kb9 := kb9.at hb27
 replace kb11 := kb11.at hb27
 replace HB := hid (HB.out.below hb27)
 clear hb27
 have qb3 := kb3.1
 have qb7 := kb7.1
 have qb9 := kb9.1
 have qb11 := kb11.1
 refine pl ?_
 refine pl ?_
 refine pl ?_
 refine pa (fun w28 B12 hB kb12' hb29 => ?_)
 have gb12 := HB.out.gB hB
 have ob3_b12 := oB qb3 hB
 have ob7_b12 := oB qb7 hB
 have ob9_b12 := oB qb9 hB
 have ob11_b12 := oB qb11 hB
 have eb12 := eB hB; clear hB
 clear qb3 qb7 qb9 qb11
 replace kb3 := kb3.at hb29
 replace kb7 := kb7.at hb29
 replace kb9 := kb9.at hb29
 replace kb11 := kb11.at hb29
 replace HB := hid (HB.out.below hb29)
 clear hb29
 have qb3 := kb3.1
 have qb7 := kb7.1
 have qb9 := kb9.1
 have qb11 := kb11.1
 have kb12 := kb12'
 clear kb12'
 have qb12 := kb12.1
 have cb12_0 := kb12.cell 0 rfl
 have cb12_1 := kb12.cell 1 rfl
 have zb12 := kb12.2.2
 refine pl ?_
 refine listF_absw (fun w30 hw' => ?_)
 have kb12' := cells_of hw' (Cells.set (i := 1) (Cells.set (i := 0) (kb12)))
 (try simp only [vC, List.set_cons_zero, List.set_cons_succ] at kb12')
 have hb31 : OldB [B12] w28 w30 := oldset hw'
 clear hw'
 clear cb12_0 cb12_1 zb12
 clear qb3 qb7 qb9 qb11 qb12
 replace kb12 := kb12'
 replace kb3 := kb3.oldB hb31 (by first | (simp; done) | (simp; omega))
 replace kb7 := kb7.oldB hb31 (by first | (simp; done) | (simp; omega))
 replace kb9 := kb9.oldB hb31 (by first | (simp; done) | (simp; omega))
 replace kb11 := kb11.oldB hb31 (by first | (simp; done) | (simp; omega))
 replace HB := hid (HB.out.more hb31 (by simp; try omega))
 clear hb31
 have qb3 := kb3.1
 have qb7 := kb7.1
 have qb9 := kb9.1
 have qb11 := kb11.1
 have qb12 := kb12.1
 clear kb12'
 refine pl ?_
 refine listF_abs (fun s32 hs' => ?_)
 replace sl1 := gs 1 hs' sl1; replace sl2 := gs 2 hs' sl2; replace sl3 := gs 3 hs' sl3; replace sl8 := gs 8 hs' sl8; have sl10 := gu 10 hs'; replace sl11 := gs 11 hs' sl11
 have sl12 := gu 12 hs'; clear hs'
 refine listF_nil ?_
 repeat ((fail_if_success refine stp ?_); with_reducible go_step)
 refine region_F ?_
 have cb11_0 := kb11.cell 0 rfl
 have cb11_1 := kb11.cell 1 rfl
 refine pl ?_
 have cb12_0 := kb12.cell 0 rfl
 have cb12_1 := kb12.cell 1 rfl
 refine pl ?_
 refine pl ?_
 refine pl ?_
 refine py ?_
 refine py ?_
 refine py ?_
 refine pl ?_
 refine listF_abs (fun s33 hs' => ?_)
 replace sl1 := gs 1 hs' sl1; replace sl2 := gs 2 hs' sl2; replace sl3 := gs 3 hs' sl3; have sl60 := gu 60 hs'; clear hs' sl8 sl10 sl11 sl12
 refine listF_nil ?_
 repeat ((fail_if_success refine stp ?_); with_reducible go_step)
 refine cond_f ?_
 repeat ((fail_if_success refine stp ?_); with_reducible go_step)
 refine region_F ?_
 have cb3_0 := kb3.cell 0 rfl
 have cb3_1 := kb3.cell 1 rfl
 have cb3_2 := kb3.cell 2 rfl
 have cb3_3 := kb3.cell 3 rfl
 refine pl ?_
 refine pl ?_
 refine pl ?_
 refine listF_step rfl (fun K' hK => ?_); unfold opF; go_simp
 refine (qnext_any k a c ac cc cs h _ hN hsl (Rd.oldB HR.out HB.out (by simp)) (Rd.oldB HRc.out HB.out (by simp)) hlc).mono ?_; rintro e w34 ⟨rfl, hb35⟩
 refine ⟨_, rfl, hK _ _ ?_⟩; clear hK K'
 clear cb11_0 cb11_1 cb12_0 cb12_1 cb3_0 cb3_1 cb3_2 cb3_3
 clear qb3 qb7 qb9 qb11 qb12
 replace kb3 := kb3.at hb35
 replace kb7 := kb7.at hb35
 replace kb9 := kb9.at hb35
 replace kb11 := kb11.at hb35
 replace kb12 := kb12.at hb35
 replace HB := hid (HB.out.below hb35)
 clear hb35
 have qb3 := kb3.1
 have qb7 := kb7.1
 have qb9 := kb9.1
 have qb11 := kb11.1
 have qb12 := kb12.1
 refine pl ?_
 refine pl ?_
 refine pl ?_
 refine pl ?_
 refine pl ?_
 refine pl ?_
 refine pl ?_
 refine listF_abs (fun s36 hs' => ?_)
 replace sl1 := gs 1 hs' sl1; replace sl2 := gs 2 hs' sl2; replace sl3 := gs 3 hs' sl3; have sl8 := gu 8 hs'; have sl13 := gu 13 hs'; have sl14 := gu 14 hs'
 clear hs' sl60
 refine listF_nil ?_
 repeat ((fail_if_success refine stp ?_); with_reducible go_step)
 refine region_F ?_
 have cb3_0 := kb3.cell 0 rfl
 have cb3_1 := kb3.cell 1 rfl
 have cb3_2 := kb3.cell 2 rfl
 have cb3_3 := kb3.cell 3 rfl
 refine pl ?_
 refine pl ?_
 refine pl ?_
 refine listF_step rfl (fun K' hK => ?_); unfold opF; go_simp
 refine (rNext_any k a c ac cc cs h _ hsl (Rd.oldB HR.out HB.out (by simp)) (Rd.oldB HRc.out HB.out (by simp)) hlc).mono ?_; rintro e w37 ⟨rfl, hb38⟩
 refine ⟨_, rfl, hK _ _ ?_⟩; clear hK K'
 clear cb3_0 cb3_1 cb3_2 cb3_3
 clear qb3 qb7 qb9 qb11 qb12
 replace kb3 := kb3.at hb38
 replace kb7 := kb7.at hb38
 replace kb9 := kb9.at hb38
 replace kb11 := kb11.at hb38
 replace kb12 := kb12.at hb38
 replace HB := hid (HB.out.below hb38)
 clear hb38
 have qb3 := kb3.1
 have qb7 := kb7.1
 have qb9 := kb9.1
 have qb11 := kb11.1
 have qb12 := kb12.1
 refine pl ?_
 refine pl ?_
 refine pl ?_
 refine pl ?_
 refine pl ?_
 refine pl ?_
 refine pl ?_
 refine listF_abs (fun s39 hs' => ?_)
 replace sl8 := gs 8 hs' sl8; have sl10 := gu 10 hs'; replace sl13 := gs 13 hs' sl13; replace sl14 := gs 14 hs' sl14; have sl15 := gu 15 hs'; have sl16 := gu 16 hs'
 clear hs' sl1 sl2 sl3
 refine listF_nil ?_
 repeat ((fail_if_success refine stp ?_); with_reducible go_step)
 refine region_F ?_
 refine pl ?_
 refine pl ?_
 refine pl ?_
 refine pl ?_
 refine py ?_
 refine py ?_
 refine py ?_
 refine pl ?_
 refine pl ?_
 refine py ?_
 refine py ?_
 refine py ?_
 refine pl ?_
 refine pl ?_
 refine listF_yes rfl rfl (by decide) ?_ (fun K' hK => ?_); (focus (go_simp; done)); unfold opF; go_simp
 refine (awake_any _).mono ?_; rintro e w40 ⟨rfl, hb41⟩
 refine ⟨_, rfl, hK _ _ ?_⟩; clear hK K'
 clear qb3 qb7 qb9 qb11 qb12
 replace kb3 := kb3.at hb41
 replace kb7 := kb7.at hb41
 replace kb9 := kb9.at hb41
 replace kb11 := kb11.at hb41
 replace kb12 := kb12.at hb41
 replace HB := hid (HB.out.below hb41)
 clear hb41
 have qb3 := kb3.1
 have qb7 := kb7.1
 have qb9 := kb9.1
 have qb11 := kb11.1
 have qb12 := kb12.1
 refine pl ?_
 refine pl ?_
 refine listF_abs (fun s42 hs' => ?_)
 have sl6 := gu 6 hs'; clear hs' sl8 sl10 sl13 sl14 sl15 sl16
 refine listF_nil ?_
 repeat ((fail_if_success refine stp ?_); with_reducible go_step)
 refine ret_F _ (res_t Try.results4 ((getD_F (by decide)).trans sl6)) ?_
 exact ⟨rfl, HB.out.toBelow⟩

end Go.Proofs.Ytndcmmghgljinaa
