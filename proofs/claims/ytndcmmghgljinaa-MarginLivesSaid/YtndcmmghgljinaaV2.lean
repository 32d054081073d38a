/- MarginLives. -/
import Derived.Test.YtndcmmghgljinaaW43
import Derived.Test.YtndcmmghgljinaaW26
import Derived.Test.YtndcmmghgljinaaR2
set_option linter.all false
namespace Go.Proofs.Ytndcmmghgljinaa
open Go.RowKit

set_option maxRecDepth 100000 in
set_option maxHeartbeats 8000000 in
theorem lives_walk (k : Kd) (a : Option Addr) (c : Nat) (n : Int) (w : World) (hK0 : KdIn w k a) :
    Calls Try.prog 5 #[.agg #[.int .i64 k.new, .int .i64 k.wear.lo, .int .i64 k.wear.hi, .slice a k.steps.length c], .int .i64 n] w (fun e w' => e = .returned (.bool true) ∧ Below w.heap.size w w') := by
 have HR := hid hK0.2.2
 have hN := hK0.1
 have hsl := hK0.2.1
 clear hK0
 refine enter_F Try.func5 rfl Try.ntmps5 (by simp) ?_
 intro s0 hs
 have sl0 : s0 0 = .agg #[.int .i64 k.new, .int .i64 k.wear.lo, .int .i64 k.wear.hi, .slice a k.steps.length c] := hs 0 (by simp)
 have sl1 : s0 1 = .int .i64 n := hs 1 (by simp)
 clear hs
 have HB := hid (OldB.refl [] w)
 repeat ((fail_if_success refine stp ?_); with_reducible go_step)
 refine region_F ?_
 refine pa (fun w1 B2 hB kb2' hb2 => ?_)
 have gb2 := HB.out.gB hB
 have eb2 := eB hB; clear hB
 replace HB := hid (HB.out.below hb2)
 clear hb2
 have kb2 := kb2'
 clear kb2'
 have qb2 := kb2.1
 refine pl ?_
 refine listF_abs (fun s3 hs' => ?_)
 replace sl1 := gs 1 hs' sl1; have sl2 := gu 2 hs'; clear hs' sl0
 refine listF_nil ?_
 repeat ((fail_if_success refine stp ?_); with_reducible go_step)
 refine region_F ?_
 have cb2_0 := kb2.cell 0 rfl
 have cb2_1 := kb2.cell 1 rfl
 have cb2_2 := kb2.cell 2 rfl
 have cb2_3 := kb2.cell 3 rfl
 refine pl ?_
 refine pl ?_
 refine listF_step rfl (fun K' hK => ?_); unfold opF; go_simp
 refine (qlife_any k a c n _ hN hsl (Rd.oldB HR.out HB.out (by simp))).mono ?_; rintro e w4 ⟨rfl, hb5⟩
 refine ⟨_, rfl, hK _ _ ?_⟩; clear hK K'
 clear cb2_0 cb2_1 cb2_2 cb2_3
 clear qb2
 replace kb2 := kb2.at hb5
 replace HB := hid (HB.out.below hb5)
 clear hb5
 have qb2 := kb2.1
 refine pl ?_
 refine pl ?_
 refine pl ?_
 refine pa (fun w6 B5 hB kb5' hb7 => ?_)
 have gb5 := HB.out.gB hB
 have ob2_b5 := oB qb2 hB
 have eb5 := eB hB; clear hB
 clear qb2
 replace kb2 := kb2.at hb7
 replace HB := hid (HB.out.below hb7)
 clear hb7
 have qb2 := kb2.1
 have kb5 := kb5'
 clear kb5'
 have qb5 := kb5.1
 have cb5_0 := kb5.cell 0 rfl
 have cb5_1 := kb5.cell 1 rfl
 have zb5 := kb5.2.2
 refine pl ?_
 refine listF_absw (fun w8 hw' => ?_)
 have kb5' := cells_of hw' (Cells.set (i := 1) (Cells.set (i := 0) (kb5)))
 (try simp only [vC, List.set_cons_zero, List.set_cons_succ] at kb5')
 have hb9 : OldB [B5] w6 w8 := oldset hw'
 clear hw'
 clear cb5_0 cb5_1 zb5
 clear qb2 qb5
 replace kb5 := kb5'
 replace kb2 := kb2.oldB hb9 (by first | (simp; done) | (simp; omega))
 replace HB := hid (HB.out.more hb9 (by simp; try omega))
 clear hb9
 have qb2 := kb2.1
 have qb5 := kb5.1
 clear kb5'
 refine pl ?_
 refine listF_abs (fun s10 hs' => ?_)
 replace sl1 := gs 1 hs' sl1; replace sl2 := gs 2 hs' sl2; have sl5 := gu 5 hs'; have sl6 := gu 6 hs'; clear hs'
 refine listF_nil ?_
 repeat ((fail_if_success refine stp ?_); with_reducible go_step)
 refine region_F ?_
 have cb2_0 := kb2.cell 0 rfl
 have cb2_1 := kb2.cell 1 rfl
 have cb2_2 := kb2.cell 2 rfl
 have cb2_3 := kb2.cell 3 rfl
 refine pl ?_
 refine pl ?_
 refine listF_step rfl (fun K' hK => ?_); unfold opF; go_simp
 refine (rLife_any k a c n _ hsl (Rd.oldB HR.out HB.out (by simp))).mono ?_; rintro e w11 ⟨rfl, hb12⟩
 refine ⟨_, rfl, hK _ _ ?_⟩; clear hK K'
 clear cb2_0 cb2_1 cb2_2 cb2_3
 clear qb2 qb5
 replace kb2 := kb2.at hb12
 replace kb5 := kb5.at hb12
 replace HB := hid (HB.out.below hb12)
 clear hb12
 have qb2 := kb2.1
 have qb5 := kb5.1
 refine pl ?_
 refine pl ?_
 refine pl ?_
 refine pa (fun w13 B7 hB kb7' hb14 => ?_)
 have gb7 := HB.out.gB hB
 have ob2_b7 := oB qb2 hB
 have ob5_b7 := oB qb5 hB
 have eb7 := eB hB; clear hB
 clear qb2 qb5
 replace kb2 := kb2.at hb14
 replace kb5 := kb5.at hb14
 replace HB := hid (HB.out.below hb14)
 clear hb14
 have qb2 := kb2.1
 have qb5 := kb5.1
 have kb7 := kb7'
 clear kb7'
 have qb7 := kb7.1
 have cb7_0 := kb7.cell 0 rfl
 have cb7_1 := kb7.cell 1 rfl
 have zb7 := kb7.2.2
 refine pl ?_
 refine listF_absw (fun w15 hw' => ?_)
 have kb7' := cells_of hw' (Cells.set (i := 1) (Cells.set (i := 0) (kb7)))
 (try simp only [vC, List.set_cons_zero, List.set_cons_succ] at kb7')
 have hb16 : OldB [B7] w13 w15 := oldset hw'
 clear hw'
 clear cb7_0 cb7_1 zb7
 clear qb2 qb5 qb7
 replace kb7 := kb7'
 replace kb2 := kb2.oldB hb16 (by first | (simp; done) | (simp; omega))
 replace kb5 := kb5.oldB hb16 (by first | (simp; done) | (simp; omega))
 replace HB := hid (HB.out.more hb16 (by simp; try omega))
 clear hb16
 have qb2 := kb2.1
 have qb5 := kb5.1
 have qb7 := kb7.1
 clear kb7'
 refine pl ?_
 refine listF_abs (fun s17 hs' => ?_)
 replace sl5 := gs 5 hs' sl5; replace sl6 := gs 6 hs' sl6; have sl7 := gu 7 hs'; have sl8 := gu 8 hs'; clear hs' sl1 sl2
 refine listF_nil ?_
 repeat ((fail_if_success refine stp ?_); with_reducible go_step)
 refine region_F ?_
 have cb5_0 := kb5.cell 0 rfl
 have cb5_1 := kb5.cell 1 rfl
 refine pl ?_
 have cb7_0 := kb7.cell 0 rfl
 have cb7_1 := kb7.cell 1 rfl
 refine pl ?_
 refine pl ?_
 refine pl ?_
 refine py ?_
 refine py ?_
 refine py ?_
 refine pl ?_
 refine pl ?_
 refine listF_yes rfl rfl (by decide) ?_ (fun K' hK => ?_); (focus (go_simp; done)); unfold opF; go_simp
 refine (awake_any _).mono ?_; rintro e w18 ⟨rfl, hb19⟩
 refine ⟨_, rfl, hK _ _ ?_⟩; clear hK K'
 clear cb5_0 cb5_1 cb7_0 cb7_1
 clear qb2 qb5 qb7
 replace kb2 := kb2.at hb19
 replace kb5 := kb5.at hb19
 replace kb7 := kb7.at hb19
 replace HB := hid (HB.out.below hb19)
 clear hb19
 have qb2 := kb2.1
 have qb5 := kb5.1
 have qb7 := kb7.1
 refine pl ?_
 refine pl ?_
 refine listF_abs (fun s20 hs' => ?_)
 have sl4 := gu 4 hs'; clear hs' sl5 sl6 sl7 sl8
 refine listF_nil ?_
 repeat ((fail_if_success refine stp ?_); with_reducible go_step)
 refine ret_F _ (res_t Try.results5 ((getD_F (by decide)).trans sl4)) ?_
 exact ⟨rfl, HB.out.toBelow⟩

end Go.Proofs.Ytndcmmghgljinaa
