/- The reference's Now, Fails. -/
import Derived.Test.YtndcmmghgljinaaW23
set_option linter.all false
namespace Go.Proofs.Ytndcmmghgljinaa
open Go.RowKit

set_option maxRecDepth 100000 in
set_option maxHeartbeats 1000000 in
theorem rnow_any (k : Kd) (a : Option Addr) (c : Nat) (ac : Option Addr) (cc : Nat) (cs : List MCk) (h : Int) (w : World) (hsl : k.steps.length ≤ 9223372036854775807) (hR : RdSteps w a k.steps) (hRc : RdCks w ac cs) (hlc : cs.length ≤ 9223372036854775807) :
    Calls Try.prog 24 #[.agg #[.int .i64 k.new, .int .i64 k.wear.lo, .int .i64 k.wear.hi, .slice a k.steps.length c], .slice ac cs.length cc, .int .i64 h] w (fun e w' => e = .returned (.tuple #[.agg #[.int .i64 (asked k cs h).1.lo, .int .i64 (asked k cs h).1.hi], .int .i64 (asked k cs h).2]) ∧ Below w.heap.size w w') := by
 have HR := hid hR
 have HRc := hid hRc
 clear hR hRc
 refine enter_F Try.func24 rfl Try.ntmps24 (by simp) ?_
 intro s0 hs
 have sl0 : s0 0 = .agg #[.int .i64 k.new, .int .i64 k.wear.lo, .int .i64 k.wear.hi, .slice a k.steps.length c] := hs 0 (by simp)
 have sl1 : s0 1 = .slice ac cs.length cc := hs 1 (by simp)
 have sl2 : s0 2 = .int .i64 h := hs 2 (by simp)
 clear hs
 have HB := hid (OldB.refl [] w)
 repeat ((fail_if_success refine stp ?_); with_reducible go_step)
 refine region_F ?_
 refine pa (fun w1 B3 hB kb3' hb2 => ?_)
 have gb3 := HB.out.gB hB
 have eb3 := eB hB; clear hB
 replace HB := hid (HB.out.below hb2)
 clear hb2
 have kb3 := kb3'
 clear kb3'
 have qb3 := kb3.1
 refine pa (fun w3 B6 hB kb6' hb4 => ?_)
 have gb6 := HB.out.gB hB
 have ob3_b6 := oB qb3 hB
 have eb6 := eB hB; clear hB
 clear qb3
 replace kb3 := kb3.at hb4
 replace HB := hid (HB.out.below hb4)
 clear hb4
 have qb3 := kb3.1
 have kb6 := kb6'
 clear kb6'
 have qb6 := kb6.1
 refine pl ?_
 refine listF_abs (fun s5 hs' => ?_)
 replace sl1 := gs 1 hs' sl1; replace sl2 := gs 2 hs' sl2; have sl3 := gu 3 hs'; have sl6 := gu 6 hs'; clear hs' sl0
 refine listF_nil ?_
 repeat ((fail_if_success refine stp ?_); with_reducible go_step)
 refine region_F ?_
 have cb3_0 := kb3.cell 0 rfl
 have cb3_1 := kb3.cell 1 rfl
 have cb3_2 := kb3.cell 2 rfl
 have cb3_3 := kb3.cell 3 rfl
 refine pl ?_
 refine pl ?_
 refine pl ?_
 refine listF_step rfl (fun K' hK => ?_); unfold opF; go_simp
 refine (rasked_any k a c ac cc cs h _ hsl (Rd.oldB HR.out HB.out (by simp)) (Rd.oldB HRc.out HB.out (by simp)) hlc).mono ?_; rintro e w6 ⟨rfl, hb7⟩
 refine ⟨_, rfl, hK _ _ ?_⟩; clear hK K'
 clear cb3_0 cb3_1 cb3_2 cb3_3
 clear qb3 qb6
 replace kb3 := kb3.at hb7
 replace kb6 := kb6.at hb7
 replace HB := hid (HB.out.below hb7)
 clear hb7
 have qb3 := kb3.1
 have qb6 := kb6.1
 refine pl ?_
 refine pl ?_
 have cb6_0 := kb6.cell 0 rfl
 have cb6_1 := kb6.cell 1 rfl
 have zb6 := kb6.2.2
 refine pl ?_
 refine listF_absw (fun w8 hw' => ?_)
 have kb6' := cells_of hw' (Cells.set (i := 1) (Cells.set (i := 0) (kb6)))
 (try simp only [vC, List.set_cons_zero, List.set_cons_succ] at kb6')
 have hb9 : OldB [B6] w6 w8 := oldset hw'
 clear hw'
 clear cb6_0 cb6_1 zb6
 clear qb3 qb6
 replace kb6 := kb6'
 replace kb3 := kb3.oldB hb9 (by first | (simp; done) | (simp; omega))
 replace HB := hid (HB.out.more hb9 (by simp; try omega))
 clear hb9
 have qb3 := kb3.1
 have qb6 := kb6.1
 clear kb6'
 refine pl ?_
 refine listF_abs (fun s10 hs' => ?_)
 replace sl6 := gs 6 hs' sl6; have sl7 := gu 7 hs'; clear hs' sl1 sl2 sl3
 refine listF_nil ?_
 repeat ((fail_if_success refine stp ?_); with_reducible go_step)
 have cb6_0 := kb6.cell 0 rfl
 have cb6_1 := kb6.cell 1 rfl
 refine ret_F _ (res_ct Try.results24 ((getD_F (by decide)).trans sl6) (load_t23 cb6_0 cb6_1) ((getD_F (by decide)).trans sl7)) ?_
 exact ⟨rfl, HB.out.toBelow⟩

set_option maxRecDepth 100000 in
set_option maxHeartbeats 1000000 in
theorem rFails_any (k : Kd) (a : Option Addr) (c : Nat) (ac : Option Addr) (cc : Nat) (cs : List MCk) (h : Int) (w : World) (hsl : k.steps.length ≤ 9223372036854775807) (hR : RdSteps w a k.steps) (hRc : RdCks w ac cs) (hlc : cs.length ≤ 9223372036854775807) :
    Calls Try.prog 26 #[.agg #[.int .i64 k.new, .int .i64 k.wear.lo, .int .i64 k.wear.hi, .slice a k.steps.length c], .slice ac cs.length cc, .int .i64 h] w (fun e w' => e = .returned (.tuple #[.agg #[.int .i64 (failsRes k cs h).1.earliest, .int .i64 (failsRes k cs h).1.latest], .int .i64 (failsRes k cs h).2]) ∧ Below w.heap.size w w') := by
 have HR := hid hR
 have HRc := hid hRc
 clear hR hRc
 refine enter_F Try.func26 rfl Try.ntmps26 (by simp) ?_
 intro s0 hs
 have sl0 : s0 0 = .agg #[.int .i64 k.new, .int .i64 k.wear.lo, .int .i64 k.wear.hi, .slice a k.steps.length c] := hs 0 (by simp)
 have sl1 : s0 1 = .slice ac cs.length cc := hs 1 (by simp)
 have sl2 : s0 2 = .int .i64 h := hs 2 (by simp)
 clear hs
 have HB := hid (OldB.refl [] w)
 repeat ((fail_if_success refine stp ?_); with_reducible go_step)
 refine region_F ?_
 refine pa (fun w1 B3 hB kb3' hb2 => ?_)
 have gb3 := HB.out.gB hB
 have eb3 := eB hB; clear hB
 replace HB := hid (HB.out.below hb2)
 clear hb2
 have kb3 := kb3'
 clear kb3'
 have qb3 := kb3.1
 refine pa (fun w3 B6 hB kb6' hb4 => ?_)
 have gb6 := HB.out.gB hB
 have ob3_b6 := oB qb3 hB
 have eb6 := eB hB; clear hB
 clear qb3
 replace kb3 := kb3.at hb4
 replace HB := hid (HB.out.below hb4)
 clear hb4
 have qb3 := kb3.1
 have kb6 := kb6'
 clear kb6'
 have qb6 := kb6.1
 refine pl ?_
 refine listF_abs (fun s5 hs' => ?_)
 replace sl1 := gs 1 hs' sl1; replace sl2 := gs 2 hs' sl2; have sl3 := gu 3 hs'; have sl6 := gu 6 hs'; clear hs' sl0
 refine listF_nil ?_
 repeat ((fail_if_success refine stp ?_); with_reducible go_step)
 refine region_F ?_
 have cb3_0 := kb3.cell 0 rfl
 have cb3_1 := kb3.cell 1 rfl
 have cb3_2 := kb3.cell 2 rfl
 have cb3_3 := kb3.cell 3 rfl
 refine pl ?_
 refine pl ?_
 refine pl ?_
 refine listF_step rfl (fun K' hK => ?_); unfold opF; go_simp
 refine (rasked_any k a c ac cc cs h _ hsl (Rd.oldB HR.out HB.out (by simp)) (Rd.oldB HRc.out HB.out (by simp)) hlc).mono ?_; rintro e w6 ⟨rfl, hb7⟩
 refine ⟨_, rfl, hK _ _ ?_⟩; clear hK K'
 clear cb3_0 cb3_1 cb3_2 cb3_3
 clear qb3 qb6
 replace kb3 := kb3.at hb7
 replace kb6 := kb6.at hb7
 replace HB := hid (HB.out.below hb7)
 clear hb7
 have qb3 := kb3.1
 have qb6 := kb6.1
 refine pl ?_
 refine pl ?_
 refine pl ?_
 refine pa (fun w8 B8 hB kb8' hb9 => ?_)
 have gb8 := HB.out.gB hB
 have ob3_b8 := oB qb3 hB
 have ob6_b8 := oB qb6 hB
 have eb8 := eB hB; clear hB
 clear qb3 qb6
 replace kb3 := kb3.at hb9
 replace kb6 := kb6.at hb9
 replace HB := hid (HB.out.below hb9)
 clear hb9
 have qb3 := kb3.1
 have qb6 := kb6.1
 have kb8 := kb8'
 clear kb8'
 have qb8 := kb8.1
 have cb8_0 := kb8.cell 0 rfl
 have cb8_1 := kb8.cell 1 rfl
 have zb8 := kb8.2.2
 refine pl ?_
 refine listF_absw (fun w10 hw' => ?_)
 have kb8' := cells_of hw' (Cells.set (i := 1) (Cells.set (i := 0) (kb8)))
 (try simp only [vC, List.set_cons_zero, List.set_cons_succ] at kb8')
 have hb11 : OldB [B8] w8 w10 := oldset hw'
 clear hw'
 clear cb8_0 cb8_1 zb8
 clear qb3 qb6 qb8
 replace kb8 := kb8'
 replace kb3 := kb3.oldB hb11 (by first | (simp; done) | (simp; omega))
 replace kb6 := kb6.oldB hb11 (by first | (simp; done) | (simp; omega))
 replace HB := hid (HB.out.more hb11 (by simp; try omega))
 clear hb11
 have qb3 := kb3.1
 have qb6 := kb6.1
 have qb8 := kb8.1
 clear kb8'
 refine pl ?_
 refine listF_abs (fun s12 hs' => ?_)
 replace sl2 := gs 2 hs' sl2; replace sl3 := gs 3 hs' sl3; replace sl6 := gs 6 hs' sl6; have sl8 := gu 8 hs'; have sl9 := gu 9 hs'; clear hs' sl1
 refine listF_nil ?_
 repeat ((fail_if_success refine stp ?_); with_reducible go_step)
 refine region_F ?_
 refine pl ?_
 refine pl ?_
 refine listF_abs (fun s13 hs' => ?_)
 replace sl2 := gs 2 hs' sl2; replace sl3 := gs 3 hs' sl3; replace sl6 := gs 6 hs' sl6; replace sl8 := gs 8 hs' sl8; replace sl9 := gs 9 hs' sl9; have sl18 := gu 18 hs'
 clear hs'
 refine listF_nil ?_
 repeat ((fail_if_success refine stp ?_); with_reducible go_step)
 refine cond_E sl18 (by decide) ?_ ?_ <;> (clear sl18; intro h18 sl18)
 ·skip
  have Ha := hid (show (asked k cs h).2 ≠ 0 by simpa using h18)
  repeat ((fail_if_success refine stp ?_); with_reducible go_step)
  refine region_F ?_
  refine pl ?_
  refine pl ?_
  have cb6_0 := kb6.cell 0 rfl
  have cb6_1 := kb6.cell 1 rfl
  have zb6 := kb6.2.2
  refine pl ?_
  refine listF_absw (fun w14 hw' => ?_)
  have kb6' := cells_of hw' (Cells.set (i := 1) (Cells.set (i := 0) (kb6)))
  (try simp only [vC, List.set_cons_zero, List.set_cons_succ] at kb6')
  have hb15 : OldB [B6] w10 w14 := oldset hw'
  clear hw'
  clear cb6_0 cb6_1 zb6
  clear qb3 qb6 qb8
  replace kb6 := kb6'
  replace kb3 := kb3.oldB hb15 (by first | (simp; done) | (simp; omega))
  replace kb8 := kb8.oldB hb15 (by first | (simp; done) | (simp; omega))
  replace HB := hid (HB.out.more hb15 (by simp; try omega))
  clear hb15
  have qb3 := kb3.1
  have qb6 := kb6.1
  have qb8 := kb8.1
  clear kb6'
  refine pl ?_
  refine listF_abs (fun s16 hs' => ?_)
  replace sl6 := gs 6 hs' sl6; have sl7 := gu 7 hs'; clear hs' sl2 sl3 sl8 sl9 sl18
  refine listF_nil ?_
  repeat ((fail_if_success refine stp ?_); with_reducible go_step)
  have cb6_0 := kb6.cell 0 rfl
  have cb6_1 := kb6.cell 1 rfl
  refine ret_F _ (res_ct Try.results26 ((getD_F (by decide)).trans sl6) (load_t37 cb6_0 cb6_1) ((getD_F (by decide)).trans sl7)) ?_
  exact ⟨by unfold failsRes; rw [if_neg Ha.out]; rfl, HB.out.toBelow⟩
 ·skip
  have ha : (asked k cs h).2 = 0 := by simpa using h18
  obtain ⟨hK, _, hsp, hlh, hh1, hh2, hlo0, hhi0⟩ := asked_in ha
  have HK := hid hK
  have Hsp := hid hsp
  have Ha := hid ha
  clear ha hK hsp
  repeat ((fail_if_success refine stp ?_); with_reducible go_step)
  refine region_F ?_
  have cb3_0 := kb3.cell 0 rfl
  have cb3_1 := kb3.cell 1 rfl
  have cb3_2 := kb3.cell 2 rfl
  have cb3_3 := kb3.cell 3 rfl
  refine pl ?_
  have cb8_0 := kb8.cell 0 rfl
  have cb8_1 := kb8.cell 1 rfl
  refine pl ?_
  refine pl ?_
  refine listF_step rfl (fun K' hK => ?_); unfold opF; go_simp
  refine (rfails_any k a c (asked k cs h).1 h _ (Rd.oldB HR.out HB.out (by simp)) HK.out Hsp.out.in ⟨hh1, hh2⟩).mono ?_; rintro e w17 ⟨rfl, hb18⟩
  refine ⟨_, rfl, hK _ _ ?_⟩; clear hK K'
  clear cb3_0 cb3_1 cb3_2 cb3_3 cb8_0 cb8_1
  clear qb3 qb6 qb8
  replace kb3 := kb3.at hb18
  replace kb6 := kb6.at hb18
  replace kb8 := kb8.at hb18
  replace HB := hid (HB.out.below hb18)
  clear hb18
  have qb3 := kb3.1
  have qb6 := kb6.1
  have qb8 := kb8.1
  have cb6_0 := kb6.cell 0 rfl
  have cb6_1 := kb6.cell 1 rfl
  have zb6 := kb6.2.2
  refine pl ?_
  refine listF_absw (fun w19 hw' => ?_)
  have kb6' := cells_of hw' (Cells.set (i := 1) (Cells.set (i := 0) (kb6)))
  (try simp only [vC, List.set_cons_zero, List.set_cons_succ] at kb6')
  have hb20 : OldB [B6] w17 w19 := oldset hw'
  clear hw'
  clear cb6_0 cb6_1 zb6
  clear qb3 qb6 qb8
  replace kb6 := kb6'
  replace kb3 := kb3.oldB hb20 (by first | (simp; done) | (simp; omega))
  replace kb8 := kb8.oldB hb20 (by first | (simp; done) | (simp; omega))
  replace HB := hid (HB.out.more hb20 (by simp; try omega))
  clear hb20
  have qb3 := kb3.1
  have qb6 := kb6.1
  have qb8 := kb8.1
  clear kb6'
  refine pl ?_
  refine listF_abs (fun s21 hs' => ?_)
  replace sl6 := gs 6 hs' sl6; have sl7 := gu 7 hs'; clear hs' sl2 sl3 sl8 sl9 sl18
  refine listF_nil ?_
  repeat ((fail_if_success refine stp ?_); with_reducible go_step)
  have cb6_0 := kb6.cell 0 rfl
  have cb6_1 := kb6.cell 1 rfl
  refine ret_F _ (res_ct Try.results26 ((getD_F (by decide)).trans sl6) (load_t37 cb6_0 cb6_1) ((getD_F (by decide)).trans sl7)) ?_
  exact ⟨by unfold failsRes; rw [if_pos Ha.out], HB.out.toBelow⟩

end Go.Proofs.Ytndcmmghgljinaa
