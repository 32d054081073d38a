/- MarginLater. -/
import Derived.Test.YtndcmmghgljinaaW43
import Derived.Test.YtndcmmghgljinaaW44
import Derived.Test.YtndcmmghgljinaaM7
import Derived.Test.YtndcmmghgljinaaR4
set_option linter.all false
namespace Go.Proofs.Ytndcmmghgljinaa
open Go.RowKit


theorem ite_min (s x : Int) : (if x < s then x else s) = min s x := by omega

set_option maxRecDepth 100000 in
set_option maxHeartbeats 16000000 in
theorem later_walk (k : Kd) (a : Option Addr) (c : Nat) (ac : Option Addr) (cc : Nat) (cs : List MCk) (x0 x1 x2 x3 : Int) (w : World) (hK0 : KdIn w k a) (hRc : RdCks w ac cs) (hlc : cs.length ≤ 9223372036854775807) (hx0 : 0 ≤ x0 ∧ x0 ≤ 65535) (hx1 : 0 ≤ x1 ∧ x1 ≤ 65535) (hx2 : 0 ≤ x2 ∧ x2 ≤ 65535) (hx3 : 0 ≤ x3 ∧ x3 ≤ 65535) :
    Calls Try.prog 17 #[.agg #[.int .i64 k.new, .int .i64 k.wear.lo, .int .i64 k.wear.hi, .slice a k.steps.length c], .slice ac cs.length cc, .agg #[.int .u16 x0, .int .u16 x1, .int .u16 x2, .int .u16 x3]] w (fun e w' => e = .returned (.bool true) ∧ Below w.heap.size w w') := by
 have HR := hid hK0.2.2; have hN := hK0.1; have hsl := hK0.2.1; clear hK0; have HRc := hid hRc; clear hRc; have y0 := u16_wrap hx0; have y1 := u16_wrap hx1; have y2 := u16_wrap hx2; have y3 := u16_wrap hx3; have y4 : IntKind.i64.wrap (x0 + x1) = x0 + x1 := IntWalk.i64_in _ (by omega)
 refine enter_F Try.func17 rfl Try.ntmps17 (by simp) ?_
 intro s0 hs; have sl0 : s0 0 = .agg #[.int .i64 k.new, .int .i64 k.wear.lo, .int .i64 k.wear.hi, .slice a k.steps.length c] := hs 0 (by simp); have sl1 : s0 1 = .slice ac cs.length cc := hs 1 (by simp); have sl2 : s0 2 = .agg #[.int .u16 x0, .int .u16 x1, .int .u16 x2, .int .u16 x3] := hs 2 (by simp); clear hs; have HB := hid (OldB.refl [] w)
 repeat ((fail_if_success refine stp ?_); with_reducible go_step)
 refine region_F ?_; refine pa (fun w1 B3 hB kb3' hb2 => ?_); have gb3 := HB.out.gB hB; have eb3 := eB hB; clear hB; replace HB := hid (HB.out.below hb2); clear hb2; have kb3 := kb3'; clear kb3'; have qb3 := kb3.1; refine pa (fun w3 B5 hB kb5' hb4 => ?_); have gb5 := HB.out.gB hB; have ob3_b5 := oB qb3 hB; have eb5 := eB hB; clear hB; clear qb3; replace kb3 := kb3.at hb4; replace HB := hid (HB.out.below hb4); clear hb4; have qb3 := kb3.1; have kb5 := kb5'; clear kb5'; have qb5 := kb5.1; refine pl ?_; refine listF_abs (fun s5 z' => ?_); replace sl1 := gs 1 z' sl1; have sl3 := gu 3 z'; have sl5 := gu 5 z'; clear z' sl0 sl2; refine listF_nil ?_
 repeat ((fail_if_success refine stp ?_); with_reducible go_step)
 refine region_F ?_; refine pl ?_; have cb5_0 := kb5.cell 0 rfl; have cb5_1 := kb5.cell 1 rfl; have cb5_2 := kb5.cell 2 rfl; have cb5_3 := kb5.cell 3 rfl
 iterate 3 refine pl ?_
 refine listF_abs (fun s6 z' => ?_); replace sl1 := gs 1 z' sl1; replace sl3 := gs 3 z' sl3; replace sl5 := gs 5 z' sl5; have sl7 := gu 7 z'; clear z'; refine listF_nil ?_
 repeat ((fail_if_success refine stp ?_); with_reducible go_step)
 refine region_F ?_; have cb3_0 := kb3.cell 0 rfl; have cb3_1 := kb3.cell 1 rfl; have cb3_2 := kb3.cell 2 rfl; have cb3_3 := kb3.cell 3 rfl
 iterate 3 refine pl ?_
 refine listF_step rfl (fun K' hK => ?_); unfold opF; go_simp; refine (qnow_any k a c ac cc cs x0 _ hN hsl (Rd.oldB HR.out HB.out (by simp)) (Rd.oldB HRc.out HB.out (by simp)) hlc).mono ?_; rintro e w7 ⟨rfl, hb8⟩; refine ⟨_, rfl, hK _ _ ?_⟩; clear hK K'; clear cb3_0 cb3_1 cb3_2 cb3_3 cb5_0 cb5_1 cb5_2 cb5_3; clear qb3 qb5; replace kb3 := kb3.at hb8; replace kb5 := kb5.at hb8; replace HB := hid (HB.out.below hb8); clear hb8; have qb3 := kb3.1; have qb5 := kb5.1
 iterate 3 refine pl ?_
 refine pa (fun w9 B8 hB kb8' hb10 => ?_); have gb8 := HB.out.gB hB; have ob3_b8 := oB qb3 hB; have ob5_b8 := oB qb5 hB; have eb8 := eB hB; clear hB; clear qb3 qb5; replace kb3 := kb3.at hb10; replace kb5 := kb5.at hb10; replace HB := hid (HB.out.below hb10); clear hb10; have qb3 := kb3.1; have qb5 := kb5.1; have kb8 := kb8'; clear kb8'; have qb8 := kb8.1; have cb8_0 := kb8.cell 0 rfl; have cb8_1 := kb8.cell 1 rfl; have zb8 := kb8.2.2; refine pl ?_; refine listF_absw (fun w11 hw' => ?_); have kb8' := cells_of hw' (Cells.set (i := 1) (Cells.set (i := 0) (kb8)))
 (try simp only [vC, List.set_cons_zero, List.set_cons_succ] at kb8')
 have hb12 : OldB [B8] w9 w11 := oldset hw'; clear hw'; clear cb8_0 cb8_1 zb8; clear qb3 qb5 qb8; replace kb8 := kb8'; replace kb3 := kb3.oldB hb12 (by first | (simp; done) | (simp; omega)); replace kb5 := kb5.oldB hb12 (by first | (simp; done) | (simp; omega)); replace HB := hid (HB.out.more hb12 (by simp; try omega)); clear hb12; have qb3 := kb3.1; have qb5 := kb5.1; have qb8 := kb8.1; clear kb8'; refine pl ?_; refine listF_abs (fun s13 z' => ?_); replace sl1 := gs 1 z' sl1; replace sl3 := gs 3 z' sl3; replace sl5 := gs 5 z' sl5; replace sl7 := gs 7 z' sl7; have sl8 := gu 8 z'; have sl9 := gu 9 z'; clear z'; refine listF_nil ?_
 repeat ((fail_if_success refine stp ?_); with_reducible go_step)
 refine region_F ?_; have cb3_0 := kb3.cell 0 rfl; have cb3_1 := kb3.cell 1 rfl; have cb3_2 := kb3.cell 2 rfl; have cb3_3 := kb3.cell 3 rfl
 iterate 4 refine pl ?_
 have cb5_0 := kb5.cell 0 rfl; have cb5_1 := kb5.cell 1 rfl; have cb5_2 := kb5.cell 2 rfl; have cb5_3 := kb5.cell 3 rfl
 iterate 4 refine pl ?_
 rw [ite_min]; refine listF_step rfl (fun K' hK => ?_); unfold opF; go_simp; refine (qnow_any k a c ac cc cs (min 100000 (x0 + x1)) _ hN hsl (Rd.oldB HR.out HB.out (by simp)) (Rd.oldB HRc.out HB.out (by simp)) hlc).mono ?_; rintro e w14 ⟨rfl, hb15⟩; refine ⟨_, rfl, hK _ _ ?_⟩; clear hK K'; clear cb3_0 cb3_1 cb3_2 cb3_3 cb5_0 cb5_1 cb5_2 cb5_3; clear qb3 qb5 qb8; replace kb3 := kb3.at hb15; replace kb5 := kb5.at hb15; replace kb8 := kb8.at hb15; replace HB := hid (HB.out.below hb15); clear hb15; have qb3 := kb3.1; have qb5 := kb5.1; have qb8 := kb8.1
 iterate 3 refine pl ?_
 refine pa (fun w16 B10 hB kb10' hb17 => ?_); have gb10 := HB.out.gB hB; have ob3_b10 := oB qb3 hB; have ob5_b10 := oB qb5 hB; have ob8_b10 := oB qb8 hB; have eb10 := eB hB; clear hB; clear qb3 qb5 qb8; replace kb3 := kb3.at hb17; replace kb5 := kb5.at hb17; replace kb8 := kb8.at hb17; replace HB := hid (HB.out.below hb17); clear hb17; have qb3 := kb3.1; have qb5 := kb5.1; have qb8 := kb8.1; have kb10 := kb10'; clear kb10'; have qb10 := kb10.1; have cb10_0 := kb10.cell 0 rfl; have cb10_1 := kb10.cell 1 rfl; have zb10 := kb10.2.2; refine pl ?_; refine listF_absw (fun w18 hw' => ?_); have kb10' := cells_of hw' (Cells.set (i := 1) (Cells.set (i := 0) (kb10)))
 (try simp only [vC, List.set_cons_zero, List.set_cons_succ] at kb10')
 have hb19 : OldB [B10] w16 w18 := oldset hw'; clear hw'; clear cb10_0 cb10_1 zb10; clear qb3 qb5 qb8 qb10; replace kb10 := kb10'; replace kb3 := kb3.oldB hb19 (by first | (simp; done) | (simp; omega)); replace kb5 := kb5.oldB hb19 (by first | (simp; done) | (simp; omega)); replace kb8 := kb8.oldB hb19 (by first | (simp; done) | (simp; omega)); replace HB := hid (HB.out.more hb19 (by simp; try omega)); clear hb19; have qb3 := kb3.1; have qb5 := kb5.1; have qb8 := kb8.1; have qb10 := kb10.1; clear kb10'; refine pl ?_; refine listF_abs (fun s20 z' => ?_); replace sl1 := gs 1 z' sl1; replace sl3 := gs 3 z' sl3; replace sl5 := gs 5 z' sl5; replace sl7 := gs 7 z' sl7; replace sl8 := gs 8 z' sl8; replace sl9 := gs 9 z' sl9; have sl10 := gu 10 z'; have sl11 := gu 11 z'; clear z'; refine listF_nil ?_
 repeat ((fail_if_success refine stp ?_); with_reducible go_step)
 refine region_F ?_; refine pl ?_; refine pl ?_; refine listF_abs (fun s21 z' => ?_); replace sl1 := gs 1 z' sl1; replace sl3 := gs 3 z' sl3; replace sl5 := gs 5 z' sl5; replace sl7 := gs 7 z' sl7; replace sl8 := gs 8 z' sl8; replace sl10 := gs 10 z' sl10; replace sl11 := gs 11 z' sl11; have sl40 := gu 40 z'; clear z' sl9; refine listF_nil ?_
 repeat ((fail_if_success refine stp ?_); with_reducible go_step)
 refine cond_E sl40 (by decide) ?_ ?_ <;> (clear sl40; intro h40 sl40)
 ·skip
  repeat ((fail_if_success refine stp ?_); with_reducible go_step)
  refine region_F ?_; refine listF_step rfl (fun K' hK => ?_); unfold opF; go_simp; refine (awake_any _).mono ?_; rintro e w22 ⟨rfl, hb23⟩; refine ⟨_, rfl, hK _ _ ?_⟩; clear hK K'; clear qb3 qb5 qb8 qb10; replace kb3 := kb3.at hb23; replace kb5 := kb5.at hb23; replace kb8 := kb8.at hb23; replace kb10 := kb10.at hb23; replace HB := hid (HB.out.below hb23); clear hb23; have qb3 := kb3.1; have qb5 := kb5.1; have qb8 := kb8.1; have qb10 := kb10.1; refine pl ?_; refine listF_abs (fun s24 z' => ?_); have sl6 := gu 6 z'; clear z' sl1 sl3 sl5 sl7 sl8 sl10 sl11 sl40; refine listF_nil ?_
  repeat ((fail_if_success refine stp ?_); with_reducible go_step)
  refine ret_F _ (res_t Try.results17 ((getD_F (by decide)).trans sl6)) ?_; exact ⟨rfl, HB.out.toBelow⟩
 ·skip
  have he : (asked k cs x0).2 = 0 := by simpa using h40
  obtain ⟨⟨e1, l1, l2⟩, e2, nl⟩ := law_later he (x := x1) (y := x2) (z := x3) (by omega) hx1.1 hx2.1 hx3.1; obtain ⟨fa, hfa⟩ : ∃ f, failsOf k (asked k cs x0).1 x0 = f := ⟨_, rfl⟩; obtain ⟨fb, hfb⟩ : ∃ f, failsOf (widK k x2 x3) (asked (widK k x2 x3) cs x0).1 x0 = f := ⟨_, rfl⟩; rw [hfa, hfb] at nl; have Hr1 := hid (show failsRes k cs x0 = (fa, 0) by unfold failsRes; rw [if_pos he, hfa]); have Hr2 := hid (show failsRes (widK k x2 x3) cs x0 = (fb, 0) by unfold failsRes; rw [if_pos e2, hfb]); clear hfa hfb e2; have l1' := Int.not_lt.2 l1; have l2' := Int.not_lt.2 l2; have nl := hid nl; have hww := widK_wear (kok_of (asked_ok he).1) hx2.1 hx3.1; have hw0 := (kok_of (asked_ok he).1).w0; have hw1 := (kok_of (asked_ok he).1).w1; have hw2 := (kok_of (asked_ok he).1).w2; have y5 : IntKind.i64.wrap (k.wear.lo - x2) = k.wear.lo - x2 := IntWalk.i64_in _ (by omega); have y6 : IntKind.i64.wrap (k.wear.hi + x3) = k.wear.hi + x3 := IntWalk.i64_in _ (by omega)
  clear hww
  repeat ((fail_if_success refine stp ?_); with_reducible go_step)
  refine region_F ?_
  iterate 3 refine pl ?_
  refine py ?_; have cb10_0 := kb10.cell 0 rfl; have cb10_1 := kb10.cell 1 rfl; refine py ?_; refine py ?_; have cb8_0 := kb8.cell 0 rfl; have cb8_1 := kb8.cell 1 rfl; refine py ?_; refine py ?_; refine pl ?_; refine pl ?_
  iterate 5 refine py ?_
  refine pl ?_; refine listF_abs (fun s25 z' => ?_); replace sl1 := gs 1 z' sl1; replace sl3 := gs 3 z' sl3; replace sl5 := gs 5 z' sl5; replace sl7 := gs 7 z' sl7; have sl57 := gu 57 z'; clear z' sl8 sl10 sl11 sl40; refine listF_nil ?_
  repeat ((fail_if_success refine stp ?_); with_reducible go_step)
  refine cond_f ?_
  repeat ((fail_if_success refine stp ?_); with_reducible go_step)
  refine region_F ?_; have cb3_0 := kb3.cell 0 rfl; have cb3_1 := kb3.cell 1 rfl; have cb3_2 := kb3.cell 2 rfl; have cb3_3 := kb3.cell 3 rfl; refine pl ?_; refine pa (fun w26 B12 hB kb12' hb27 => ?_); have gb12 := HB.out.gB hB; have ob3_b12 := oB qb3 hB; have ob5_b12 := oB qb5 hB; have ob8_b12 := oB qb8 hB; have ob10_b12 := oB qb10 hB; have eb12 := eB hB; clear hB; clear cb10_0 cb10_1 cb3_0 cb3_1 cb3_2 cb3_3 cb8_0 cb8_1; clear qb3 qb5 qb8 qb10; replace kb3 := kb3.at hb27; replace kb5 := kb5.at hb27; replace kb8 := kb8.at hb27; replace kb10 := kb10.at hb27; replace HB := hid (HB.out.below hb27); clear hb27; have qb3 := kb3.1; have qb5 := kb5.1; have qb8 := kb8.1; have qb10 := kb10.1; have kb12 := kb12'; clear kb12'; have qb12 := kb12.1; have cb12_0 := kb12.cell 0 rfl; have cb12_1 := kb12.cell 1 rfl; have cb12_2 := kb12.cell 2 rfl; have cb12_3 := kb12.cell 3 rfl; have zb12 := kb12.2.2; refine pl ?_; refine listF_absw (fun w28 hw' => ?_); have kb12' := cells_of hw' (Cells.set (i := 3) (Cells.set (i := 2) (Cells.set (i := 1) (Cells.set (i := 0) (kb12)))))
  (try simp only [vC, List.set_cons_zero, List.set_cons_succ] at kb12')
  have hb29 : OldB [B12] w26 w28 := oldset hw'; clear hw'; clear cb12_0 cb12_1 cb12_2 cb12_3 zb12; clear qb3 qb5 qb8 qb10 qb12; replace kb12 := kb12'; replace kb3 := kb3.oldB hb29 (by first | (simp; done) | (simp; omega)); replace kb5 := kb5.oldB hb29 (by first | (simp; done) | (simp; omega)); replace kb8 := kb8.oldB hb29 (by first | (simp; done) | (simp; omega)); replace kb10 := kb10.oldB hb29 (by first | (simp; done) | (simp; omega)); replace HB := hid (HB.out.more hb29 (by simp; try omega)); clear hb29; have qb3 := kb3.1; have qb5 := kb5.1; have qb8 := kb8.1; have qb10 := kb10.1; have qb12 := kb12.1; clear kb12'; refine listF_abs (fun s30 z' => ?_); replace sl1 := gs 1 z' sl1; replace sl3 := gs 3 z' sl3; replace sl5 := gs 5 z' sl5; replace sl7 := gs 7 z' sl7; have sl12 := gu 12 z'; clear z' sl57; refine listF_nil ?_
  repeat ((fail_if_success refine stp ?_); with_reducible go_step)
  refine region_F ?_; refine pl ?_; refine pl ?_; have cb3_0 := kb3.cell 0 rfl; have cb3_1 := kb3.cell 1 rfl; have cb3_2 := kb3.cell 2 rfl; have cb3_3 := kb3.cell 3 rfl; refine pl ?_; refine pl ?_; have cb5_0 := kb5.cell 0 rfl; have cb5_1 := kb5.cell 1 rfl; have cb5_2 := kb5.cell 2 rfl; have cb5_3 := kb5.cell 3 rfl
  iterate 12 refine pl ?_
  simp only [ite_max, ite_min]
  refine listF_step rfl (fun K' hK => ?_); unfold opF; go_simp; refine (lspan_any (max 0 (k.wear.lo - x2)) (min 1000 (k.wear.hi + x3)) _).mono ?_; rintro e w31 ⟨rfl, hb32⟩; refine ⟨_, rfl, hK _ _ ?_⟩; clear hK K'; clear cb3_0 cb3_1 cb3_2 cb3_3 cb5_0 cb5_1 cb5_2 cb5_3; clear qb3 qb5 qb8 qb10 qb12; replace kb3 := kb3.at hb32; replace kb5 := kb5.at hb32; replace kb8 := kb8.at hb32; replace kb10 := kb10.at hb32; replace kb12 := kb12.at hb32; replace HB := hid (HB.out.below hb32); clear hb32; have qb3 := kb3.1; have qb5 := kb5.1; have qb8 := kb8.1; have qb10 := kb10.1; have qb12 := kb12.1; refine pl ?_; have cb12_0 := kb12.cell 0 rfl; have cb12_1 := kb12.cell 1 rfl; have cb12_2 := kb12.cell 2 rfl; have cb12_3 := kb12.cell 3 rfl; have zb12 := kb12.2.2; refine pl ?_; refine listF_absw (fun w33 hw' => ?_); have kb12' := cells_of hw' (Cells.set (i := 2) (Cells.set (i := 1) (kb12)))
  (try simp only [vC, List.set_cons_zero, List.set_cons_succ] at kb12')
  have hb34 : OldB [B12] w31 w33 := oldset hw'; clear hw'; clear cb12_0 cb12_1 cb12_2 cb12_3 zb12; clear qb3 qb5 qb8 qb10 qb12; replace kb12 := kb12'; replace kb3 := kb3.oldB hb34 (by first | (simp; done) | (simp; omega)); replace kb5 := kb5.oldB hb34 (by first | (simp; done) | (simp; omega)); replace kb8 := kb8.oldB hb34 (by first | (simp; done) | (simp; omega)); replace kb10 := kb10.oldB hb34 (by first | (simp; done) | (simp; omega)); replace HB := hid (HB.out.more hb34 (by simp; try omega)); clear hb34; have qb3 := kb3.1; have qb5 := kb5.1; have qb8 := kb8.1; have qb10 := kb10.1; have qb12 := kb12.1; clear kb12'; refine listF_abs (fun s35 z' => ?_); replace sl1 := gs 1 z' sl1; replace sl3 := gs 3 z' sl3; replace sl7 := gs 7 z' sl7; replace sl12 := gs 12 z' sl12; clear z' sl5; refine listF_nil ?_
  repeat ((fail_if_success refine stp ?_); with_reducible go_step)
  refine region_F ?_; have cb3_0 := kb3.cell 0 rfl; have cb3_1 := kb3.cell 1 rfl; have cb3_2 := kb3.cell 2 rfl; have cb3_3 := kb3.cell 3 rfl
  iterate 3 refine pl ?_
  refine listF_step rfl (fun K' hK => ?_); unfold opF; go_simp; refine (qfails_any k a c ac cc cs x0 _ hN hsl (Rd.oldB HR.out HB.out (by simp)) (Rd.oldB HRc.out HB.out (by simp)) hlc).mono ?_; rintro e w36 ⟨rfl, hb37⟩; rw [Hr1.out]; refine ⟨_, rfl, hK _ _ ?_⟩; clear hK K'; clear cb3_0 cb3_1 cb3_2 cb3_3; clear qb3 qb5 qb8 qb10 qb12; replace kb3 := kb3.at hb37; replace kb5 := kb5.at hb37; replace kb8 := kb8.at hb37; replace kb10 := kb10.at hb37; replace kb12 := kb12.at hb37; replace HB := hid (HB.out.below hb37); clear hb37; have qb3 := kb3.1; have qb5 := kb5.1; have qb8 := kb8.1; have qb10 := kb10.1; have qb12 := kb12.1
  iterate 3 refine pl ?_
  refine pa (fun w38 B13 hB kb13' hb39 => ?_); have gb13 := HB.out.gB hB; have ob3_b13 := oB qb3 hB; have ob5_b13 := oB qb5 hB; have ob8_b13 := oB qb8 hB; have ob10_b13 := oB qb10 hB; have ob12_b13 := oB qb12 hB; have eb13 := eB hB; clear hB; clear qb3 qb5 qb8 qb10 qb12; replace kb3 := kb3.at hb39; replace kb5 := kb5.at hb39; replace kb8 := kb8.at hb39; replace kb10 := kb10.at hb39; replace kb12 := kb12.at hb39; replace HB := hid (HB.out.below hb39); clear hb39; have qb3 := kb3.1; have qb5 := kb5.1; have qb8 := kb8.1; have qb10 := kb10.1; have qb12 := kb12.1; have kb13 := kb13'; clear kb13'; have qb13 := kb13.1; have cb13_0 := kb13.cell 0 rfl; have cb13_1 := kb13.cell 1 rfl; have zb13 := kb13.2.2; refine pl ?_; refine listF_absw (fun w40 hw' => ?_); have kb13' := cells_of hw' (Cells.set (i := 1) (Cells.set (i := 0) (kb13)))
  (try simp only [vC, List.set_cons_zero, List.set_cons_succ] at kb13')
  have hb41 : OldB [B13] w38 w40 := oldset hw'; clear hw'; clear cb13_0 cb13_1 zb13; clear qb3 qb5 qb8 qb10 qb12 qb13; replace kb13 := kb13'; replace kb3 := kb3.oldB hb41 (by first | (simp; done) | (simp; omega)); replace kb5 := kb5.oldB hb41 (by first | (simp; done) | (simp; omega)); replace kb8 := kb8.oldB hb41 (by first | (simp; done) | (simp; omega)); replace kb10 := kb10.oldB hb41 (by first | (simp; done) | (simp; omega)); replace kb12 := kb12.oldB hb41 (by first | (simp; done) | (simp; omega)); replace HB := hid (HB.out.more hb41 (by simp; try omega)); clear hb41; have qb3 := kb3.1; have qb5 := kb5.1; have qb8 := kb8.1; have qb10 := kb10.1; have qb12 := kb12.1; have qb13 := kb13.1; clear kb13'; refine pl ?_; refine listF_abs (fun s42 z' => ?_); replace sl1 := gs 1 z' sl1; replace sl7 := gs 7 z' sl7; replace sl12 := gs 12 z' sl12; have sl13 := gu 13 z'; have sl14 := gu 14 z'; clear z' sl3; refine listF_nil ?_
  repeat ((fail_if_success refine stp ?_); with_reducible go_step)
  refine region_F ?_; have cb12_0 := kb12.cell 0 rfl; have cb12_1 := kb12.cell 1 rfl; have cb12_2 := kb12.cell 2 rfl; have cb12_3 := kb12.cell 3 rfl
  iterate 3 refine pl ?_
  refine listF_step rfl (fun K' hK => ?_); unfold opF; go_simp; refine (qfails_any (widK k x2 x3) a c ac cc cs x0 _ hN hsl (Rd.oldB HR.out HB.out (by simp)) (Rd.oldB HRc.out HB.out (by simp)) hlc).mono ?_; rintro e w43 ⟨rfl, hb44⟩; rw [Hr2.out]; refine ⟨_, rfl, hK _ _ ?_⟩; clear hK K'; clear cb12_0 cb12_1 cb12_2 cb12_3; clear qb3 qb5 qb8 qb10 qb12 qb13; replace kb3 := kb3.at hb44; replace kb5 := kb5.at hb44; replace kb8 := kb8.at hb44; replace kb10 := kb10.at hb44; replace kb12 := kb12.at hb44; replace kb13 := kb13.at hb44; replace HB := hid (HB.out.below hb44); clear hb44; have qb3 := kb3.1; have qb5 := kb5.1; have qb8 := kb8.1; have qb10 := kb10.1; have qb12 := kb12.1; have qb13 := kb13.1
  iterate 3 refine pl ?_
  refine pa (fun w45 B15 hB kb15' hb46 => ?_); have gb15 := HB.out.gB hB; have ob3_b15 := oB qb3 hB; have ob5_b15 := oB qb5 hB; have ob8_b15 := oB qb8 hB; have ob10_b15 := oB qb10 hB; have ob12_b15 := oB qb12 hB; have ob13_b15 := oB qb13 hB; have eb15 := eB hB; clear hB; clear qb3 qb5 qb8 qb10 qb12 qb13; replace kb3 := kb3.at hb46; replace kb5 := kb5.at hb46; replace kb8 := kb8.at hb46; replace kb10 := kb10.at hb46; replace kb12 := kb12.at hb46; replace kb13 := kb13.at hb46; replace HB := hid (HB.out.below hb46); clear hb46; have qb3 := kb3.1; have qb5 := kb5.1; have qb8 := kb8.1; have qb10 := kb10.1; have qb12 := kb12.1; have qb13 := kb13.1; have kb15 := kb15'; clear kb15'; have qb15 := kb15.1; have cb15_0 := kb15.cell 0 rfl; have cb15_1 := kb15.cell 1 rfl; have zb15 := kb15.2.2; refine pl ?_; refine listF_absw (fun w47 hw' => ?_); have kb15' := cells_of hw' (Cells.set (i := 1) (Cells.set (i := 0) (kb15)))
  (try simp only [vC, List.set_cons_zero, List.set_cons_succ] at kb15')
  have hb48 : OldB [B15] w45 w47 := oldset hw'; clear hw'; clear cb15_0 cb15_1 zb15; clear qb3 qb5 qb8 qb10 qb12 qb13 qb15; replace kb15 := kb15'; replace kb3 := kb3.oldB hb48 (by first | (simp; done) | (simp; omega)); replace kb5 := kb5.oldB hb48 (by first | (simp; done) | (simp; omega)); replace kb8 := kb8.oldB hb48 (by first | (simp; done) | (simp; omega)); replace kb10 := kb10.oldB hb48 (by first | (simp; done) | (simp; omega)); replace kb12 := kb12.oldB hb48 (by first | (simp; done) | (simp; omega)); replace kb13 := kb13.oldB hb48 (by first | (simp; done) | (simp; omega)); replace HB := hid (HB.out.more hb48 (by simp; try omega)); clear hb48; have qb3 := kb3.1; have qb5 := kb5.1; have qb8 := kb8.1; have qb10 := kb10.1; have qb12 := kb12.1; have qb13 := kb13.1; have qb15 := kb15.1; clear kb15'; refine pl ?_; refine listF_abs (fun s49 z' => ?_); replace sl13 := gs 13 z' sl13; replace sl14 := gs 14 z' sl14; have sl15 := gu 15 z'; have sl16 := gu 16 z'; clear z' sl1 sl7 sl12
  refine listF_nil ?_
  repeat ((fail_if_success refine stp ?_); with_reducible go_step)
  refine region_F ?_
  iterate 3 refine pl ?_
  refine py ?_; refine py ?_; refine pl ?_; refine listF_abs (fun s50 z' => ?_); replace sl13 := gs 13 z' sl13; replace sl15 := gs 15 z' sl15; have sl96 := gu 96 z'; clear z' sl14 sl16; refine listF_nil ?_
  repeat ((fail_if_success refine stp ?_); with_reducible go_step)
  refine cond_f ?_
  repeat ((fail_if_success refine stp ?_); with_reducible go_step)
  by_cases ae : fa.earliest < 0
  ·skip
   by_cases bl : fb.latest < 0
   ·skip
    refine region_F ?_; refine pl ?_; have cb13_0 := kb13.cell 0 rfl; have cb13_1 := kb13.cell 1 rfl
    iterate 3 refine pl ?_
    refine pn true ?_
    refine pn true ?_; refine pn true ?_; refine pn true ?_
    iterate 5 refine pu ?_
    refine pn true ?_; refine pl ?_; refine pl ?_; refine py ?_; have cb15_0 := kb15.cell 0 rfl; have cb15_1 := kb15.cell 1 rfl
    iterate 3 refine py ?_
    refine pn true ?_
    refine pn true ?_; refine pn true ?_; refine pn true ?_
    iterate 5 refine pu ?_
    refine pn true ?_; refine py ?_; refine pl ?_; refine pl ?_; refine listF_yes rfl rfl (by decide) ?_ (fun K' hK => ?_); (focus (go_simp; done)); unfold opF; go_simp; refine (awake_any _).mono ?_; rintro e w51 ⟨rfl, hb52⟩; refine ⟨_, rfl, hK _ _ ?_⟩; clear hK K'; clear cb13_0 cb13_1 cb15_0 cb15_1; clear qb3 qb5 qb8 qb10 qb12 qb13 qb15; replace kb3 := kb3.at hb52; replace kb5 := kb5.at hb52; replace kb8 := kb8.at hb52; replace kb10 := kb10.at hb52; replace kb12 := kb12.at hb52; replace kb13 := kb13.at hb52; replace kb15 := kb15.at hb52; replace HB := hid (HB.out.below hb52); clear hb52; have qb3 := kb3.1; have qb5 := kb5.1; have qb8 := kb8.1; have qb10 := kb10.1; have qb12 := kb12.1; have qb13 := kb13.1; have qb15 := kb15.1; refine pl ?_; refine pl ?_; refine listF_abs (fun s53 z' => ?_); have sl6 := gu 6 z'; clear z' sl13 sl15 sl96; refine listF_nil ?_
    repeat ((fail_if_success refine stp ?_); with_reducible go_step)
    refine ret_F _ (res_t Try.results17 ((getD_F (by decide)).trans sl6)) ?_; exact ⟨rfl, HB.out.toBelow⟩
   ·skip
    have bb := (nl.out.2.resolve_left bl).1; have bc := (nl.out.2.resolve_left bl).2; refine region_F ?_; refine pl ?_; have cb13_0 := kb13.cell 0 rfl; have cb13_1 := kb13.cell 1 rfl
    iterate 3 refine pl ?_
    refine pn true ?_
    refine pn true ?_; refine pn true ?_; refine pn true ?_
    iterate 5 refine pu ?_
    refine pn true ?_; refine pl ?_; refine pl ?_; refine py ?_; have cb15_0 := kb15.cell 0 rfl; have cb15_1 := kb15.cell 1 rfl
    iterate 14 refine py ?_
    refine pl ?_; refine pl ?_; refine listF_yes rfl rfl (by decide) ?_ (fun K' hK => ?_); (focus (go_simp; done)); unfold opF; go_simp; refine (awake_any _).mono ?_; rintro e w54 ⟨rfl, hb55⟩; refine ⟨_, rfl, hK _ _ ?_⟩; clear hK K'; clear cb13_0 cb13_1 cb15_0 cb15_1; clear qb3 qb5 qb8 qb10 qb12 qb13 qb15; replace kb3 := kb3.at hb55; replace kb5 := kb5.at hb55; replace kb8 := kb8.at hb55; replace kb10 := kb10.at hb55; replace kb12 := kb12.at hb55; replace kb13 := kb13.at hb55; replace kb15 := kb15.at hb55; replace HB := hid (HB.out.below hb55); clear hb55; have qb3 := kb3.1; have qb5 := kb5.1; have qb8 := kb8.1; have qb10 := kb10.1; have qb12 := kb12.1; have qb13 := kb13.1; have qb15 := kb15.1; refine pl ?_; refine pl ?_; refine listF_abs (fun s56 z' => ?_); have sl6 := gu 6 z'; clear z' sl13 sl15 sl96; refine listF_nil ?_
    repeat ((fail_if_success refine stp ?_); with_reducible go_step)
    refine ret_F _ (res_t Try.results17 ((getD_F (by decide)).trans sl6)) ?_; exact ⟨rfl, HB.out.toBelow⟩
  ·skip
   have ab := (nl.out.1.resolve_left ae).1; have ac' := (nl.out.1.resolve_left ae).2
   by_cases bl : fb.latest < 0
   ·skip
    refine region_F ?_; refine pl ?_; have cb13_0 := kb13.cell 0 rfl; have cb13_1 := kb13.cell 1 rfl
    iterate 3 refine pl ?_
    refine py ?_; have cb15_0 := kb15.cell 0 rfl; have cb15_1 := kb15.cell 1 rfl
    iterate 9 refine py ?_
    refine pl ?_; refine pl ?_
    iterate 4 refine py ?_
    refine pn true ?_
    refine pn true ?_; refine pn true ?_; refine pn true ?_
    iterate 5 refine pu ?_
    refine pn true ?_; refine py ?_; refine pl ?_; refine pl ?_; refine listF_yes rfl rfl (by decide) ?_ (fun K' hK => ?_); (focus (go_simp; done)); unfold opF; go_simp; refine (awake_any _).mono ?_; rintro e w57 ⟨rfl, hb58⟩; refine ⟨_, rfl, hK _ _ ?_⟩; clear hK K'; clear cb13_0 cb13_1 cb15_0 cb15_1; clear qb3 qb5 qb8 qb10 qb12 qb13 qb15; replace kb3 := kb3.at hb58; replace kb5 := kb5.at hb58; replace kb8 := kb8.at hb58; replace kb10 := kb10.at hb58; replace kb12 := kb12.at hb58; replace kb13 := kb13.at hb58; replace kb15 := kb15.at hb58; replace HB := hid (HB.out.below hb58); clear hb58; have qb3 := kb3.1; have qb5 := kb5.1; have qb8 := kb8.1; have qb10 := kb10.1; have qb12 := kb12.1; have qb13 := kb13.1; have qb15 := kb15.1; refine pl ?_; refine pl ?_; refine listF_abs (fun s59 z' => ?_); have sl6 := gu 6 z'; clear z' sl13 sl15 sl96; refine listF_nil ?_
    repeat ((fail_if_success refine stp ?_); with_reducible go_step)
    refine ret_F _ (res_t Try.results17 ((getD_F (by decide)).trans sl6)) ?_; exact ⟨rfl, HB.out.toBelow⟩
   ·skip
    have bb := (nl.out.2.resolve_left bl).1; have bc := (nl.out.2.resolve_left bl).2; refine region_F ?_; refine pl ?_; have cb13_0 := kb13.cell 0 rfl; have cb13_1 := kb13.cell 1 rfl
    iterate 3 refine pl ?_
    refine py ?_; have cb15_0 := kb15.cell 0 rfl; have cb15_1 := kb15.cell 1 rfl
    iterate 9 refine py ?_
    refine pl ?_; refine pl ?_
    iterate 15 refine py ?_
    refine pl ?_; refine pl ?_; refine listF_yes rfl rfl (by decide) ?_ (fun K' hK => ?_); (focus (go_simp; done)); unfold opF; go_simp; refine (awake_any _).mono ?_; rintro e w60 ⟨rfl, hb61⟩; refine ⟨_, rfl, hK _ _ ?_⟩; clear hK K'; clear cb13_0 cb13_1 cb15_0 cb15_1; clear qb3 qb5 qb8 qb10 qb12 qb13 qb15; replace kb3 := kb3.at hb61; replace kb5 := kb5.at hb61; replace kb8 := kb8.at hb61; replace kb10 := kb10.at hb61; replace kb12 := kb12.at hb61; replace kb13 := kb13.at hb61; replace kb15 := kb15.at hb61; replace HB := hid (HB.out.below hb61); clear hb61; have qb3 := kb3.1; have qb5 := kb5.1; have qb8 := kb8.1; have qb10 := kb10.1; have qb12 := kb12.1; have qb13 := kb13.1; have qb15 := kb15.1; refine pl ?_; refine pl ?_; refine listF_abs (fun s62 z' => ?_); have sl6 := gu 6 z'; clear z' sl13 sl15 sl96; refine listF_nil ?_
    repeat ((fail_if_success refine stp ?_); with_reducible go_step)
    refine ret_F _ (res_t Try.results17 ((getD_F (by decide)).trans sl6)) ?_; exact ⟨rfl, HB.out.toBelow⟩

end Go.Proofs.Ytndcmmghgljinaa
