/- MarginTrue. -/
import Derived.Test.YtndcmmghgljinaaW43
import Derived.Test.YtndcmmghgljinaaY1
set_option linter.all false
namespace Go.Proofs.Ytndcmmghgljinaa
open Go.RowKit

set_option maxRecDepth 100000 in
set_option maxHeartbeats 16000000 in
theorem true_walk (k : Kd) (a : Option Addr) (c : Nat) (ah av : Option Addr) (ch cv : Nat) (lh lv : List Int) (x : Int) (aw : Option Addr) (cw : Nat) (lw : List Int) (w : World) (hK0 : KdIn w k a) (hx : 0 ≤ x ∧ x ≤ 65535) (hRh : RdU w ah lh) (hlh : lh.length ≤ 9223372036854775807) (hUh : U16 lh) (hRv : RdU w av lv) (hlv : lv.length ≤ 9223372036854775807) (hUv : U16 lv) (hRw : RdU w aw lw) (hlw : lw.length ≤ 9223372036854775807) (hU : U16 lw) :
    Calls Try.prog 9 #[.agg #[.int .i64 k.new, .int .i64 k.wear.lo, .int .i64 k.wear.hi, .slice a k.steps.length c], .agg #[.slice ah lh.length ch, .slice av lv.length cv, .int .u16 x, .slice aw lw.length cw]] w (fun e w' => e = .returned (.bool true) ∧ Below w.heap.size w w') := by
 have HR := hid hK0.2.2; have hN := hK0.1; have hsl := hK0.2.1; clear hK0; have HRh := hid hRh; have HRv := hid hRv; have HRw := hid hRw; have HUh := hid hUh; have HUv := hid hUv; have HU := hid hU; clear hRh hRv hRw hUh hUv hU; have y0 := u16_wrap hx
 obtain ⟨a0, hm1, hm2⟩ : ∃ n : Nat, x.tmod 400 = (n : Int) ∧ n < 400 := by obtain ⟨n, h1, h2, _⟩ := turn_nat (x := x) (l := 400) hx.1 (by omega) (by omega); exact ⟨n, h1, h2⟩
 have wa := IntWalk.i64_in (a0 : Int) (by omega)
 refine enter_F Try.func9 rfl Try.ntmps9 (by simp) ?_
 intro s0 hs; have sl0 : s0 0 = .agg #[.int .i64 k.new, .int .i64 k.wear.lo, .int .i64 k.wear.hi, .slice a k.steps.length c] := hs 0 (by simp); have sl1 : s0 1 = .agg #[.slice ah lh.length ch, .slice av lv.length cv, .int .u16 x, .slice aw lw.length cw] := hs 1 (by simp); clear hs; have HB := hid (OldB.refl [] w)
 repeat ((fail_if_success refine stp ?_); with_reducible go_step)
 refine region_F ?_; refine pa (fun w1 B2 hB kb2' hb2 => ?_); have gb2 := HB.out.gB hB; have eb2 := eB hB; clear hB; replace HB := hid (HB.out.below hb2); clear hb2; have kb2 := kb2'; clear kb2'; have qb2 := kb2.1; refine pa (fun w3 B3 hB kb3' hb4 => ?_); have gb3 := HB.out.gB hB; have ob2_b3 := oB qb2 hB; have eb3 := eB hB; clear hB; clear qb2; replace kb2 := kb2.at hb4; replace HB := hid (HB.out.below hb4); clear hb4; have qb2 := kb2.1; have kb3 := kb3'; clear kb3'; have qb3 := kb3.1; refine pl ?_; refine listF_abs (fun s5 z' => ?_); have sl2 := gu 2 z'; have sl3 := gu 3 z'; clear z' sl0 sl1; refine listF_nil ?_
 repeat ((fail_if_success refine stp ?_); with_reducible go_step)
 refine region_F ?_; have cb2_0 := kb2.cell 0 rfl; have cb2_1 := kb2.cell 1 rfl; have cb2_2 := kb2.cell 2 rfl; have cb2_3 := kb2.cell 3 rfl; refine pl ?_; refine listF_step rfl (fun K' hK => ?_); unfold opF; go_simp; refine (rcheck_any k a c _ hsl (Rd.oldB HR.out HB.out (by simp))).mono ?_; rintro e w6 ⟨rfl, hb7⟩; refine ⟨_, rfl, hK _ _ ?_⟩; clear hK K'; clear cb2_0 cb2_1 cb2_2 cb2_3; clear qb2 qb3; replace kb2 := kb2.at hb7; replace kb3 := kb3.at hb7; replace HB := hid (HB.out.below hb7); clear hb7; have qb2 := kb2.1; have qb3 := kb3.1; refine pl ?_; refine listF_abs (fun s8 z' => ?_); replace sl2 := gs 2 z' sl2; replace sl3 := gs 3 z' sl3; have sl16 := gu 16 z'; clear z'; refine listF_nil ?_
 repeat ((fail_if_success refine stp ?_); with_reducible go_step)
 refine cond_E sl16 (by decide) ?_ ?_ <;> (clear sl16; intro h16 sl16)
 ·skip
  have hE : ¬ kdErr k = 0 := by simpa using h16
  repeat ((fail_if_success refine stp ?_); with_reducible go_step)
  refine region_F ?_; have cb2_0 := kb2.cell 0 rfl; have cb2_1 := kb2.cell 1 rfl; have cb2_2 := kb2.cell 2 rfl; have cb2_3 := kb2.cell 3 rfl; refine pl ?_; refine listF_step rfl (fun K' hK => ?_); unfold opF; go_simp; refine (kcheck_any k a c _ hN hsl (Rd.oldB HR.out HB.out (by simp))).mono ?_; rintro e w9 ⟨rfl, hb10⟩; refine ⟨_, rfl, hK _ _ ?_⟩; clear hK K'; clear cb2_0 cb2_1 cb2_2 cb2_3; clear qb2 qb3; replace kb2 := kb2.at hb10; replace kb3 := kb3.at hb10; replace HB := hid (HB.out.below hb10); clear hb10; have qb2 := kb2.1; have qb3 := kb3.1; refine pl ?_; refine pl ?_; refine listF_yes rfl rfl (by decide) ?_ (fun K' hK => ?_); (focus (go_simp; done)); unfold opF; go_simp; refine (awake_any _).mono ?_; rintro e w11 ⟨rfl, hb12⟩; refine ⟨_, rfl, hK _ _ ?_⟩; clear hK K'; clear qb2 qb3; replace kb2 := kb2.at hb12; replace kb3 := kb3.at hb12; replace HB := hid (HB.out.below hb12); clear hb12; have qb2 := kb2.1; have qb3 := kb3.1; refine pl ?_; refine pl ?_
  refine listF_abs (fun s13 z' => ?_); have sl4 := gu 4 z'; clear z' sl2 sl3 sl16; refine listF_nil ?_
  repeat ((fail_if_success refine stp ?_); with_reducible go_step)
  refine ret_F _ (res_t Try.results9 ((getD_F (by decide)).trans sl4)) ?_; exact ⟨rfl, HB.out.toBelow⟩
 ·skip
  have hE : kdErr k = 0 := by simpa using h16
  have HE := hid hE; have HK := hid (kok_of hE); clear hE
  repeat ((fail_if_success refine stp ?_); with_reducible go_step)
  refine region_F ?_; refine pl ?_; have cb3_0 := kb3.cell 0 rfl; have cb3_1 := kb3.cell 1 rfl; have cb3_2 := kb3.cell 2 rfl; have cb3_3 := kb3.cell 3 rfl
  iterate 4 refine pl ?_
  refine listF_abs (fun s14 z' => ?_); replace sl2 := gs 2 z' sl2; replace sl3 := gs 3 z' sl3; have sl5 := gu 5 z'; clear z' sl16; refine listF_nil ?_
  repeat ((fail_if_success refine stp ?_); with_reducible go_step)
  refine region_F ?_; have cb2_0 := kb2.cell 0 rfl; have cb2_1 := kb2.cell 1 rfl; have cb2_2 := kb2.cell 2 rfl; have cb2_3 := kb2.cell 3 rfl; refine pl ?_; refine pl ?_; refine listF_step rfl (fun K' hK => ?_); unfold opF; go_simp; refine (lived_any k a c ah av lh.length ch lv.length cv x aw cw lw 800 _ HK.out (Rd.oldB HRw.out HB.out (by simp)) hlw HU.out (by omega)).mono ?_; rintro e w15 ⟨b6, c6, rfl, hc6, g6, hb16⟩
  have ob2_b6 : B2 < b6 := by have := g6; omega
  have ob3_b6 : B3 < b6 := by have := g6; omega
  refine ⟨_, rfl, hK _ _ ?_⟩; clear hK K'; clear cb2_0 cb2_1 cb2_2 cb2_3 cb3_0 cb3_1 cb3_2 cb3_3; clear qb2 qb3; replace kb2 := kb2.at hb16; replace kb3 := kb3.at hb16; replace HB := hid (HB.out.below hb16); clear hb16; have qb2 := kb2.1; have qb3 := kb3.1; have kb6 := hc6; clear hc6; have qb6 := kb6.1; refine pl ?_; refine listF_abs (fun s17 z' => ?_); replace sl2 := gs 2 z' sl2; replace sl3 := gs 3 z' sl3; replace sl5 := gs 5 z' sl5; have sl6 := gu 6 z'; clear z'; refine listF_nil ?_
  repeat ((fail_if_success refine stp ?_); with_reducible go_step)
  refine region_F ?_; have cb2_0 := kb2.cell 0 rfl; have cb2_1 := kb2.cell 1 rfl; have cb2_2 := kb2.cell 2 rfl; have cb2_3 := kb2.cell 3 rfl; refine pl ?_; have cb3_0 := kb3.cell 0 rfl; have cb3_1 := kb3.cell 1 rfl; have cb3_2 := kb3.cell 2 rfl; have cb3_3 := kb3.cell 3 rfl
  iterate 3 refine pl ?_
  have e801 : (LL k lw 801).length = 801 := LL_len; rw [show (801 : Nat) = (LL k lw 801).length from e801.symm]; clear e801; refine listF_step rfl (fun K' hK => ?_); unfold opF; go_simp; refine (made_any k a c ah av ch cv lh lv x aw lw.length cw (some ⟨b6, 0, none⟩) c6 (LL k lw 801) a0 _ HK.out (Rd.oldB HR.out HB.out (by simp)) (Rd.oldB HRh.out HB.out (by simp)) hlh HUh.out (Rd.oldB HRv.out HB.out (by simp)) hlv HUv.out (Cells.rd (f := int1) (m := 1) (l := LL k lw 801) (fun _ => rfl) kb6) (by rw [LL_len]; omega) (by omega)).mono ?_; rintro e w18 ⟨a34, c34, cs, hcs, rfl, hO34, hb19⟩; have Hlen := hid (show cs.length ≤ 30 by rw [hcs, mkL_len]; omega); obtain ⟨he, l1, l2⟩ := law_true HE.out (str_truth HK.out lw) (cs := cs) (a := a0) (by omega) Hlen.out (by rw [hcs]; exact made_ok HK.out (by omega) (by omega)); clear hcs; obtain ⟨fa, hfa⟩ : ∃ f, failsOf k (asked k cs a0).1 a0 = f := ⟨_, rfl⟩; have Hr1 := hid (show failsRes k cs a0 = (fa, 0) by unfold failsRes; rw [if_pos he, hfa])
  have Hfa := hid hfa; clear hfa; have l1' := Int.not_lt.2 l1; have l2' := Int.not_lt.2 l2; have L1 := hid l1; have L2 := hid l2; clear l1 l2; refine ⟨_, rfl, hK _ _ ?_⟩; clear hK K'; clear cb2_0 cb2_1 cb2_2 cb2_3 cb3_0 cb3_1 cb3_2 cb3_3; clear qb2 qb3 qb6; replace kb2 := kb2.at hb19; replace kb3 := kb3.at hb19; replace kb6 := kb6.at hb19; replace HB := hid (HB.out.below hb19); clear hb19; have qb2 := kb2.1; have qb3 := kb3.1; have qb6 := kb6.1; refine pl ?_; refine listF_abs (fun s20 z' => ?_); replace sl2 := gs 2 z' sl2; replace sl5 := gs 5 z' sl5; replace sl6 := gs 6 z' sl6; have sl7 := gu 7 z'; clear z' sl3; refine listF_nil ?_
  repeat ((fail_if_success refine stp ?_); with_reducible go_step)
  refine region_F ?_; have cb2_0 := kb2.cell 0 rfl; have cb2_1 := kb2.cell 1 rfl; have cb2_2 := kb2.cell 2 rfl; have cb2_3 := kb2.cell 3 rfl
  iterate 3 refine pl ?_
  refine listF_step rfl (fun K' hK => ?_); unfold opF; go_simp; refine (qnow_any k a c a34 c34 cs a0 _ hN hsl (Rd.oldB HR.out HB.out (by simp)) (Own.rd' (f := MCk.cs) (m := 3) (fun _ => rfl) hO34 rfl) (by have := Hlen.out; omega)).mono ?_; rintro e w21 ⟨rfl, hb22⟩; refine ⟨_, rfl, hK _ _ ?_⟩; clear hK K'; clear cb2_0 cb2_1 cb2_2 cb2_3; clear qb2 qb3 qb6; replace kb2 := kb2.at hb22; replace kb3 := kb3.at hb22; replace kb6 := kb6.at hb22; replace hO34 := Own.at hO34 hb22; replace HB := hid (HB.out.below hb22); clear hb22; have qb2 := kb2.1; have qb3 := kb3.1; have qb6 := kb6.1
  iterate 3 refine pl ?_
  refine pa (fun w23 B8 hB kb8' hb24 => ?_); have gb8 := HB.out.gB hB; have ob2_b8 := oB qb2 hB; have ob3_b8 := oB qb3 hB; have ob6_b8 := oB qb6 hB
  have nhO34_b8 : ∀ g, (Value.slice a34 cs.length c34).ownBlock = some g → g < B8 := fun g hg => by have := (World.ownsRow.lt hO34 g hg).2; omega
  have eb8 := eB hB; clear hB; clear qb2 qb3 qb6; replace kb2 := kb2.at hb24; replace kb3 := kb3.at hb24; replace kb6 := kb6.at hb24; replace hO34 := Own.at hO34 hb24; replace HB := hid (HB.out.below hb24); clear hb24; have qb2 := kb2.1; have qb3 := kb3.1; have qb6 := kb6.1; have kb8 := kb8'; clear kb8'; have qb8 := kb8.1; have cb8_0 := kb8.cell 0 rfl; have cb8_1 := kb8.cell 1 rfl; have zb8 := kb8.2.2; refine pl ?_; refine listF_absw (fun w25 hw' => ?_); have kb8' := cells_of hw' (Cells.set (i := 1) (Cells.set (i := 0) (kb8)))
  (try simp only [vC, List.set_cons_zero, List.set_cons_succ] at kb8')
  have hb26 : OldB [B8] w23 w25 := oldset hw'; clear hw'; clear cb8_0 cb8_1 zb8; clear qb2 qb3 qb6 qb8; replace kb8 := kb8'; replace kb2 := kb2.oldB hb26 (by first | (simp; done) | (simp; omega)); replace kb3 := kb3.oldB hb26 (by first | (simp; done) | (simp; omega)); replace kb6 := kb6.oldB hb26 (by first | (simp; done) | (simp; omega)); replace hO34 := Own.oldB hO34 hb26 (fun g hg => by have n0 := (World.ownsRow.lt hO34 g hg).1; have nb8 := nhO34_b8 g hg; first | (simp; done) | (simp; omega)); replace HB := hid (HB.out.more hb26 (by simp; try omega)); clear hb26; have qb2 := kb2.1; have qb3 := kb3.1; have qb6 := kb6.1; have qb8 := kb8.1; clear kb8'; refine pl ?_; refine listF_abs (fun s27 z' => ?_); replace sl2 := gs 2 z' sl2; replace sl5 := gs 5 z' sl5; replace sl6 := gs 6 z' sl6; replace sl7 := gs 7 z' sl7; have sl8 := gu 8 z'; have sl9 := gu 9 z'; clear z'; refine listF_nil ?_
  repeat ((fail_if_success refine stp ?_); with_reducible go_step)
  refine region_F ?_; have cb2_0 := kb2.cell 0 rfl; have cb2_1 := kb2.cell 1 rfl; have cb2_2 := kb2.cell 2 rfl; have cb2_3 := kb2.cell 3 rfl
  iterate 3 refine pl ?_
  refine listF_step rfl (fun K' hK => ?_); unfold opF; go_simp; refine (qfails_any k a c a34 c34 cs a0 _ hN hsl (Rd.oldB HR.out HB.out (by simp)) (Own.rd' (f := MCk.cs) (m := 3) (fun _ => rfl) hO34 rfl) (by have := Hlen.out; omega)).mono ?_; rintro e w28 ⟨rfl, hb29⟩; rw [Hr1.out]; refine ⟨_, rfl, hK _ _ ?_⟩; clear hK K'; clear cb2_0 cb2_1 cb2_2 cb2_3; clear qb2 qb3 qb6 qb8; replace kb2 := kb2.at hb29; replace kb3 := kb3.at hb29; replace kb6 := kb6.at hb29; replace kb8 := kb8.at hb29; replace hO34 := Own.at hO34 hb29; replace HB := hid (HB.out.below hb29); clear hb29; have qb2 := kb2.1; have qb3 := kb3.1; have qb6 := kb6.1; have qb8 := kb8.1
  iterate 3 refine pl ?_
  refine pa (fun w30 B10 hB kb10' hb31 => ?_); have gb10 := HB.out.gB hB; have ob2_b10 := oB qb2 hB; have ob3_b10 := oB qb3 hB; have ob6_b10 := oB qb6 hB; have ob8_b10 := oB qb8 hB
  have nhO34_b10 : ∀ g, (Value.slice a34 cs.length c34).ownBlock = some g → g < B10 := fun g hg => by have := (World.ownsRow.lt hO34 g hg).2; omega
  have eb10 := eB hB; clear hB; clear qb2 qb3 qb6 qb8; replace kb2 := kb2.at hb31; replace kb3 := kb3.at hb31; replace kb6 := kb6.at hb31; replace kb8 := kb8.at hb31; replace hO34 := Own.at hO34 hb31; replace HB := hid (HB.out.below hb31); clear hb31; have qb2 := kb2.1; have qb3 := kb3.1; have qb6 := kb6.1; have qb8 := kb8.1; have kb10 := kb10'; clear kb10'; have qb10 := kb10.1; have cb10_0 := kb10.cell 0 rfl; have cb10_1 := kb10.cell 1 rfl; have zb10 := kb10.2.2; refine pl ?_; refine listF_absw (fun w32 hw' => ?_); have kb10' := cells_of hw' (Cells.set (i := 1) (Cells.set (i := 0) (kb10)))
  (try simp only [vC, List.set_cons_zero, List.set_cons_succ] at kb10')
  have hb33 : OldB [B10] w30 w32 := oldset hw'; clear hw'; clear cb10_0 cb10_1 zb10; clear qb2 qb3 qb6 qb8 qb10; replace kb10 := kb10'; replace kb2 := kb2.oldB hb33 (by first | (simp; done) | (simp; omega)); replace kb3 := kb3.oldB hb33 (by first | (simp; done) | (simp; omega)); replace kb6 := kb6.oldB hb33 (by first | (simp; done) | (simp; omega)); replace kb8 := kb8.oldB hb33 (by first | (simp; done) | (simp; omega)); replace hO34 := Own.oldB hO34 hb33 (fun g hg => by have n0 := (World.ownsRow.lt hO34 g hg).1; have nb8 := nhO34_b8 g hg; have nb10 := nhO34_b10 g hg; first | (simp; done) | (simp; omega)); replace HB := hid (HB.out.more hb33 (by simp; try omega)); clear hb33; have qb2 := kb2.1; have qb3 := kb3.1; have qb6 := kb6.1; have qb8 := kb8.1; have qb10 := kb10.1; clear kb10'; refine pl ?_; refine listF_abs (fun s34 z' => ?_); replace sl2 := gs 2 z' sl2; replace sl5 := gs 5 z' sl5; replace sl6 := gs 6 z' sl6; replace sl8 := gs 8 z' sl8; replace sl9 := gs 9 z' sl9; have sl10 := gu 10 z'
  have sl11 := gu 11 z'; clear z' sl7; refine listF_nil ?_
  repeat ((fail_if_success refine stp ?_); with_reducible go_step)
  have d0 := LL_cell (i := a0) kb6 (by omega)
  have ha8 : (a0 : Int) < 801 := by omega
  have cb2_0 := kb2.cell 0 rfl; have cb2_1 := kb2.cell 1 rfl; have cb2_2 := kb2.cell 2 rfl; have cb2_3 := kb2.cell 3 rfl; have cb3_0 := kb3.cell 0 rfl; have cb3_1 := kb3.cell 1 rfl; have cb3_2 := kb3.cell 2 rfl; have cb3_3 := kb3.cell 3 rfl; have cb8_0 := kb8.cell 0 rfl; have cb8_1 := kb8.cell 1 rfl; have cb10_0 := kb10.cell 0 rfl; have cb10_1 := kb10.cell 1 rfl; refine regionR_F [] [] [] [.q [], .q [], .q [], .q [], .q [], .q [], .q [], .q [], .q [], .q [], .q [], .q [], .q [], .q [], .q [], .q [], .q [], .q [], .q [], .q [], .q [], .q [], .q [], .q []] [?v24_0, ?v24_1, ?v24_2, ?v24_3, ?v24_4, ?v24_5, ?v24_6, ?v24_7, ?v24_8, ?v24_9, ?v24_10, ?v24_11, ?v24_12, ?v24_13, ?v24_14, ?v24_15, ?v24_16, ?v24_17, ?v24_18, ?v24_19, ?v24_20, ?v24_21, ?v24_22, ?v24_23] [fun _ => [], fun _ => [], fun _ => [], fun _ => [], fun _ => [], fun _ => [], fun _ => [], fun _ => [], fun _ => [], fun _ => [], fun _ => [], fun _ => [], fun _ => [], fun _ => [], fun _ => [], fun _ => [], fun _ => [], fun _ => [], fun _ => [], fun _ => [], fun _ => [], fun _ => [], fun _ => [], fun _ => []] (by kernel_rfl) (by kernel_rfl) (by kernel_rfl) (by kernel_rfl) (by kernel_rfl) (by first | exact List.nodup_nil | exact List.nodup_singleton _ | (simp; done) | (simp; omega)) bc_nil ?walk24 ?dep24
  case walk24 =>
   iterate 3 refine rq ?_
   refine rqy ?_; refine rqy ?_; refine rq ?_; refine rq ?_
   iterate 7 refine rqy ?_
   refine rq ?_; refine rq ?_
   iterate 7 refine rqy ?_
   refine rq ?_; refine walkR_nil (fun X hX w35 hwz hcz => ?_); clear hX hcz
   (try clear X)
   skip; have hb36 := hwz.unDrew; clear hwz; clear cb10_0 cb10_1 cb2_0 cb2_1 cb2_2 cb2_3 cb3_0 cb3_1 cb3_2 cb3_3 cb8_0 cb8_1; clear qb2 qb3 qb6 qb8 qb10; replace kb2 := kb2.oldB hb36 (by first | (simp; done) | (simp; omega)); replace kb3 := kb3.oldB hb36 (by first | (simp; done) | (simp; omega)); replace kb6 := kb6.oldB hb36 (by first | (simp; done) | (simp; omega)); replace kb8 := kb8.oldB hb36 (by first | (simp; done) | (simp; omega)); replace kb10 := kb10.oldB hb36 (by first | (simp; done) | (simp; omega)); replace hO34 := Own.oldB hO34 hb36 (fun g hg => by have n0 := (World.ownsRow.lt hO34 g hg).1; have nb8 := nhO34_b8 g hg; have nb10 := nhO34_b10 g hg; first | (simp; done) | (simp; omega)); replace HB := hid (HB.out.more hb36 (by simp; try omega)); clear hb36; have qb2 := kb2.1; have qb3 := kb3.1; have qb6 := kb6.1; have qb8 := kb8.1; have qb10 := kb10.1; refine listF_abs (fun s37 z' => ?_); replace sl2 := gs 2 z' sl2; replace sl5 := gs 5 z' sl5; replace sl6 := gs 6 z' sl6; replace sl10 := gs 10 z' sl10; have sl72 := gu 72 z'; clear z' sl8 sl9 sl11
   refine listF_nil ?_
   repeat ((fail_if_success refine stp ?_); with_reducible go_step)
   refine cond_f ?_
   repeat ((fail_if_success refine stp ?_); with_reducible go_step)
   refine region_F ?_; have cb2_0 := kb2.cell 0 rfl; have cb2_1 := kb2.cell 1 rfl; have cb2_2 := kb2.cell 2 rfl; have cb2_3 := kb2.cell 3 rfl; refine pl ?_; refine listF_step rfl (fun K' hK => ?_); unfold opF; go_simp; refine (rneeded_any k a c 1000 _ (Rd.oldB HR.out HB.out (by simp)) HK.out (top_ok HK.out)).mono ?_; rintro e w38 ⟨rfl, hb39⟩; obtain ⟨nd, hnd⟩ : ∃ n, needed k 1000 = n := ⟨_, rfl⟩; rw [hnd]; have Hnd := hid hnd; clear hnd; refine ⟨_, rfl, hK _ _ ?_⟩; clear hK K'; clear cb2_0 cb2_1 cb2_2 cb2_3; clear qb2 qb3 qb6 qb8 qb10; replace kb2 := kb2.at hb39; replace kb3 := kb3.at hb39; replace kb6 := kb6.at hb39; replace kb8 := kb8.at hb39; replace kb10 := kb10.at hb39; replace hO34 := Own.at hO34 hb39; replace HB := hid (HB.out.below hb39); clear hb39; have qb2 := kb2.1; have qb3 := kb3.1; have qb6 := kb6.1; have qb8 := kb8.1; have qb10 := kb10.1; refine pl ?_; refine listF_abs (fun s40 z' => ?_); replace sl5 := gs 5 z' sl5; replace sl6 := gs 6 z' sl6; replace sl10 := gs 10 z' sl10; have sl12 := gu 12 z'; clear z' sl2 sl72
   refine listF_nil ?_
   repeat ((fail_if_success refine stp ?_); with_reducible go_step)
   refine region_F ?_; refine pl ?_; refine pl ?_; refine listF_abs (fun s41 z' => ?_); replace sl5 := gs 5 z' sl5; replace sl6 := gs 6 z' sl6; replace sl10 := gs 10 z' sl10; replace sl12 := gs 12 z' sl12; have sl13 := gu 13 z'; clear z'; refine listF_nil ?_
   repeat ((fail_if_success refine stp ?_); with_reducible go_step)
   have hc0_5 := hid sl5; have hc0_6 := hid sl6; have hc0_10 := hid sl10; have hc0_12 := hid sl12; refine loop_F (n := 121) (fun kJ sJ wJ => ∃ (t : Nat), kJ = 801 - t ∧ sJ 13 = .int .i64 (t : Int) ∧ sJ 5 = s41 5 ∧ sJ 6 = s41 6 ∧ sJ 10 = s41 10 ∧ sJ 12 = s41 12 ∧ OldB [] w38 wJ ∧ (Hid (∀ e, a0 ≤ e → e < t → nd ≤ strS k lw e)) ∧ a0 ≤ t ∧ t ≤ 801) ⟨a0, rfl, (by first | exact sl13 | (rw [sl13]; go_num) | (rw [sl13]; rfl)), rfl, rfl, rfl, rfl, OldB.refl _ _, hid (fun e h1 h2 => absurd h1 (by omega)), Nat.le_refl _, by omega⟩ ?_; clear sl13; rintro kJ s42 w43 ⟨t, rfl, sl13, e5, e6, e10, e12, hb44, Hall, ht0, ht1⟩; replace sl5 := e5.trans sl5; clear e5; replace sl6 := e6.trans sl6; clear e6; replace sl10 := e10.trans sl10; clear e10; replace sl12 := e12.trans sl12; clear e12; have hoJ := hb44; clear qb2 qb3 qb6 qb8 qb10; replace kb2 := kb2.oldB hb44 (by first | (simp; done) | (simp; omega)); replace kb3 := kb3.oldB hb44 (by first | (simp; done) | (simp; omega))
   replace kb6 := kb6.oldB hb44 (by first | (simp; done) | (simp; omega)); replace kb8 := kb8.oldB hb44 (by first | (simp; done) | (simp; omega)); replace kb10 := kb10.oldB hb44 (by first | (simp; done) | (simp; omega)); replace hO34 := Own.oldB hO34 hb44 (fun g hg => by have n0 := (World.ownsRow.lt hO34 g hg).1; have nb8 := nhO34_b8 g hg; have nb10 := nhO34_b10 g hg; first | (simp; done) | (simp; omega)); replace HB := hid (HB.out.more hb44 (by simp; try omega)); clear hb44; have qb2 := kb2.1; have qb3 := kb3.1; have qb6 := kb6.1; have qb8 := kb8.1; have qb10 := kb10.1; have HoJ := hid hoJ; clear hoJ; have HL45 := HoJ; clear HoJ
   repeat ((fail_if_success refine stp ?_); with_reducible go_step)
   refine region_F ?_; refine pl ?_; refine pl ?_; refine listF_abs (fun s46 z' => ?_); replace sl5 := gs 5 z' sl5; replace sl6 := gs 6 z' sl6; replace sl10 := gs 10 z' sl10; replace sl12 := gs 12 z' sl12; replace sl13 := gs 13 z' sl13; have sl77 := gu 77 z'; clear z'; refine listF_nil ?_
   repeat ((fail_if_success refine stp ?_); with_reducible go_step)
   refine cond_E sl77 (by decide) ?_ ?_ <;> (clear sl77; intro h77 sl77)
   ·skip
    have ht8 : t ≤ 800 := by have := h77; simp at this; omega
    have ht81 : (t : Int) < 801 := by omega
    repeat ((fail_if_success refine stp ?_); with_reducible go_step)
    refine region_F ?_; refine pl ?_; refine pl ?_; have d0 := LL_cell (i := t) kb6 (by omega)
    iterate 4 refine pl ?_
    refine listF_abs (fun s47 z' => ?_); replace sl5 := gs 5 z' sl5; replace sl6 := gs 6 z' sl6; replace sl10 := gs 10 z' sl10; replace sl12 := gs 12 z' sl12; replace sl13 := gs 13 z' sl13; have sl85 := gu 85 z'; clear z' sl77; refine listF_nil ?_
    repeat ((fail_if_success refine stp ?_); with_reducible go_step)
    refine cond_E sl85 (by decide) ?_ ?_ <;> (clear sl85; intro h85 sl85)
    ·skip
     have hfo := first_ok HK.out (str_truth HK.out lw).worn (s := (asked k cs a0).1) (a := a0) L1.out L2.out (t := t) ht0 (by rw [Hnd.out]; simpa using h85) (fun e e1 e2 => by rw [Hnd.out]; exact Hall.out e e1 e2); rw [Hfa.out] at hfo; obtain ⟨o1, o2, o3⟩ := hfo
     repeat ((fail_if_success refine stp ?_); with_reducible go_step)
     by_cases fl : fa.latest < 0
     ·skip
      refine region_F ?_; refine pl ?_; have cb10_0 := kb10.cell 0 rfl; have cb10_1 := kb10.cell 1 rfl
      iterate 4 refine pl ?_
      iterate 4 refine py ?_
      refine pl ?_; refine pl ?_
      iterate 4 refine py ?_
      refine pn true ?_
      refine pn true ?_; refine pn true ?_; refine pn true ?_; refine py ?_; refine pl ?_; refine pl ?_; refine listF_yes rfl rfl (by decide) ?_ (fun K' hK => ?_); (focus (go_simp; done)); unfold opF; go_simp; refine (awake_any _).mono ?_; rintro e w48 ⟨rfl, hb49⟩; refine ⟨_, rfl, hK _ _ ?_⟩; clear hK K'; clear cb10_0 cb10_1; clear qb2 qb3 qb6 qb8 qb10; replace kb2 := kb2.at hb49; replace kb3 := kb3.at hb49; replace kb6 := kb6.at hb49; replace kb8 := kb8.at hb49; replace kb10 := kb10.at hb49; replace HL45 := hid (HL45.out.below hb49); replace hO34 := Own.at hO34 hb49; replace HB := hid (HB.out.below hb49); clear hb49; have qb2 := kb2.1; have qb3 := kb3.1; have qb6 := kb6.1; have qb8 := kb8.1; have qb10 := kb10.1; refine pl ?_; refine pl ?_; refine listF_abs (fun s50 z' => ?_); have sl4 := gu 4 z'; clear z' sl5 sl6 sl10 sl12 sl13 sl85; refine listF_nil ?_
      repeat ((fail_if_success refine stp ?_); with_reducible go_step)
      refine ret_F _ (res_t Try.results9 ((getD_F (by decide)).trans sl4)) ?_; exact ⟨rfl, HB.out.toBelow⟩
     ·skip
      have o4 := o3.resolve_left fl; refine region_F ?_; refine pl ?_; have cb10_0 := kb10.cell 0 rfl; have cb10_1 := kb10.cell 1 rfl
      iterate 4 refine pl ?_
      iterate 4 refine py ?_
      refine pl ?_; refine pl ?_
      iterate 9 refine py ?_
      refine pl ?_; refine pl ?_; refine listF_yes rfl rfl (by decide) ?_ (fun K' hK => ?_); (focus (go_simp; done)); unfold opF; go_simp; refine (awake_any _).mono ?_; rintro e w51 ⟨rfl, hb52⟩; refine ⟨_, rfl, hK _ _ ?_⟩; clear hK K'; clear cb10_0 cb10_1; clear qb2 qb3 qb6 qb8 qb10; replace kb2 := kb2.at hb52; replace kb3 := kb3.at hb52; replace kb6 := kb6.at hb52; replace kb8 := kb8.at hb52; replace kb10 := kb10.at hb52; replace HL45 := hid (HL45.out.below hb52); replace hO34 := Own.at hO34 hb52; replace HB := hid (HB.out.below hb52); clear hb52; have qb2 := kb2.1; have qb3 := kb3.1; have qb6 := kb6.1; have qb8 := kb8.1; have qb10 := kb10.1; refine pl ?_; refine pl ?_; refine listF_abs (fun s53 z' => ?_); have sl4 := gu 4 z'; clear z' sl5 sl6 sl10 sl12 sl13 sl85; refine listF_nil ?_
      repeat ((fail_if_success refine stp ?_); with_reducible go_step)
      refine ret_F _ (res_t Try.results9 ((getD_F (by decide)).trans sl4)) ?_; exact ⟨rfl, HB.out.toBelow⟩
    ·skip
     have h85' : nd ≤ strS k lw t := by have h := h85; simp at h; omega
     repeat ((fail_if_success refine stp ?_); with_reducible go_step)
     refine region_F ?_
     iterate 3 refine pl ?_
     refine listF_abs (fun s54 z' => ?_); replace sl5 := gs 5 z' sl5; replace sl6 := gs 6 z' sl6; replace sl10 := gs 10 z' sl10; replace sl12 := gs 12 z' sl12; replace sl13 := gu 13 z'; clear z' sl85; refine listF_nil ?_
     repeat ((fail_if_success refine stp ?_); with_reducible go_step)
     refine ⟨_, _, rfl, ?_, t + 1, rfl, (by first | (with_reducible exact sl13) | (rw [sl13]; (with_reducible go_num); done) | (rw [sl13, IntWalk.i64_in] <;> first | ((with_reducible go_num); done) | omega) | (rw [sl13]; go_num; done) | (rw [sl13]; simp; done) | (rw [sl13]; simp; omega)), (sl5.trans hc0_5.out.symm), (sl6.trans hc0_6.out.symm), (sl10.trans hc0_10.out.symm), (sl12.trans hc0_12.out.symm), HL45.out, hid (fun e h1 h2 => by by_cases h : e = t; (subst h; exact h85'); exact Hall.out e h1 (by omega)), by omega, by omega⟩
     omega
   ·skip
    have ht9 : 800 < t := by have := h77; simp at this; omega
    have hln := first_none HK.out (str_truth HK.out lw).worn (s := (asked k cs a0).1) (a := a0) L2.out (m := 800) (by omega) (fun e e1 e2 => by rw [Hnd.out]; exact Hall.out e e1 (by omega)); rw [Hfa.out] at hln
    repeat ((fail_if_success refine stp ?_); with_reducible go_step)
    clear HL45; clear hc0_5 hc0_6 hc0_10 hc0_12
    by_cases fl : fa.latest < 0
    ·skip
     refine region_F ?_; refine pl ?_; have cb10_0 := kb10.cell 0 rfl; have cb10_1 := kb10.cell 1 rfl
     iterate 3 refine pl ?_
     refine pn true ?_; refine pn true ?_; refine pn true ?_; refine pl ?_; refine pl ?_; refine listF_yes rfl rfl (by decide) ?_ (fun K' hK => ?_); (focus (go_simp; done)); unfold opF; go_simp; refine (awake_any _).mono ?_; rintro e w55 ⟨rfl, hb56⟩; refine ⟨_, rfl, hK _ _ ?_⟩; clear hK K'; clear cb10_0 cb10_1; clear qb2 qb3 qb6 qb8 qb10; replace kb2 := kb2.at hb56; replace kb3 := kb3.at hb56; replace kb6 := kb6.at hb56; replace kb8 := kb8.at hb56; replace kb10 := kb10.at hb56; replace hO34 := Own.at hO34 hb56; replace HB := hid (HB.out.below hb56); clear hb56; have qb2 := kb2.1; have qb3 := kb3.1; have qb6 := kb6.1; have qb8 := kb8.1; have qb10 := kb10.1; refine pl ?_; refine pl ?_; refine listF_abs (fun s57 z' => ?_); have sl4 := gu 4 z'; clear z' sl5 sl6 sl10 sl12 sl13 sl77; refine listF_nil ?_
     repeat ((fail_if_success refine stp ?_); with_reducible go_step)
     refine ret_F _ (res_t Try.results9 ((getD_F (by decide)).trans sl4)) ?_; exact ⟨rfl, HB.out.toBelow⟩
    ·skip
     have o4 : (800 : Int) < fa.latest := hln.resolve_left fl; refine region_F ?_; refine pl ?_; have cb10_0 := kb10.cell 0 rfl; have cb10_1 := kb10.cell 1 rfl
     iterate 3 refine pl ?_
     iterate 3 refine py ?_
     refine pl ?_; refine pl ?_; refine listF_yes rfl rfl (by decide) ?_ (fun K' hK => ?_); (focus (go_simp; done)); unfold opF; go_simp; refine (awake_any _).mono ?_; rintro e w58 ⟨rfl, hb59⟩; refine ⟨_, rfl, hK _ _ ?_⟩; clear hK K'; clear cb10_0 cb10_1; clear qb2 qb3 qb6 qb8 qb10; replace kb2 := kb2.at hb59; replace kb3 := kb3.at hb59; replace kb6 := kb6.at hb59; replace kb8 := kb8.at hb59; replace kb10 := kb10.at hb59; replace hO34 := Own.at hO34 hb59; replace HB := hid (HB.out.below hb59); clear hb59; have qb2 := kb2.1; have qb3 := kb3.1; have qb6 := kb6.1; have qb8 := kb8.1; have qb10 := kb10.1; refine pl ?_; refine pl ?_; refine listF_abs (fun s60 z' => ?_); have sl4 := gu 4 z'; clear z' sl5 sl6 sl10 sl12 sl13 sl77; refine listF_nil ?_
     repeat ((fail_if_success refine stp ?_); with_reducible go_step)
     refine ret_F _ (res_t Try.results9 ((getD_F (by decide)).trans sl4)) ?_; exact ⟨rfl, HB.out.toBelow⟩
  case dep24 =>
    iterate 24 refine dR ?_
    exact depR_nil

end Go.Proofs.Ytndcmmghgljinaa
