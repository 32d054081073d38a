/- Life. -/
import Derived.Test.YtndcmmghgljinaaW15
set_option linter.all false
namespace Go.Proofs.Ytndcmmghgljinaa
open Go.RowKit


theorem RdSteps.get0 {w : World} {b off : Nat} {l : List Stp} (h : RdSteps w (some ⟨b, off, none⟩) l) {k : Nat} (hk : k < l.length) :
    b < w.heap.size ∧ w.cell? ⟨b, off + k * 2, none⟩ = some (.int .i64 l[k].volt) ∧ w.cell? ⟨b, off + k * 2 + 1, none⟩ = some (.int .i64 l[k].need) := by
  obtain ⟨hb, hc⟩ := Rd.get h hk; exact ⟨hb, hc 0 _ rfl, hc 1 _ rfl⟩

set_option maxRecDepth 100000 in
set_option maxHeartbeats 1000000 in
theorem qlife_any (k : Kd) (a : Option Addr) (c : Nat) (n : Int) (w : World) (hN : -9223372036854775808 ≤ k.new ∧ k.new ≤ 9223372036854775807) (hsl : k.steps.length ≤ 9223372036854775807) (hR : RdSteps w a k.steps) :
    Calls Try.prog 29 #[.agg #[.int .i64 k.new, .int .i64 k.wear.lo, .int .i64 k.wear.hi, .slice a k.steps.length c], .int .i64 n] w (fun e w' => e = .returned (.tuple #[.agg #[.int .i64 (lifeRes k n).1.earliest, .int .i64 (lifeRes k n).1.latest], .int .i64 (lifeRes k n).2]) ∧ Below w.heap.size w w') := by
 have HR := hid hR; have HN := hid hN; clear hR hN
 refine enter_F Try.func29 rfl Try.ntmps29 (by simp) ?_
 intro s0 hs; have sl0 : s0 0 = .agg #[.int .i64 k.new, .int .i64 k.wear.lo, .int .i64 k.wear.hi, .slice a k.steps.length c] := hs 0 (by simp); have sl1 : s0 1 = .int .i64 n := hs 1 (by simp); clear hs; have HB := hid (OldB.refl [] w)
 repeat ((fail_if_success refine stp ?_); with_reducible go_step)
 refine region_F ?_; refine pa (fun w1 B2 hB kb2' hb2 => ?_); have gb2 := HB.out.gB hB; have eb2 := eB hB; clear hB; replace HB := hid (HB.out.below hb2); clear hb2; have kb2 := kb2'; clear kb2'; have qb2 := kb2.1; refine pa (fun w3 B4 hB kb4' hb4 => ?_); have gb4 := HB.out.gB hB; have ob2_b4 := oB qb2 hB; have eb4 := eB hB; clear hB; clear qb2; replace kb2 := kb2.at hb4; replace HB := hid (HB.out.below hb4); clear hb4; have qb2 := kb2.1; have kb4 := kb4'; clear kb4'; have qb4 := kb4.1; refine pl ?_; refine listF_abs (fun s5 z' => ?_); replace sl1 := gs 1 z' sl1; have sl2 := gu 2 z'; have sl4 := gu 4 z'; clear z' sl0; refine listF_nil ?_
 repeat ((fail_if_success refine stp ?_); with_reducible go_step)
 refine region_F ?_; have cb2_0 := kb2.cell 0 rfl; have cb2_1 := kb2.cell 1 rfl; have cb2_2 := kb2.cell 2 rfl; have cb2_3 := kb2.cell 3 rfl; refine pl ?_
 by_cases he : kdErr k = 0
 ·skip
  have He := hid he; have HK := hid (kok_of he); clear he; refine listF_step rfl (fun K' hK => ?_); unfold opF; go_simp; refine (open_ok k a c _ HN.out hsl (Rd.oldB HR.out HB.out (by simp)) He.out).mono ?_; rintro e w6 ⟨V, rfl, gV', hV', hb7⟩
  have gV : w.heap.size ≤ V := by have := HB.out.size; omega
  have ob2_V : B2 < V := by have := gV'; omega
  have ob4_V : B4 < V := by have := gV'; omega
  refine ⟨_, rfl, hK _ _ ?_⟩; clear hK K'; clear cb2_0 cb2_1 cb2_2 cb2_3; clear qb2 qb4; replace kb2 := kb2.at hb7; replace kb4 := kb4.at hb7; replace HB := hid (HB.out.below hb7); clear hb7; have qb2 := kb2.1; have qb4 := kb4.1; have kV := hV'; clear hV'; have qV := kV.1
  iterate 5 refine pl ?_
  refine listF_abs (fun s8 z' => ?_); replace sl1 := gs 1 z' sl1; replace sl2 := gs 2 z' sl2; replace sl4 := gs 4 z' sl4; have sl6 := gu 6 z'; have sl7 := gu 7 z'; clear z'; refine listF_nil ?_
  repeat ((fail_if_success refine stp ?_); with_reducible go_step)
  refine region_F ?_
  iterate 3 refine pl ?_
  refine listF_abs (fun s9 z' => ?_); replace sl1 := gs 1 z' sl1; replace sl2 := gs 2 z' sl2; replace sl4 := gs 4 z' sl4; replace sl6 := gs 6 z' sl6; replace sl7 := gs 7 z' sl7; have sl13 := gu 13 z'; clear z'; refine listF_nil ?_
  repeat ((fail_if_success refine stp ?_); with_reducible go_step)
  refine cond_f ?_
  repeat ((fail_if_success refine stp ?_); with_reducible go_step)
  refine region_F ?_; refine pl ?_; have cb2_0 := kb2.cell 0 rfl; have cb2_1 := kb2.cell 1 rfl; have cb2_2 := kb2.cell 2 rfl; have cb2_3 := kb2.cell 3 rfl; refine pl ?_; refine pl ?_; have wl : IntKind.i64.wrap ((k.steps.length : Int) - 1) = (k.steps.length : Int) - 1 := IntWalk.i64_in _ (by omega); refine pl ?_; refine pl ?_; refine pas (fun w10 B24 hB kb24' hb11 => ?_); have gb24 := HB.out.gB hB; have ob2_b24 := oB qb2 hB; have ob4_b24 := oB qb4 hB; have oV_b24 := oB qV hB; have eb24 := eB hB; clear hB; clear cb2_0 cb2_1 cb2_2 cb2_3; clear qb2 qb4 qV; replace kb2 := kb2.at hb11; replace kb4 := kb4.at hb11; replace kV := kV.at hb11; replace HB := hid (HB.out.below hb11); clear hb11; have qb2 := kb2.1; have qb4 := kb4.1; have qV := kV.1; have kb24 := kb24'; clear kb24'; have qb24 := kb24.1; refine listF_step rfl (fun K' hK => ?_); unfold opF; go_simp; refine (out_any ((k.steps.length : Int) - 1) _ _ [n] _ (by simp) (rd1 kb24)).mono ?_; rintro e w12 ⟨rfl, hb13⟩
  refine ⟨_, rfl, hK _ _ ?_⟩; clear hK K'; clear qb2 qb4 qV qb24; replace kb2 := kb2.at hb13; replace kb4 := kb4.at hb13; replace kV := kV.at hb13; replace kb24 := kb24.at hb13; replace HB := hid (HB.out.below hb13); clear hb13; have qb2 := kb2.1; have qb4 := kb4.1; have qV := kV.1; have qb24 := kb24.1; refine pl ?_; refine listF_abs (fun s14 z' => ?_); replace sl1 := gs 1 z' sl1; replace sl2 := gs 2 z' sl2; replace sl4 := gs 4 z' sl4; replace sl6 := gs 6 z' sl6; have sl18 := gu 18 z'; clear z' sl7 sl13; refine listF_nil ?_
  repeat ((fail_if_success refine stp ?_); with_reducible go_step)
  refine cond_E sl18 (by decide) ?_ ?_ <;> (clear sl18; intro h18 sl18)
  ·skip
   have H18 := hid (show inb n 0 ((k.steps.length : Int) - 1) = false by have h := out1_t h18; rw [← inb_iff] at h; simpa using h)
   repeat ((fail_if_success refine stp ?_); with_reducible go_step)
   refine region_F ?_; refine pl ?_; have cb4_0 := kb4.cell 0 rfl; have cb4_1 := kb4.cell 1 rfl; have zb4 := kb4.2.2; refine pl ?_; refine listF_absw (fun w15 hw' => ?_); have kb4' := cells_of hw' (Cells.set (i := 1) (Cells.set (i := 0) (kb4)))
   (try simp only [vC, List.set_cons_zero, List.set_cons_succ] at kb4')
   have hb16 : OldB [B4] w12 w15 := oldset hw'; clear hw'; clear cb4_0 cb4_1 zb4; clear qb2 qb4 qV qb24; replace kb4 := kb4'; replace kb2 := kb2.oldB hb16 (by first | (simp; done) | (simp; omega)); replace kV := kV.oldB hb16 (by first | (simp; done) | (simp; omega)); replace kb24 := kb24.oldB hb16 (by first | (simp; done) | (simp; omega)); replace HB := hid (HB.out.more hb16 (by simp; try omega)); clear hb16; have qb2 := kb2.1; have qb4 := kb4.1; have qV := kV.1; have qb24 := kb24.1; clear kb4'; refine pl ?_; refine listF_abs (fun s17 z' => ?_); replace sl4 := gs 4 z' sl4; have sl5 := gu 5 z'; clear z' sl1 sl2 sl6 sl18; refine listF_nil ?_
   repeat ((fail_if_success refine stp ?_); with_reducible go_step)
   have cb4_0 := kb4.cell 0 rfl; have cb4_1 := kb4.cell 1 rfl; refine ret_F _ (res_ct Try.results29 ((getD_F (by decide)).trans sl4) (load_t37 cb4_0 cb4_1) ((getD_F (by decide)).trans sl5)) ?_; exact ⟨by unfold lifeRes; rw [if_neg (by simp [He.out]), if_pos H18.out]; rfl, HB.out.toBelow⟩
  ·skip
   obtain ⟨hn1, hn2⟩ := out1_f h18; have hl1 := HK.out.l1
   repeat ((fail_if_success refine stp ?_); with_reducible go_step)
   obtain ⟨i, rfl, hi⟩ : ∃ i : Nat, n = (i : Int) ∧ i < k.steps.length := ⟨n.toNat, by omega, by omega⟩; obtain ⟨b, off, rfl, hbs, c0, c1⟩ := RdSteps.ne (Rd.oldB HR.out HB.out (by simp)) hi
   have hi' : (i : Int) < k.steps.length := by omega
   have w1 : IntKind.i64.wrap ((i : Int) + 1) = (i : Int) + 1 := IntWalk.i64_in _ (by omega); have Hin2 := hid (life_in HK.out hi); have Hin := hid (show ¬ inb (i : Int) 0 ((k.steps.length : Int) - 1) = false by rw [(inb_iff _ _ _).2 ⟨by omega, by omega⟩]; decide)
   ·skip
    refine region_F ?_; refine pl ?_; refine pl ?_; have cb2_0 := kb2.cell 0 rfl; have cb2_1 := kb2.cell 1 rfl; have cb2_2 := kb2.cell 2 rfl; have cb2_3 := kb2.cell 3 rfl
    iterate 8 refine pl ?_
    have cV_0 := kV.cell 0 rfl; have cV_1 := kV.cell 1 rfl; have cV_2 := kV.cell 2 rfl; have cV_3 := kV.cell 3 rfl; have cV_4 := kV.cell 4 rfl; have cV_5 := kV.cell 5 rfl; have cV_6 := kV.cell 6 rfl; have zV := kV.2.2; refine pl ?_; refine listF_absw (fun w18 hw' => ?_); have kV' := cells_of hw' (Cells.set (i := 4) (kV))
    (try simp only [vC, List.set_cons_zero, List.set_cons_succ] at kV')
    have hb19 : OldB [V] w12 w18 := oldset hw'; clear hw'; clear cV_0 cV_1 cV_2 cV_3 cV_4 cV_5 cV_6 cb2_0 cb2_1 cb2_2 cb2_3 zV; clear qb2 qb4 qV qb24; replace kV := kV'; replace kb2 := kb2.oldB hb19 (by first | (simp; done) | (simp; omega)); replace kb4 := kb4.oldB hb19 (by first | (simp; done) | (simp; omega)); replace kb24 := kb24.oldB hb19 (by first | (simp; done) | (simp; omega)); replace HB := hid (HB.out.more hb19 (by simp; try omega)); clear hb19; have qb2 := kb2.1; have qb4 := kb4.1; have qV := kV.1; have qb24 := kb24.1; clear kV'; refine listF_abs (fun s20 z' => ?_); replace sl1 := gs 1 z' sl1; replace sl2 := gs 2 z' sl2; replace sl4 := gs 4 z' sl4; replace sl6 := gs 6 z' sl6; clear z' sl18; refine listF_nil ?_
    repeat ((fail_if_success refine stp ?_); with_reducible go_step)
    refine region_F ?_
    iterate 3 refine pl ?_
    have cb2_0 := kb2.cell 0 rfl; have cb2_1 := kb2.cell 1 rfl; have cb2_2 := kb2.cell 2 rfl; have cb2_3 := kb2.cell 3 rfl
    iterate 3 refine pl ?_
    refine listF_abs (fun s21 z' => ?_); replace sl1 := gs 1 z' sl1; replace sl2 := gs 2 z' sl2; replace sl4 := gs 4 z' sl4; replace sl6 := gs 6 z' sl6; have sl42 := gu 42 z'; clear z'; refine listF_nil ?_
    repeat ((fail_if_success refine stp ?_); with_reducible go_step)
    refine cond_E sl42 (by decide) ?_ ?_ <;> (clear sl42; intro h42 sl42)
    ·skip
     have h42' : i + 1 < k.steps.length := by simp at h42; omega
     obtain ⟨_, c2, c3⟩ := RdSteps.get0 (Rd.oldB HR.out HB.out (by simp)) h42'; obtain ⟨hvo, hnd⟩ := needed_at HK.out h42'; have Hvo := hid hvo; have Hnd := hid hnd
     have h42i : (i : Int) + 1 < k.steps.length := by omega
     have e1 : ((i : Int) + 1).toNat = i + 1 := by omega
     clear hvo hnd; have Hls := hid (show lifeSpan k i = ⟨k.steps[i].need, min k.new (k.steps[i + 1].need - 1)⟩ by unfold lifeSpan; rw [if_pos h42', getD_get hi, getD_get h42'])
     repeat ((fail_if_success refine stp ?_); with_reducible go_step)
     refine region_F ?_
     iterate 9 refine pl ?_
     refine listF_step rfl (fun K' hK => ?_); unfold opF; go_simp; refine (result_any V k _ c ⟨k.steps[i].need, k.new⟩ 0 k.steps[i + 1].volt false _ kV (Rd.oldB HR.out HB.out (by simp)) HK.out Hvo.out).mono ?_; rintro e w22 ⟨rfl, hb23⟩; rw [show agreed k ⟨k.steps[i].need, k.new⟩ k.steps[i + 1].volt false = lifeSpan k i by rw [Hls.out]; unfold agreed; simp [Hnd.out]]; refine ⟨_, rfl, hK _ _ ?_⟩; clear hK K'; clear cb2_0 cb2_1 cb2_2 cb2_3; clear qb2 qb4 qV qb24; replace kb2 := kb2.at hb23; replace kb4 := kb4.at hb23; replace kV := kV.at hb23; replace kb24 := kb24.at hb23; replace HB := hid (HB.out.below hb23); clear hb23; have qb2 := kb2.1; have qb4 := kb4.1; have qV := kV.1; have qb24 := kb24.1; refine pl ?_; refine pl ?_; have cV_0 := kV.cell 0 rfl; have cV_1 := kV.cell 1 rfl; have cV_2 := kV.cell 2 rfl; have cV_3 := kV.cell 3 rfl; have cV_4 := kV.cell 4 rfl; have cV_5 := kV.cell 5 rfl; have cV_6 := kV.cell 6 rfl; have zV := kV.2.2; refine pl ?_
     refine listF_absw (fun w24 hw' => ?_); have kV' := cells_of hw' (Cells.set (i := 5) (Cells.set (i := 4) (kV)))
     (try simp only [vC, List.set_cons_zero, List.set_cons_succ] at kV')
     have hb25 : OldB [V] w22 w24 := oldset hw'; clear hw'; clear cV_0 cV_1 cV_2 cV_3 cV_4 cV_5 cV_6 zV; clear qb2 qb4 qV qb24; replace kV := kV'; replace kb2 := kb2.oldB hb25 (by first | (simp; done) | (simp; omega)); replace kb4 := kb4.oldB hb25 (by first | (simp; done) | (simp; omega)); replace kb24 := kb24.oldB hb25 (by first | (simp; done) | (simp; omega)); replace HB := hid (HB.out.more hb25 (by simp; try omega)); clear hb25; have qb2 := kb2.1; have qb4 := kb4.1; have qV := kV.1; have qb24 := kb24.1; clear kV'; refine listF_abs (fun s26 z' => ?_); replace sl4 := gs 4 z' sl4; replace sl6 := gs 6 z' sl6; clear z' sl1 sl2 sl42; refine listF_nil ?_
     repeat ((fail_if_success refine stp ?_); with_reducible go_step)
     have cb2_0 := kb2.cell 0 rfl; have cb2_1 := kb2.cell 1 rfl; have cb2_2 := kb2.cell 2 rfl; have cb2_3 := kb2.cell 3 rfl; have cb4_0 := kb4.cell 0 rfl; have cb4_1 := kb4.cell 1 rfl; have cV_0 := kV.cell 0 rfl; have cV_1 := kV.cell 1 rfl; have cV_2 := kV.cell 2 rfl; have cV_3 := kV.cell 3 rfl; have cV_4 := kV.cell 4 rfl; have cV_5 := kV.cell 5 rfl; have cV_6 := kV.cell 6 rfl; have cb24_0 := kb24.cell 0 rfl; refine regionQ_F (Below w24.heap.size w24) (by kernel_rfl) (by kernel_rfl) (Below.refl _ _).drew ?_
     iterate 11 refine lq ?_
     refine listQ_nil ?_; intro w27 hb28; clear cV_0 cV_1 cV_2 cV_3 cV_4 cV_5 cV_6 cb2_0 cb2_1 cb2_2 cb2_3 cb24_0 cb4_0 cb4_1; clear qb2 qb4 qV qb24; replace kb2 := kb2.at hb28; replace kb4 := kb4.at hb28; replace kV := kV.at hb28; replace kb24 := kb24.at hb28; replace HB := hid (HB.out.below hb28); clear hb28; have qb2 := kb2.1; have qb4 := kb4.1; have qV := kV.1; have qb24 := kb24.1
     repeat ((fail_if_success refine stp ?_); with_reducible go_step)
     refine wp_abs (fun s29 z' => ?_); replace sl4 := gs 4 z' sl4; replace sl6 := gs 6 z' sl6; have sl65 := gu 65 z'; clear z'
     refine cond_E sl65 (by decide) ?_ ?_ <;> (clear sl65; intro h65 sl65)
     ·skip
      have h65' : (lifeSpan k i).hi < (lifeSpan k i).lo := by simpa using h65
      repeat ((fail_if_success refine stp ?_); with_reducible go_step)
      refine region_F ?_; refine pl ?_; have cb4_0 := kb4.cell 0 rfl; have cb4_1 := kb4.cell 1 rfl; have zb4 := kb4.2.2; refine pl ?_; refine listF_absw (fun w30 hw' => ?_); have kb4' := cells_of hw' (Cells.set (i := 1) (Cells.set (i := 0) (kb4)))
      (try simp only [vC, List.set_cons_zero, List.set_cons_succ] at kb4')
      have hb31 : OldB [B4] w27 w30 := oldset hw'; clear hw'; clear cb4_0 cb4_1 zb4; clear qb2 qb4 qV qb24; replace kb4 := kb4'; replace kb2 := kb2.oldB hb31 (by first | (simp; done) | (simp; omega)); replace kV := kV.oldB hb31 (by first | (simp; done) | (simp; omega)); replace kb24 := kb24.oldB hb31 (by first | (simp; done) | (simp; omega)); replace HB := hid (HB.out.more hb31 (by simp; try omega)); clear hb31; have qb2 := kb2.1; have qb4 := kb4.1; have qV := kV.1; have qb24 := kb24.1; clear kb4'; refine pl ?_; refine listF_abs (fun s32 z' => ?_); replace sl4 := gs 4 z' sl4; have sl5 := gu 5 z'; clear z' sl6 sl65; refine listF_nil ?_
      repeat ((fail_if_success refine stp ?_); with_reducible go_step)
      have cb4_0 := kb4.cell 0 rfl; have cb4_1 := kb4.cell 1 rfl; refine ret_F _ (res_ct Try.results29 ((getD_F (by decide)).trans sl4) (load_t37 cb4_0 cb4_1) ((getD_F (by decide)).trans sl5)) ?_; have Hr := hid (show lifeRes k (i : Int) = (Fail.zero, 9) by unfold lifeRes; rw [if_neg (by simp [He.out]), if_neg Hin.out]; simp only [Int.toNat_natCast]; exact if_pos h65'); exact ⟨by rw [Hr.out]; rfl, HB.out.toBelow⟩
     ·skip
      have h65' : ¬ (lifeSpan k i).hi < (lifeSpan k i).lo := by simpa using h65
      repeat ((fail_if_success refine stp ?_); with_reducible go_step)
      refine region_F ?_; refine pl ?_; refine listF_step rfl (fun K' hK => ?_); unfold opF; go_simp; refine (fails_any V k _ c (lifeSpan k i) 0 _ kV (Rd.oldB HR.out HB.out (by simp)) HK.out Hin2.out (by omega)).mono ?_; rintro e w33 ⟨rfl, hb34⟩; refine ⟨_, rfl, hK _ _ ?_⟩; clear hK K'; clear qb2 qb4 qV qb24; replace kb2 := kb2.at hb34; replace kb4 := kb4.at hb34; replace kV := kV.at hb34; replace kb24 := kb24.at hb34; replace HB := hid (HB.out.below hb34); clear hb34; have qb2 := kb2.1; have qb4 := kb4.1; have qV := kV.1; have qb24 := kb24.1; have cb4_0 := kb4.cell 0 rfl; have cb4_1 := kb4.cell 1 rfl; have zb4 := kb4.2.2; refine pl ?_; refine listF_absw (fun w35 hw' => ?_); have kb4' := cells_of hw' (Cells.set (i := 1) (Cells.set (i := 0) (kb4)))
      (try simp only [vC, List.set_cons_zero, List.set_cons_succ] at kb4')
      have hb36 : OldB [B4] w33 w35 := oldset hw'; clear hw'; clear cb4_0 cb4_1 zb4; clear qb2 qb4 qV qb24; replace kb4 := kb4'; replace kb2 := kb2.oldB hb36 (by first | (simp; done) | (simp; omega)); replace kV := kV.oldB hb36 (by first | (simp; done) | (simp; omega)); replace kb24 := kb24.oldB hb36 (by first | (simp; done) | (simp; omega)); replace HB := hid (HB.out.more hb36 (by simp; try omega)); clear hb36; have qb2 := kb2.1; have qb4 := kb4.1; have qV := kV.1; have qb24 := kb24.1; clear kb4'; refine pl ?_; refine listF_abs (fun s37 z' => ?_); replace sl4 := gs 4 z' sl4; have sl5 := gu 5 z'; clear z' sl6 sl65; refine listF_nil ?_
      repeat ((fail_if_success refine stp ?_); with_reducible go_step)
      have cb4_0 := kb4.cell 0 rfl; have cb4_1 := kb4.cell 1 rfl; refine ret_F _ (res_ct Try.results29 ((getD_F (by decide)).trans sl4) (load_t37 cb4_0 cb4_1) ((getD_F (by decide)).trans sl5)) ?_; have Hr := hid (show lifeRes k (i : Int) = (failsOf k (lifeSpan k i) 0, 0) by unfold lifeRes; rw [if_neg (by simp [He.out]), if_neg Hin.out]; simp only [Int.toNat_natCast]; exact if_neg h65'); exact ⟨by rw [Hr.out]; rfl, HB.out.toBelow⟩
    ·skip
     have h42' : ¬ i + 1 < k.steps.length := by simp at h42; omega
     have Hls := hid (show lifeSpan k i = ⟨k.steps[i].need, k.new⟩ by unfold lifeSpan; rw [if_neg h42', getD_get hi])
     replace kV : Cells w18 V (vC k (some ⟨b, off, none⟩) c (lifeSpan k i) 0) := by rw [Hls.out]; exact kV
     repeat ((fail_if_success refine stp ?_); with_reducible go_step)
     have cb4_0 := kb4.cell 0 rfl; have cb4_1 := kb4.cell 1 rfl; have cV_0 := kV.cell 0 rfl; have cV_1 := kV.cell 1 rfl; have cV_2 := kV.cell 2 rfl; have cV_3 := kV.cell 3 rfl; have cV_4 := kV.cell 4 rfl; have cV_5 := kV.cell 5 rfl; have cV_6 := kV.cell 6 rfl; have cb24_0 := kb24.cell 0 rfl; refine regionQ_F (Below w18.heap.size w18) (by kernel_rfl) (by kernel_rfl) (Below.refl _ _).drew ?_
     iterate 11 refine lq ?_
     refine listQ_nil ?_; intro w38 hb39; clear cV_0 cV_1 cV_2 cV_3 cV_4 cV_5 cV_6 cb2_0 cb2_1 cb2_2 cb2_3 cb24_0 cb4_0 cb4_1; clear qb2 qb4 qV qb24; replace kb2 := kb2.at hb39; replace kb4 := kb4.at hb39; replace kV := kV.at hb39; replace kb24 := kb24.at hb39; replace HB := hid (HB.out.below hb39); clear hb39; have qb2 := kb2.1; have qb4 := kb4.1; have qV := kV.1; have qb24 := kb24.1
     repeat ((fail_if_success refine stp ?_); with_reducible go_step)
     refine wp_abs (fun s40 z' => ?_); replace sl4 := gs 4 z' sl4; replace sl6 := gs 6 z' sl6; have sl65 := gu 65 z'; clear z' sl1 sl2 sl42
     refine cond_E sl65 (by decide) ?_ ?_ <;> (clear sl65; intro h65 sl65)
     ·skip
      have h65' : (lifeSpan k i).hi < (lifeSpan k i).lo := by simpa using h65
      repeat ((fail_if_success refine stp ?_); with_reducible go_step)
      refine region_F ?_; refine pl ?_; have cb4_0 := kb4.cell 0 rfl; have cb4_1 := kb4.cell 1 rfl; have zb4 := kb4.2.2; refine pl ?_; refine listF_absw (fun w41 hw' => ?_); have kb4' := cells_of hw' (Cells.set (i := 1) (Cells.set (i := 0) (kb4)))
      (try simp only [vC, List.set_cons_zero, List.set_cons_succ] at kb4')
      have hb42 : OldB [B4] w38 w41 := oldset hw'; clear hw'; clear cb4_0 cb4_1 zb4; clear qb2 qb4 qV qb24; replace kb4 := kb4'; replace kb2 := kb2.oldB hb42 (by first | (simp; done) | (simp; omega)); replace kV := kV.oldB hb42 (by first | (simp; done) | (simp; omega)); replace kb24 := kb24.oldB hb42 (by first | (simp; done) | (simp; omega)); replace HB := hid (HB.out.more hb42 (by simp; try omega)); clear hb42; have qb2 := kb2.1; have qb4 := kb4.1; have qV := kV.1; have qb24 := kb24.1; clear kb4'; refine pl ?_; refine listF_abs (fun s43 z' => ?_); replace sl4 := gs 4 z' sl4; have sl5 := gu 5 z'; clear z' sl6 sl65; refine listF_nil ?_
      repeat ((fail_if_success refine stp ?_); with_reducible go_step)
      have cb4_0 := kb4.cell 0 rfl; have cb4_1 := kb4.cell 1 rfl; refine ret_F _ (res_ct Try.results29 ((getD_F (by decide)).trans sl4) (load_t37 cb4_0 cb4_1) ((getD_F (by decide)).trans sl5)) ?_; have Hr := hid (show lifeRes k (i : Int) = (Fail.zero, 9) by unfold lifeRes; rw [if_neg (by simp [He.out]), if_neg Hin.out]; simp only [Int.toNat_natCast]; exact if_pos h65'); exact ⟨by rw [Hr.out]; rfl, HB.out.toBelow⟩
     ·skip
      have h65' : ¬ (lifeSpan k i).hi < (lifeSpan k i).lo := by simpa using h65
      repeat ((fail_if_success refine stp ?_); with_reducible go_step)
      refine region_F ?_; refine pl ?_; refine listF_step rfl (fun K' hK => ?_); unfold opF; go_simp; refine (fails_any V k _ c (lifeSpan k i) 0 _ kV (Rd.oldB HR.out HB.out (by simp)) HK.out Hin2.out (by omega)).mono ?_; rintro e w44 ⟨rfl, hb45⟩; refine ⟨_, rfl, hK _ _ ?_⟩; clear hK K'; clear qb2 qb4 qV qb24; replace kb2 := kb2.at hb45; replace kb4 := kb4.at hb45; replace kV := kV.at hb45; replace kb24 := kb24.at hb45; replace HB := hid (HB.out.below hb45); clear hb45; have qb2 := kb2.1; have qb4 := kb4.1; have qV := kV.1; have qb24 := kb24.1; have cb4_0 := kb4.cell 0 rfl; have cb4_1 := kb4.cell 1 rfl; have zb4 := kb4.2.2; refine pl ?_; refine listF_absw (fun w46 hw' => ?_); have kb4' := cells_of hw' (Cells.set (i := 1) (Cells.set (i := 0) (kb4)))
      (try simp only [vC, List.set_cons_zero, List.set_cons_succ] at kb4')
      have hb47 : OldB [B4] w44 w46 := oldset hw'; clear hw'; clear cb4_0 cb4_1 zb4; clear qb2 qb4 qV qb24; replace kb4 := kb4'; replace kb2 := kb2.oldB hb47 (by first | (simp; done) | (simp; omega)); replace kV := kV.oldB hb47 (by first | (simp; done) | (simp; omega)); replace kb24 := kb24.oldB hb47 (by first | (simp; done) | (simp; omega)); replace HB := hid (HB.out.more hb47 (by simp; try omega)); clear hb47; have qb2 := kb2.1; have qb4 := kb4.1; have qV := kV.1; have qb24 := kb24.1; clear kb4'; refine pl ?_; refine listF_abs (fun s48 z' => ?_); replace sl4 := gs 4 z' sl4; have sl5 := gu 5 z'; clear z' sl6 sl65; refine listF_nil ?_
      repeat ((fail_if_success refine stp ?_); with_reducible go_step)
      have cb4_0 := kb4.cell 0 rfl; have cb4_1 := kb4.cell 1 rfl; refine ret_F _ (res_ct Try.results29 ((getD_F (by decide)).trans sl4) (load_t37 cb4_0 cb4_1) ((getD_F (by decide)).trans sl5)) ?_; have Hr := hid (show lifeRes k (i : Int) = (failsOf k (lifeSpan k i) 0, 0) by unfold lifeRes; rw [if_neg (by simp [He.out]), if_neg Hin.out]; simp only [Int.toNat_natCast]; exact if_neg h65'); exact ⟨by rw [Hr.out]; rfl, HB.out.toBelow⟩
 ·skip
  have He := hid he
  have he1 : (kdErr k != 0) = true := by simpa using he
  clear he; refine listF_step rfl (fun K' hK => ?_); unfold opF; go_simp; refine (open_bad k a c _ HN.out hsl (Rd.oldB HR.out HB.out (by simp)) He.out).mono ?_; rintro e w49 ⟨rfl, hb50⟩; refine ⟨_, rfl, hK _ _ ?_⟩; clear hK K'; clear cb2_0 cb2_1 cb2_2 cb2_3; clear qb2 qb4; replace kb2 := kb2.at hb50; replace kb4 := kb4.at hb50; replace HB := hid (HB.out.below hb50); clear hb50; have qb2 := kb2.1; have qb4 := kb4.1
  iterate 5 refine pl ?_
  refine listF_abs (fun s51 z' => ?_); replace sl1 := gs 1 z' sl1; replace sl2 := gs 2 z' sl2; replace sl4 := gs 4 z' sl4; have sl6 := gu 6 z'; have sl7 := gu 7 z'; clear z'; refine listF_nil ?_
  repeat ((fail_if_success refine stp ?_); with_reducible go_step)
  refine region_F ?_
  iterate 3 refine pl ?_
  refine listF_abs (fun s52 z' => ?_); replace sl1 := gs 1 z' sl1; replace sl2 := gs 2 z' sl2; replace sl4 := gs 4 z' sl4; replace sl6 := gs 6 z' sl6; replace sl7 := gs 7 z' sl7; have sl13 := gu 13 z'; clear z'; refine listF_nil ?_
  repeat ((fail_if_success refine stp ?_); with_reducible go_step)
  refine cond_t ?_
  repeat ((fail_if_success refine stp ?_); with_reducible go_step)
  refine region_F ?_; refine pl ?_; refine pl ?_; have cb4_0 := kb4.cell 0 rfl; have cb4_1 := kb4.cell 1 rfl; have zb4 := kb4.2.2; refine pl ?_; refine listF_absw (fun w53 hw' => ?_); have kb4' := cells_of hw' (Cells.set (i := 1) (Cells.set (i := 0) (kb4)))
  (try simp only [vC, List.set_cons_zero, List.set_cons_succ] at kb4')
  have hb54 : OldB [B4] w49 w53 := oldset hw'; clear hw'; clear cb4_0 cb4_1 zb4; clear qb2 qb4; replace kb4 := kb4'; replace kb2 := kb2.oldB hb54 (by first | (simp; done) | (simp; omega)); replace HB := hid (HB.out.more hb54 (by simp; try omega)); clear hb54; have qb2 := kb2.1; have qb4 := kb4.1; clear kb4'; refine pl ?_; refine listF_abs (fun s55 z' => ?_); replace sl4 := gs 4 z' sl4; have sl5 := gu 5 z'; clear z' sl1 sl2 sl6 sl7 sl13; refine listF_nil ?_
  repeat ((fail_if_success refine stp ?_); with_reducible go_step)
  have cb4_0 := kb4.cell 0 rfl; have cb4_1 := kb4.cell 1 rfl; refine ret_F _ (res_ct Try.results29 ((getD_F (by decide)).trans sl4) (load_t37 cb4_0 cb4_1) ((getD_F (by decide)).trans sl5)) ?_; exact ⟨by unfold lifeRes; rw [if_pos He.out]; rfl, HB.out.toBelow⟩

end Go.Proofs.Ytndcmmghgljinaa
