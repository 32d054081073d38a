/- The reference's Life. -/
import Derived.Test.YtndcmmghgljinaaW25
import Derived.Test.YtndcmmghgljinaaW16
set_option linter.all false
namespace Go.Proofs.Ytndcmmghgljinaa
open Go.RowKit

set_option maxRecDepth 100000 in
set_option maxHeartbeats 8000000 in
theorem rLife_any (k : Kd) (a : Option Addr) (c : Nat) (n : Int) (w : World) (hsl : k.steps.length ≤ 9223372036854775807) (hR : RdSteps w a k.steps) :
    Calls Try.prog 30 #[.agg #[.int .i64 k.new, .int .i64 k.wear.lo, .int .i64 k.wear.hi, .slice a k.steps.length c], .int .i64 n] w (fun e w' => e = .returned (.tuple #[.agg #[.int .i64 (lifeRes k n).1.earliest, .int .i64 (lifeRes k n).1.latest], .int .i64 (lifeRes k n).2]) ∧ Below w.heap.size w w') := by
 have HR := hid hR
 clear hR
 refine enter_F Try.func30 rfl Try.ntmps30 (by simp) ?_
 intro s0 hs
 have sl0 : s0 0 = .agg #[.int .i64 k.new, .int .i64 k.wear.lo, .int .i64 k.wear.hi, .slice a k.steps.length c] := hs 0 (by simp)
 have sl1 : s0 1 = .int .i64 n := hs 1 (by simp)
 clear hs
 have HB := hid (OldB.refl [] w)
 repeat ((fail_if_success refine stp ?_); with_reducible go_step)
 refine region_F ?_
 refine pa (fun w1 B2 hB kb2' hb2 => ?_)
 have gb2 := HB.out.gB hB
 have eb2 := eB hB; clear hB
 replace HB := hid (HB.out.below hb2)
 clear hb2
 have kb2 := kb2'
 clear kb2'
 have qb2 := kb2.1
 refine pa (fun w3 B4 hB kb4' hb4 => ?_)
 have gb4 := HB.out.gB hB
 have ob2_b4 := oB qb2 hB
 have eb4 := eB hB; clear hB
 clear qb2
 replace kb2 := kb2.at hb4
 replace HB := hid (HB.out.below hb4)
 clear hb4
 have qb2 := kb2.1
 have kb4 := kb4'
 clear kb4'
 have qb4 := kb4.1
 refine pl ?_
 refine listF_abs (fun s5 hs' => ?_)
 replace sl1 := gs 1 hs' sl1; have sl2 := gu 2 hs'; have sl4 := gu 4 hs'; clear hs' sl0
 refine listF_nil ?_
 repeat ((fail_if_success refine stp ?_); with_reducible go_step)
 refine region_F ?_
 have cb2_0 := kb2.cell 0 rfl
 have cb2_1 := kb2.cell 1 rfl
 have cb2_2 := kb2.cell 2 rfl
 have cb2_3 := kb2.cell 3 rfl
 refine pl ?_
 refine listF_step rfl (fun K' hK => ?_); unfold opF; go_simp
 refine (rcheck_any k a c _ hsl (Rd.oldB HR.out HB.out (by simp))).mono ?_; rintro e w6 ⟨rfl, hb7⟩
 refine ⟨_, rfl, hK _ _ ?_⟩; clear hK K'
 clear cb2_0 cb2_1 cb2_2 cb2_3
 clear qb2 qb4
 replace kb2 := kb2.at hb7
 replace kb4 := kb4.at hb7
 replace HB := hid (HB.out.below hb7)
 clear hb7
 have qb2 := kb2.1
 have qb4 := kb4.1
 refine pl ?_
 refine listF_abs (fun s8 hs' => ?_)
 replace sl1 := gs 1 hs' sl1; replace sl2 := gs 2 hs' sl2; replace sl4 := gs 4 hs' sl4; have sl6 := gu 6 hs'; clear hs'
 refine listF_nil ?_
 repeat ((fail_if_success refine stp ?_); with_reducible go_step)
 by_cases he : kdErr k = 0
 ·skip
  have He := hid he
  have HK := hid (kok_of he)
  have sl6' := sl6; rw [he] at sl6'; clear sl6; have sl6 := sl6'; clear sl6' he
  refine region_F ?_
  refine pl ?_
  refine pl ?_
  refine pl ?_
  refine py ?_
  refine py ?_
  have cb2_0 := kb2.cell 0 rfl
  have cb2_1 := kb2.cell 1 rfl
  have cb2_2 := kb2.cell 2 rfl
  have cb2_3 := kb2.cell 3 rfl
  refine py ?_
  refine py ?_
  have wl : IntKind.i64.wrap ((k.steps.length : Int) - 1) = (k.steps.length : Int) - 1 := IntWalk.i64_in _ (by omega)
  refine py ?_
  refine listF_yes rfl rfl (by decide) ?_ (fun K' hK => ?_); (focus (go_simp; done)); unfold opF; go_simp
  refine (rin_any n 0 ((k.steps.length : Int) - 1) _).mono ?_; rintro e w' ⟨rfl, rfl⟩
  refine ⟨_, rfl, hK _ _ ?_⟩; clear hK K'
  refine py ?_
  refine pl ?_
  refine listF_abs (fun s10 hs' => ?_)
  replace sl1 := gs 1 hs' sl1; replace sl2 := gs 2 hs' sl2; replace sl4 := gs 4 hs' sl4; replace sl6 := gs 6 hs' sl6; have sl20 := gu 20 hs'; clear hs'
  refine listF_nil ?_
  repeat ((fail_if_success refine stp ?_); with_reducible go_step)
  refine cond_E sl20 (by decide) ?_ ?_ <;> (clear sl20; intro h20 sl20)
  ·skip
   have H18 := hid (show inb n 0 ((k.steps.length : Int) - 1) = false by simpa using h20)
   repeat ((fail_if_success refine stp ?_); with_reducible go_step)
   refine region_F ?_
   refine pl ?_
   refine listF_abs (fun s11 hs' => ?_)
   replace sl1 := gs 1 hs' sl1; replace sl2 := gs 2 hs' sl2; replace sl4 := gs 4 hs' sl4; replace sl6 := gu 6 hs'; clear hs' sl20
   refine listF_nil ?_
   repeat ((fail_if_success refine stp ?_); with_reducible go_step)
   refine region_F ?_
   refine pl ?_
   refine pl ?_
   refine listF_abs (fun s12 hs' => ?_)
   replace sl1 := gs 1 hs' sl1; replace sl2 := gs 2 hs' sl2; replace sl4 := gs 4 hs' sl4; replace sl6 := gs 6 hs' sl6; have sl22 := gu 22 hs'; clear hs'
   refine listF_nil ?_
   repeat ((fail_if_success refine stp ?_); with_reducible go_step)
   refine cond_t ?_
   repeat ((fail_if_success refine stp ?_); with_reducible go_step)
   refine region_F ?_
   refine pl ?_
   refine pl ?_
   have cb4_0 := kb4.cell 0 rfl
   have cb4_1 := kb4.cell 1 rfl
   have zb4 := kb4.2.2
   refine pl ?_
   refine listF_absw (fun w13 hw' => ?_)
   have kb4' := cells_of hw' (Cells.set (i := 1) (Cells.set (i := 0) (kb4)))
   (try simp only [vC, List.set_cons_zero, List.set_cons_succ] at kb4')
   have hb14 : OldB [B4] w6 w13 := oldset hw'
   clear hw'
   clear cb2_0 cb2_1 cb2_2 cb2_3 cb4_0 cb4_1 zb4
   clear qb2 qb4
   replace kb4 := kb4'
   replace kb2 := kb2.oldB hb14 (by first | (simp; done) | (simp; omega))
   replace HB := hid (HB.out.more hb14 (by simp; try omega))
   clear hb14
   have qb2 := kb2.1
   have qb4 := kb4.1
   clear kb4'
   refine pl ?_
   refine listF_abs (fun s15 hs' => ?_)
   replace sl4 := gs 4 hs' sl4; have sl5 := gu 5 hs'; clear hs' sl1 sl2 sl6 sl22
   refine listF_nil ?_
   repeat ((fail_if_success refine stp ?_); with_reducible go_step)
   have cb4_0 := kb4.cell 0 rfl
   have cb4_1 := kb4.cell 1 rfl
   refine ret_F _ (res_ct Try.results30 ((getD_F (by decide)).trans sl4) (load_t37 cb4_0 cb4_1) ((getD_F (by decide)).trans sl5)) ?_
   exact ⟨by unfold lifeRes; rw [if_neg (by simp [He.out]), if_pos H18.out]; rfl, HB.out.toBelow⟩
  ·skip
   obtain ⟨hn1, hn2⟩ := (inb_iff _ _ _).1 (show inb n 0 ((k.steps.length : Int) - 1) = true by simpa using h20)
   have hl1 := HK.out.l1
   repeat ((fail_if_success refine stp ?_); with_reducible go_step)
   refine region_F ?_
   refine pl ?_
   refine pl ?_
   refine listF_abs (fun s16 hs' => ?_)
   replace sl1 := gs 1 hs' sl1; replace sl2 := gs 2 hs' sl2; replace sl4 := gs 4 hs' sl4; replace sl6 := gs 6 hs' sl6; have sl22 := gu 22 hs'; clear hs' sl20
   refine listF_nil ?_
   repeat ((fail_if_success refine stp ?_); with_reducible go_step)
   refine cond_f ?_
   repeat ((fail_if_success refine stp ?_); with_reducible go_step)
   obtain ⟨i, rfl, hi⟩ : ∃ i : Nat, n = (i : Int) ∧ i < k.steps.length := ⟨n.toNat, by omega, by omega⟩
   obtain ⟨b, off, rfl, hbs, c0, c1⟩ := RdSteps.ne (Rd.oldB HR.out HB.out (by simp)) hi
   have hi' : (i : Int) < k.steps.length := by omega
   have w1 : IntKind.i64.wrap ((i : Int) + 1) = (i : Int) + 1 := IntWalk.i64_in _ (by omega)
   have Hin2 := hid (life_in HK.out hi)
   have Hin := hid (show ¬ inb (i : Int) 0 ((k.steps.length : Int) - 1) = false by rw [(inb_iff _ _ _).2 ⟨by omega, by omega⟩]; decide)
   ·skip
    have cb4_0 := kb4.cell 0 rfl
    have cb4_1 := kb4.cell 1 rfl
    refine regionR_F [] [] [9] [.q [], .q [], .q [], .q [], .q [], .q [], .q [], .q [], .q [], .a] [?v12_0, ?v12_1, ?v12_2, ?v12_3, ?v12_4, ?v12_5, ?v12_6, ?v12_7, ?v12_8, ?v12_9] [fun _ => [], fun _ => [], fun _ => [], fun _ => [], fun _ => [], fun _ => [], fun _ => [], fun _ => [], fun _ => [], ?c12_9] (by kernel_rfl) (by kernel_rfl) (by kernel_rfl) (by kernel_rfl) (by kernel_rfl) (by first | exact List.nodup_nil | exact List.nodup_singleton _ | (simp; done) | (simp; omega)) bc_nil ?walk12 ?dep12
    case walk12 =>
     refine rq ?_
     refine rq ?_
     refine rq ?_
     refine rq ?_
     refine rq ?_
     refine rq ?_
     refine rq ?_
     refine rq ?_
     refine rq ?_
     refine walkR_a (by rfl) (fun X hX wq hwq hsq => ?_) ?_
     · go_simp
       refine newB_mk ?_ ?_
       · rfl
       · rfl
     refine walkR_nil (fun X hX w17 hwz hcz => ?_)
     have ka9 := hcz 9 (by simp)
     simp only [updC_some, updC_none, Nat.reduceEqDiff, ↓reduceIte] at ka9
     have la9 := hX.lo 9 rfl
     clear hX hcz
     generalize X 9 = J9 at *
     (try clear X)
     skip
     have hb18 := hwz.unDrew; clear hwz
     have gJ := HB.out.size
     replace la9 : w6.heap.size ≤ J9 := la9
     have ob2_J9 : B2 < J9 := by have := qb2; omega
     have ob4_J9 : B4 < J9 := by have := qb4; omega
     clear cb2_0 cb2_1 cb2_2 cb2_3 cb4_0 cb4_1
     clear qb2 qb4
     replace kb2 := kb2.oldB hb18 (by first | (simp; done) | (simp; omega))
     replace kb4 := kb4.oldB hb18 (by first | (simp; done) | (simp; omega))
     replace HB := hid (HB.out.more hb18 (by simp; try omega))
     clear hb18
     have qb2 := kb2.1
     have qb4 := kb4.1
     have gb7 : w.heap.size ≤ J9 := by omega
     have kb7 := ka9
     clear ka9
     have qb7 := kb7.1
     have cb7_0 := kb7.cell 0 rfl
     have cb7_1 := kb7.cell 1 rfl
     have zb7 := kb7.2.2
     refine pl ?_
     refine listF_absw (fun w19 hw' => ?_)
     have kb7' := cells_of hw' (Cells.set (i := 1) (Cells.set (i := 0) (kb7)))
     (try simp only [vC, List.set_cons_zero, List.set_cons_succ] at kb7')
     have hb20 : OldB [J9] w17 w19 := oldset hw'
     clear hw'
     clear cb7_0 cb7_1 zb7
     clear qb2 qb4 qb7
     replace kb7 := kb7'
     replace kb2 := kb2.oldB hb20 (by first | (simp; done) | (simp; omega))
     replace kb4 := kb4.oldB hb20 (by first | (simp; done) | (simp; omega))
     replace HB := hid (HB.out.more hb20 (by simp; try omega))
     clear hb20
     have qb2 := kb2.1
     have qb4 := kb4.1
     have qb7 := kb7.1
     clear kb7'
     refine listF_abs (fun s21 hs' => ?_)
     replace sl1 := gs 1 hs' sl1; replace sl2 := gs 2 hs' sl2; replace sl4 := gs 4 hs' sl4; have sl7 := gu 7 hs'; clear hs' sl6 sl22
     refine listF_nil ?_
     repeat ((fail_if_success refine stp ?_); with_reducible go_step)
     refine region_F ?_
     refine pl ?_
     refine pl ?_
     refine pl ?_
     have cb2_0 := kb2.cell 0 rfl
     have cb2_1 := kb2.cell 1 rfl
     have cb2_2 := kb2.cell 2 rfl
     have cb2_3 := kb2.cell 3 rfl
     refine pl ?_
     refine pl ?_
     refine pl ?_
     refine listF_abs (fun s22 hs' => ?_)
     replace sl1 := gs 1 hs' sl1; replace sl2 := gs 2 hs' sl2; replace sl4 := gs 4 hs' sl4; replace sl7 := gs 7 hs' sl7; have sl39 := gu 39 hs'; clear hs'
     refine listF_nil ?_
     repeat ((fail_if_success refine stp ?_); with_reducible go_step)
     refine cond_E sl39 (by decide) ?_ ?_ <;> (clear sl39; intro h39 sl39)
     ·skip
      have h42' : i + 1 < k.steps.length := by simp at h39; omega
      obtain ⟨hbs2, c2, c3⟩ := RdSteps.get (Rd.oldB HR.out HB.out (by simp)) h42'
      have hbJ : ¬ b = J9 := by omega
      obtain ⟨hvo, hnd⟩ := needed_at HK.out h42'
      have Hvo := hid hvo
      have Hnd := hid hnd
      have h42i : (i : Int) + 1 < k.steps.length := by omega
      have e1 : ((i : Int) + 1).toNat = i + 1 := by omega
      clear hvo hnd
      have Hls := hid (show lifeSpan k i = ⟨k.steps[i].need, min k.new (k.steps[i + 1].need - 1)⟩ by unfold lifeSpan; rw [if_pos h42', getD_get hi, getD_get h42'])
      obtain ⟨hnd1, hnd2⟩ := (HK.out.st (i + 1) h42').2
      have wnd : IntKind.i64.wrap (k.steps[i + 1].need - 1) = k.steps[i + 1].need - 1 := IntWalk.i64_in _ (by omega)
      repeat ((fail_if_success refine stp ?_); with_reducible go_step)
      have cb4_0 := kb4.cell 0 rfl
      have cb4_1 := kb4.cell 1 rfl
      have cb7_0 := kb7.cell 0 rfl
      have cb7_1 := kb7.cell 1 rfl
      have nb2_b7 : ¬ B2 = J9 := by omega
      have nb4_b7 : ¬ B4 = J9 := by omega
      refine regionR_F [J9] [[.int .i64 k.steps[i].need, .int .i64 k.new]] [13] [.q [], .q [], .q [], .q [], .q [], .q [], .q [], .q [], .q [], .q []] [?v13_0, ?v13_1, ?v13_2, ?v13_3, ?v13_4, ?v13_5, ?v13_6, ?v13_7, ?v13_8, ?v13_9] [fun _ => [], fun _ => [], fun _ => [], fun _ => [], fun _ => [], fun _ => [], fun _ => [], fun _ => [], fun _ => [], fun _ => []] (by kernel_rfl) (by kernel_rfl) (by kernel_rfl) (by kernel_rfl) (by kernel_rfl) (by first | exact List.nodup_nil | exact List.nodup_singleton _ | (simp; done) | (simp; omega)) (bc_cons (by repeat (first | (with_reducible exact kb7) | (with_reducible refine Cells.drew ?_) | (with_reducible refine Cells.up ?_ _) | (with_reducible refine Cells.setFar ?_ (by omega)))) bc_nil) ?walk13 ?dep13
      case walk13 =>
       refine rq ?_
       refine rq ?_
       refine rq ?_
       refine rq ?_
       refine rq ?_
       refine rq ?_
       refine rq ?_
       refine rq ?_
       refine rq ?_
       refine rq ?_
       refine walkR_nil (fun X hX w23 hwz hcz => ?_)
       have kz0 := hcz 13 (by simp)
       rw [show X 13 = J9 from hX.at0 0 _ rfl] at kz0
       replace kz0 : Cells w23 J9 [.int .i64 k.steps[i].need, .int .i64 k.new] := kz0
       clear hX hcz
       (try clear X)
       clear nb2_b7 nb4_b7
       have hb24 := hwz.unDrew; clear hwz
       (try simp only [vC, List.set_cons_zero, List.set_cons_succ] at kz0)
       clear cb2_0 cb2_1 cb2_2 cb2_3 cb4_0 cb4_1 cb7_0 cb7_1
       clear qb2 qb4 qb7
       replace kb7 := kz0
       replace kb2 := kb2.oldB hb24 (by first | (simp; done) | (simp; omega))
       replace kb4 := kb4.oldB hb24 (by first | (simp; done) | (simp; omega))
       replace HB := hid (HB.out.more hb24 (by simp; try omega))
       clear hb24
       have qb2 := kb2.1
       have qb4 := kb4.1
       have qb7 := kb7.1
       clear kz0
       refine pl ?_
       refine pl ?_
       have cb7_0 := kb7.cell 0 rfl
       have cb7_1 := kb7.cell 1 rfl
       have zb7 := kb7.2.2
       refine pl ?_
       refine listF_absw (fun w25 hw' => ?_)
       have kb7' := cells_of hw' (Cells.set (i := 1) (kb7))
       (try simp only [vC, List.set_cons_zero, List.set_cons_succ] at kb7')
       have hb26 : OldB [J9] w23 w25 := oldset hw'
       clear hw'
       clear cb7_0 cb7_1 zb7
       clear qb2 qb4 qb7
       replace kb7 := kb7'
       replace kb2 := kb2.oldB hb26 (by first | (simp; done) | (simp; omega))
       replace kb4 := kb4.oldB hb26 (by first | (simp; done) | (simp; omega))
       replace HB := hid (HB.out.more hb26 (by simp; try omega))
       clear hb26
       have qb2 := kb2.1
       have qb4 := kb4.1
       have qb7 := kb7.1
       clear kb7'
       refine listF_abs (fun s27 hs' => ?_)
       replace sl2 := gs 2 hs' sl2; replace sl4 := gs 4 hs' sl4; replace sl7 := gs 7 hs' sl7; clear hs' sl1 sl39
       refine listF_nil ?_
       repeat ((fail_if_success refine stp ?_); with_reducible go_step)
       have ekm : (if k.steps[i + 1].need - 1 < k.new then k.steps[i + 1].need - 1 else k.new) = min k.new (k.steps[i + 1].need - 1) := by omega
       replace kb7 : Cells w25 J9 [.int .i64 (lifeSpan k i).lo, .int .i64 (lifeSpan k i).hi] := by rw [Hls.out]; have h9 := kb7; simp only [wnd, ekm] at h9; exact h9
       ·skip
        refine region_F ?_
        refine pl ?_
        have cb7_0 := kb7.cell 0 rfl
        have cb7_1 := kb7.cell 1 rfl
        refine pl ?_
        refine pl ?_
        refine pl ?_
        refine pl ?_
        refine listF_abs (fun s28 hs' => ?_)
        replace sl2 := gs 2 hs' sl2; replace sl4 := gs 4 hs' sl4; replace sl7 := gs 7 hs' sl7; have sl56 := gu 56 hs'; clear hs'
        refine listF_nil ?_
        repeat ((fail_if_success refine stp ?_); with_reducible go_step)
        refine cond_E sl56 (by decide) ?_ ?_ <;> (clear sl56; intro h56 sl56)
        ·skip
         have h65' : (lifeSpan k i).hi < (lifeSpan k i).lo := by simpa using h56
         repeat ((fail_if_success refine stp ?_); with_reducible go_step)
         refine region_F ?_
         refine pl ?_
         have cb4_0 := kb4.cell 0 rfl
         have cb4_1 := kb4.cell 1 rfl
         have zb4 := kb4.2.2
         refine pl ?_
         refine listF_absw (fun w29 hw' => ?_)
         have kb4' := cells_of hw' (Cells.set (i := 1) (Cells.set (i := 0) (kb4)))
         (try simp only [vC, List.set_cons_zero, List.set_cons_succ] at kb4')
         have hb30 : OldB [B4] w25 w29 := oldset hw'
         clear hw'
         clear cb4_0 cb4_1 cb7_0 cb7_1 zb4
         clear qb2 qb4 qb7
         replace kb4 := kb4'
         replace kb2 := kb2.oldB hb30 (by first | (simp; done) | (simp; omega))
         replace kb7 := kb7.oldB hb30 (by first | (simp; done) | (simp; omega))
         replace HB := hid (HB.out.more hb30 (by simp; try omega))
         clear hb30
         have qb2 := kb2.1
         have qb4 := kb4.1
         have qb7 := kb7.1
         clear kb4'
         refine pl ?_
         refine listF_abs (fun s31 hs' => ?_)
         replace sl4 := gs 4 hs' sl4; have sl5 := gu 5 hs'; clear hs' sl2 sl7 sl56
         refine listF_nil ?_
         repeat ((fail_if_success refine stp ?_); with_reducible go_step)
         have cb4_0 := kb4.cell 0 rfl
         have cb4_1 := kb4.cell 1 rfl
         refine ret_F _ (res_ct Try.results30 ((getD_F (by decide)).trans sl4) (load_t37 cb4_0 cb4_1) ((getD_F (by decide)).trans sl5)) ?_
         have Hr := hid (show lifeRes k (i : Int) = (Fail.zero, 9) by unfold lifeRes; rw [if_neg (by simp [He.out]), if_neg Hin.out]; simp only [Int.toNat_natCast]; exact if_pos h65')
         exact ⟨by first | (rw [Hr.out]; done) | (rw [Hr.out]; rfl), HB.out.toBelow⟩
        ·skip
         have h65' : ¬ (lifeSpan k i).hi < (lifeSpan k i).lo := by simpa using h56
         repeat ((fail_if_success refine stp ?_); with_reducible go_step)
         refine region_F ?_
         have cb2_0 := kb2.cell 0 rfl
         have cb2_1 := kb2.cell 1 rfl
         have cb2_2 := kb2.cell 2 rfl
         have cb2_3 := kb2.cell 3 rfl
         refine pl ?_
         refine pl ?_
         refine listF_step rfl (fun K' hK => ?_); unfold opF; go_simp
         refine (rfails_any k _ c (lifeSpan k i) 0 _ (Rd.oldB HR.out HB.out (by simp)) HK.out Hin2.out (by omega)).mono ?_; rintro e w32 ⟨rfl, hb33⟩
         refine ⟨_, rfl, hK _ _ ?_⟩; clear hK K'
         clear cb2_0 cb2_1 cb2_2 cb2_3 cb7_0 cb7_1
         clear qb2 qb4 qb7
         replace kb2 := kb2.at hb33
         replace kb4 := kb4.at hb33
         replace kb7 := kb7.at hb33
         replace HB := hid (HB.out.below hb33)
         clear hb33
         have qb2 := kb2.1
         have qb4 := kb4.1
         have qb7 := kb7.1
         have cb4_0 := kb4.cell 0 rfl
         have cb4_1 := kb4.cell 1 rfl
         have zb4 := kb4.2.2
         refine pl ?_
         refine listF_absw (fun w34 hw' => ?_)
         have kb4' := cells_of hw' (Cells.set (i := 1) (Cells.set (i := 0) (kb4)))
         (try simp only [vC, List.set_cons_zero, List.set_cons_succ] at kb4')
         have hb35 : OldB [B4] w32 w34 := oldset hw'
         clear hw'
         clear cb4_0 cb4_1 zb4
         clear qb2 qb4 qb7
         replace kb4 := kb4'
         replace kb2 := kb2.oldB hb35 (by first | (simp; done) | (simp; omega))
         replace kb7 := kb7.oldB hb35 (by first | (simp; done) | (simp; omega))
         replace HB := hid (HB.out.more hb35 (by simp; try omega))
         clear hb35
         have qb2 := kb2.1
         have qb4 := kb4.1
         have qb7 := kb7.1
         clear kb4'
         refine pl ?_
         refine listF_abs (fun s36 hs' => ?_)
         replace sl4 := gs 4 hs' sl4; have sl5 := gu 5 hs'; clear hs' sl2 sl7 sl56
         refine listF_nil ?_
         repeat ((fail_if_success refine stp ?_); with_reducible go_step)
         have cb4_0 := kb4.cell 0 rfl
         have cb4_1 := kb4.cell 1 rfl
         refine ret_F _ (res_ct Try.results30 ((getD_F (by decide)).trans sl4) (load_t37 cb4_0 cb4_1) ((getD_F (by decide)).trans sl5)) ?_
         have Hr := hid (show lifeRes k (i : Int) = (failsOf k (lifeSpan k i) 0, 0) by unfold lifeRes; rw [if_neg (by simp [He.out]), if_neg Hin.out]; simp only [Int.toNat_natCast]; exact if_neg h65')
         exact ⟨by first | (rw [Hr.out]; done) | (rw [Hr.out]; rfl), HB.out.toBelow⟩
      case dep13 =>
        refine dR ?_
        refine dR ?_
        refine dR ?_
        refine dR ?_
        refine dR ?_
        refine dR ?_
        refine dR ?_
        refine dR ?_
        refine dR ?_
        refine dR ?_
        exact depR_nil
     ·skip
      have h42' : ¬ i + 1 < k.steps.length := by simp at h39; omega
      have Hls := hid (show lifeSpan k i = ⟨k.steps[i].need, k.new⟩ by unfold lifeSpan; rw [if_neg h42', getD_get hi])
      replace kb7 : Cells w19 J9 [.int .i64 (lifeSpan k i).lo, .int .i64 (lifeSpan k i).hi] := by rw [Hls.out]; exact kb7
      repeat ((fail_if_success refine stp ?_); with_reducible go_step)
      refine region_F ?_
      refine pl ?_
      have cb7_0 := kb7.cell 0 rfl
      have cb7_1 := kb7.cell 1 rfl
      refine pl ?_
      refine pl ?_
      refine pl ?_
      refine pl ?_
      refine listF_abs (fun s37 hs' => ?_)
      replace sl2 := gs 2 hs' sl2; replace sl4 := gs 4 hs' sl4; replace sl7 := gs 7 hs' sl7; have sl56 := gu 56 hs'; clear hs' sl1 sl39
      refine listF_nil ?_
      repeat ((fail_if_success refine stp ?_); with_reducible go_step)
      refine cond_E sl56 (by decide) ?_ ?_ <;> (clear sl56; intro h56 sl56)
      ·skip
       have h65' : (lifeSpan k i).hi < (lifeSpan k i).lo := by simpa using h56
       repeat ((fail_if_success refine stp ?_); with_reducible go_step)
       refine region_F ?_
       refine pl ?_
       have cb4_0 := kb4.cell 0 rfl
       have cb4_1 := kb4.cell 1 rfl
       have zb4 := kb4.2.2
       refine pl ?_
       refine listF_absw (fun w38 hw' => ?_)
       have kb4' := cells_of hw' (Cells.set (i := 1) (Cells.set (i := 0) (kb4)))
       (try simp only [vC, List.set_cons_zero, List.set_cons_succ] at kb4')
       have hb39 : OldB [B4] w19 w38 := oldset hw'
       clear hw'
       clear cb2_0 cb2_1 cb2_2 cb2_3 cb4_0 cb4_1 cb7_0 cb7_1 zb4
       clear qb2 qb4 qb7
       replace kb4 := kb4'
       replace kb2 := kb2.oldB hb39 (by first | (simp; done) | (simp; omega))
       replace kb7 := kb7.oldB hb39 (by first | (simp; done) | (simp; omega))
       replace HB := hid (HB.out.more hb39 (by simp; try omega))
       clear hb39
       have qb2 := kb2.1
       have qb4 := kb4.1
       have qb7 := kb7.1
       clear kb4'
       refine pl ?_
       refine listF_abs (fun s40 hs' => ?_)
       replace sl4 := gs 4 hs' sl4; have sl5 := gu 5 hs'; clear hs' sl2 sl7 sl56
       refine listF_nil ?_
       repeat ((fail_if_success refine stp ?_); with_reducible go_step)
       have cb4_0 := kb4.cell 0 rfl
       have cb4_1 := kb4.cell 1 rfl
       refine ret_F _ (res_ct Try.results30 ((getD_F (by decide)).trans sl4) (load_t37 cb4_0 cb4_1) ((getD_F (by decide)).trans sl5)) ?_
       have Hr := hid (show lifeRes k (i : Int) = (Fail.zero, 9) by unfold lifeRes; rw [if_neg (by simp [He.out]), if_neg Hin.out]; simp only [Int.toNat_natCast]; exact if_pos h65')
       exact ⟨by first | (rw [Hr.out]; done) | (rw [Hr.out]; rfl), HB.out.toBelow⟩
      ·skip
       have h65' : ¬ (lifeSpan k i).hi < (lifeSpan k i).lo := by simpa using h56
       repeat ((fail_if_success refine stp ?_); with_reducible go_step)
       refine region_F ?_
       refine pl ?_
       refine pl ?_
       refine listF_step rfl (fun K' hK => ?_); unfold opF; go_simp
       refine (rfails_any k _ c (lifeSpan k i) 0 _ (Rd.oldB HR.out HB.out (by simp)) HK.out Hin2.out (by omega)).mono ?_; rintro e w41 ⟨rfl, hb42⟩
       refine ⟨_, rfl, hK _ _ ?_⟩; clear hK K'
       clear cb2_0 cb2_1 cb2_2 cb2_3 cb7_0 cb7_1
       clear qb2 qb4 qb7
       replace kb2 := kb2.at hb42
       replace kb4 := kb4.at hb42
       replace kb7 := kb7.at hb42
       replace HB := hid (HB.out.below hb42)
       clear hb42
       have qb2 := kb2.1
       have qb4 := kb4.1
       have qb7 := kb7.1
       have cb4_0 := kb4.cell 0 rfl
       have cb4_1 := kb4.cell 1 rfl
       have zb4 := kb4.2.2
       refine pl ?_
       refine listF_absw (fun w43 hw' => ?_)
       have kb4' := cells_of hw' (Cells.set (i := 1) (Cells.set (i := 0) (kb4)))
       (try simp only [vC, List.set_cons_zero, List.set_cons_succ] at kb4')
       have hb44 : OldB [B4] w41 w43 := oldset hw'
       clear hw'
       clear cb4_0 cb4_1 zb4
       clear qb2 qb4 qb7
       replace kb4 := kb4'
       replace kb2 := kb2.oldB hb44 (by first | (simp; done) | (simp; omega))
       replace kb7 := kb7.oldB hb44 (by first | (simp; done) | (simp; omega))
       replace HB := hid (HB.out.more hb44 (by simp; try omega))
       clear hb44
       have qb2 := kb2.1
       have qb4 := kb4.1
       have qb7 := kb7.1
       clear kb4'
       refine pl ?_
       refine listF_abs (fun s45 hs' => ?_)
       replace sl4 := gs 4 hs' sl4; have sl5 := gu 5 hs'; clear hs' sl2 sl7 sl56
       refine listF_nil ?_
       repeat ((fail_if_success refine stp ?_); with_reducible go_step)
       have cb4_0 := kb4.cell 0 rfl
       have cb4_1 := kb4.cell 1 rfl
       refine ret_F _ (res_ct Try.results30 ((getD_F (by decide)).trans sl4) (load_t37 cb4_0 cb4_1) ((getD_F (by decide)).trans sl5)) ?_
       have Hr := hid (show lifeRes k (i : Int) = (failsOf k (lifeSpan k i) 0, 0) by unfold lifeRes; rw [if_neg (by simp [He.out]), if_neg Hin.out]; simp only [Int.toNat_natCast]; exact if_neg h65')
       exact ⟨by first | (rw [Hr.out]; done) | (rw [Hr.out]; rfl), HB.out.toBelow⟩
    case dep12 =>
      refine dR ?_
      refine dR ?_
      refine dR ?_
      refine dR ?_
      refine dR ?_
      refine dR ?_
      refine dR ?_
      refine dR ?_
      refine dR ?_
      refine depR_cons (fun X X' h => ?_) ?_
      · (first | exact ⟨rfl, rfl⟩ | (have e9 := h 9 (by decide +kernel); constructor <;> (first | rfl | (simp only [e9]))))
      exact depR_nil
 ·skip
  have He := hid he
  have he1 : (kdErr k == 0) = false := by simp [he]
  have he2 : (kdErr k != 0) = true := by simp [he]
  clear he
  refine region_F ?_
  refine pl ?_
  refine pl ?_
  refine pl ?_
  refine pn false ?_
  refine pn false ?_
  refine pn false ?_
  refine pn false ?_
  have wl : IntKind.i64.wrap ((k.steps.length : Int) - 1) = (k.steps.length : Int) - 1 := IntWalk.i64_in _ (by omega)
  refine pn false ?_
  refine pn false ?_
  refine pn false ?_
  refine pl ?_
  refine listF_abs (fun s46 hs' => ?_)
  replace sl1 := gs 1 hs' sl1; replace sl2 := gs 2 hs' sl2; replace sl4 := gs 4 hs' sl4; replace sl6 := gs 6 hs' sl6; have sl20 := gu 20 hs'; clear hs'
  refine listF_nil ?_
  repeat ((fail_if_success refine stp ?_); with_reducible go_step)
  refine cond_f ?_
  repeat ((fail_if_success refine stp ?_); with_reducible go_step)
  refine region_F ?_
  refine pl ?_
  refine pl ?_
  refine listF_abs (fun s47 hs' => ?_)
  replace sl1 := gs 1 hs' sl1; replace sl2 := gs 2 hs' sl2; replace sl4 := gs 4 hs' sl4; replace sl6 := gs 6 hs' sl6; have sl22 := gu 22 hs'; clear hs' sl20
  refine listF_nil ?_
  repeat ((fail_if_success refine stp ?_); with_reducible go_step)
  refine cond_t ?_
  repeat ((fail_if_success refine stp ?_); with_reducible go_step)
  refine region_F ?_
  refine pl ?_
  refine pl ?_
  have cb4_0 := kb4.cell 0 rfl
  have cb4_1 := kb4.cell 1 rfl
  have zb4 := kb4.2.2
  refine pl ?_
  refine listF_absw (fun w48 hw' => ?_)
  have kb4' := cells_of hw' (Cells.set (i := 1) (Cells.set (i := 0) (kb4)))
  (try simp only [vC, List.set_cons_zero, List.set_cons_succ] at kb4')
  have hb49 : OldB [B4] w6 w48 := oldset hw'
  clear hw'
  clear cb4_0 cb4_1 zb4
  clear qb2 qb4
  replace kb4 := kb4'
  replace kb2 := kb2.oldB hb49 (by first | (simp; done) | (simp; omega))
  replace HB := hid (HB.out.more hb49 (by simp; try omega))
  clear hb49
  have qb2 := kb2.1
  have qb4 := kb4.1
  clear kb4'
  refine pl ?_
  refine listF_abs (fun s50 hs' => ?_)
  replace sl4 := gs 4 hs' sl4; have sl5 := gu 5 hs'; clear hs' sl1 sl2 sl6 sl22
  refine listF_nil ?_
  repeat ((fail_if_success refine stp ?_); with_reducible go_step)
  have cb4_0 := kb4.cell 0 rfl
  have cb4_1 := kb4.cell 1 rfl
  refine ret_F _ (res_ct Try.results30 ((getD_F (by decide)).trans sl4) (load_t37 cb4_0 cb4_1) ((getD_F (by decide)).trans sl5)) ?_
  exact ⟨by unfold lifeRes; rw [if_pos He.out]; rfl, HB.out.toBelow⟩

end Go.Proofs.Ytndcmmghgljinaa
