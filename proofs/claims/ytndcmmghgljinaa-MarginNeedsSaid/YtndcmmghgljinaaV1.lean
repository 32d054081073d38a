/- MarginNeeds. -/
import Derived.Test.YtndcmmghgljinaaW43
import Derived.Test.YtndcmmghgljinaaW5
import Derived.Test.YtndcmmghgljinaaR2
set_option linter.all false
namespace Go.Proofs.Ytndcmmghgljinaa
open Go.RowKit

set_option maxRecDepth 100000 in
set_option maxHeartbeats 8000000 in
theorem needs_walk (k : Kd) (a : Option Addr) (c : Nat) (v : Int) (w : World) (hK0 : KdIn w k a) :
    Calls Try.prog 3 #[.agg #[.int .i64 k.new, .int .i64 k.wear.lo, .int .i64 k.wear.hi, .slice a k.steps.length c], .int .i64 v] w (fun e w' => e = .returned (.bool true) ∧ Below w.heap.size w w') := by
 have HR := hid hK0.2.2
 have hN := hK0.1
 have hsl := hK0.2.1
 clear hK0
 refine enter_F Try.func3 rfl Try.ntmps3 (by simp) ?_
 intro s0 hs
 have sl0 : s0 0 = .agg #[.int .i64 k.new, .int .i64 k.wear.lo, .int .i64 k.wear.hi, .slice a k.steps.length c] := hs 0 (by simp)
 have sl1 : s0 1 = .int .i64 v := hs 1 (by simp)
 clear hs
 have HB := hid (OldB.refl [] w)
 repeat ((fail_if_success refine stp ?_); with_reducible go_step)
 refine region_F ?_
 refine pa (fun w1 B2 hB kb2' hb2 => ?_)
 have gb2 := HB.out.gB hB
 have eb2 := eB hB; clear hB
 replace HB := hid (HB.out.below hb2)
 clear hb2
 have kb2 := kb2'
 clear kb2'
 have qb2 := kb2.1
 refine pl ?_
 refine listF_abs (fun s3 hs' => ?_)
 replace sl1 := gs 1 hs' sl1; have sl2 := gu 2 hs'; clear hs' sl0
 refine listF_nil ?_
 repeat ((fail_if_success refine stp ?_); with_reducible go_step)
 refine region_F ?_
 have cb2_0 := kb2.cell 0 rfl
 have cb2_1 := kb2.cell 1 rfl
 have cb2_2 := kb2.cell 2 rfl
 have cb2_3 := kb2.cell 3 rfl
 refine pl ?_
 refine pl ?_
 refine listF_step rfl (fun K' hK => ?_); unfold opF; go_simp
 refine (qneed_any k a c v _ hN hsl (Rd.oldB HR.out HB.out (by simp))).mono ?_; rintro e w4 ⟨rfl, hb5⟩
 refine ⟨_, rfl, hK _ _ ?_⟩; clear hK K'
 clear cb2_0 cb2_1 cb2_2 cb2_3
 clear qb2
 replace kb2 := kb2.at hb5
 replace HB := hid (HB.out.below hb5)
 clear hb5
 have qb2 := kb2.1
 refine pl ?_
 refine pl ?_
 refine pl ?_
 refine pl ?_
 refine pl ?_
 refine listF_abs (fun s6 hs' => ?_)
 replace sl1 := gs 1 hs' sl1; replace sl2 := gs 2 hs' sl2; have sl5 := gu 5 hs'; have sl6 := gu 6 hs'; clear hs'
 refine listF_nil ?_
 repeat ((fail_if_success refine stp ?_); with_reducible go_step)
 refine region_F ?_
 have cb2_0 := kb2.cell 0 rfl
 have cb2_1 := kb2.cell 1 rfl
 have cb2_2 := kb2.cell 2 rfl
 have cb2_3 := kb2.cell 3 rfl
 refine pl ?_
 refine pl ?_
 refine listF_step rfl (fun K' hK => ?_); unfold opF; go_simp
 refine (rneed_any k a c v _ hsl (Rd.oldB HR.out HB.out (by simp))).mono ?_; rintro e w7 ⟨rfl, hb8⟩
 refine ⟨_, rfl, hK _ _ ?_⟩; clear hK K'
 clear cb2_0 cb2_1 cb2_2 cb2_3
 clear qb2
 replace kb2 := kb2.at hb8
 replace HB := hid (HB.out.below hb8)
 clear hb8
 have qb2 := kb2.1
 refine pl ?_
 refine pl ?_
 refine pl ?_
 refine pl ?_
 refine pl ?_
 refine listF_abs (fun s9 hs' => ?_)
 replace sl2 := gs 2 hs' sl2; replace sl5 := gs 5 hs' sl5; replace sl6 := gs 6 hs' sl6; have sl7 := gu 7 hs'; have sl8 := gu 8 hs'; clear hs' sl1
 refine listF_nil ?_
 repeat ((fail_if_success refine stp ?_); with_reducible go_step)
 have cb2_0 := kb2.cell 0 rfl
 have cb2_1 := kb2.cell 1 rfl
 have cb2_2 := kb2.cell 2 rfl
 have cb2_3 := kb2.cell 3 rfl
 refine regionR_F [] [] [] [.q [], .q [], .q [], .q [], .q [], .q [], .q [], .q [], .q [], .q [], .q [], .q [], .q [], .q [], .q [], .q [], .q []] [?v17_0, ?v17_1, ?v17_2, ?v17_3, ?v17_4, ?v17_5, ?v17_6, ?v17_7, ?v17_8, ?v17_9, ?v17_10, ?v17_11, ?v17_12, ?v17_13, ?v17_14, ?v17_15, ?v17_16] [fun _ => [], fun _ => [], fun _ => [], fun _ => [], fun _ => [], fun _ => [], fun _ => [], fun _ => [], fun _ => [], fun _ => [], fun _ => [], fun _ => [], fun _ => [], fun _ => [], fun _ => [], fun _ => [], fun _ => []] (by kernel_rfl) (by kernel_rfl) (by kernel_rfl) (by kernel_rfl) (by kernel_rfl) (by first | exact List.nodup_nil | exact List.nodup_singleton _ | (simp; done) | (simp; omega)) bc_nil ?walk17 ?dep17
 case walk17 =>
  refine rq ?_
  refine walkR_q (by rfl) (fun X hX wq hwq hrq => ?_) ?_
  · obtain ⟨hcq, hfq⟩ := hwq.b0
    clear hrq
    go_simp
    (with_reducible exact (kcheck_any k a c _ hN hsl (Rd.oldB HR.out (HB.out.more hwq.unDrew (by simp; try omega)) (by simp))))
  refine rq ?_
  refine walkR_q (by rfl) (fun X hX wq hwq hrq => ?_) ?_
  · obtain ⟨hcq, hfq⟩ := hwq.b0
    clear hrq
    go_simp
    (with_reducible exact (rcheck_any k a c _ hsl (Rd.oldB HR.out (HB.out.more hwq.unDrew (by simp; try omega)) (by simp))))
  refine rq ?_
  refine rq ?_
  refine rqy ?_
  refine rqy ?_
  refine rqy ?_
  refine rq ?_
  refine rq ?_
  refine rqy ?_
  refine rqy ?_
  refine rqy ?_
  refine rq ?_
  refine rq ?_
  refine walkR_qg (by rfl) (by rfl) (by decide) (fun X hX => ?_) (fun X hX wq hwq hrq => ?_) ?_
  · go_simp
  · obtain ⟨hcq, hfq⟩ := hwq.b0
    clear hrq
    go_simp
    (with_reducible exact (awake_any _))
  refine walkR_nil (fun X hX w10 hwz hcz => ?_)
  clear hX hcz
  (try clear X)
  skip
  have hb11 := hwz.unDrew; clear hwz
  clear cb2_0 cb2_1 cb2_2 cb2_3
  clear qb2
  replace kb2 := kb2.oldB hb11 (by first | (simp; done) | (simp; omega))
  replace HB := hid (HB.out.more hb11 (by simp; try omega))
  clear hb11
  have qb2 := kb2.1
  refine pl ?_
  refine pl ?_
  refine listF_abs (fun s12 hs' => ?_)
  have sl4 := gu 4 hs'; clear hs' sl2 sl5 sl6 sl7 sl8
  refine listF_nil ?_
  repeat ((fail_if_success refine stp ?_); with_reducible go_step)
  refine ret_F _ (res_t Try.results3 ((getD_F (by decide)).trans sl4)) ?_
  exact ⟨rfl, HB.out.toBelow⟩
 case dep17 =>
   refine dR ?_
   refine dR ?_
   refine dR ?_
   refine dR ?_
   refine dR ?_
   refine dR ?_
   refine dR ?_
   refine dR ?_
   refine dR ?_
   refine dR ?_
   refine dR ?_
   refine dR ?_
   refine dR ?_
   refine dR ?_
   refine dR ?_
   refine dR ?_
   refine dR ?_
   exact depR_nil

end Go.Proofs.Ytndcmmghgljinaa
