/- The reference's width. -/
import Derived.Test.YtndcmmghgljinaaW24
import Derived.Test.YtndcmmghgljinaaW17
set_option linter.all false
namespace Go.Proofs.Ytndcmmghgljinaa
open Go.RowKit

set_option maxRecDepth 100000 in
set_option maxHeartbeats 4000000 in
theorem rwidth_any (k : Kd) (a : Option Addr) (c : Nat) (s : Span) (v : Int) (w : World) (hR : RdSteps w a k.steps) (hK : KOk k) (hs : spanOk s) (hv : voltOk k v = true) :
    Calls Try.prog 58 #[.agg #[.int .i64 k.new, .int .i64 k.wear.lo, .int .i64 k.wear.hi, .slice a k.steps.length c], .agg #[.int .i64 s.lo, .int .i64 s.hi], .int .i64 v] w (fun e w' => e = .returned (.int .i64 (widthAt k s v)) ∧ Below w.heap.size w w') := by
 have HR := hid hR
 have HK := hid hK
 have Hv := hid hv
 obtain ⟨hw1, hw2⟩ := width_in hK hs hv true
 obtain ⟨hw3, hw4⟩ := width_in hK hs hv false
 clear hR hK hs hv
 have wt : IntKind.i64.wrap ((agreed k s v true).hi - (agreed k s v true).lo) = (agreed k s v true).hi - (agreed k s v true).lo := IntWalk.i64_in _ (by omega)
 have wf : IntKind.i64.wrap ((agreed k s v false).hi - (agreed k s v false).lo) = (agreed k s v false).hi - (agreed k s v false).lo := IntWalk.i64_in _ (by omega)
 refine enter_F Try.func58 rfl Try.ntmps58 (by simp) ?_
 intro s0 hs
 have sl0 : s0 0 = .agg #[.int .i64 k.new, .int .i64 k.wear.lo, .int .i64 k.wear.hi, .slice a k.steps.length c] := hs 0 (by simp)
 have sl1 : s0 1 = .agg #[.int .i64 s.lo, .int .i64 s.hi] := hs 1 (by simp)
 have sl2 : s0 2 = .int .i64 v := hs 2 (by simp)
 clear hs
 have HB := hid (OldB.refl [] w)
 repeat ((fail_if_success refine stp ?_); with_reducible go_step)
 refine region_F ?_
 refine pa (fun w1 B3 hB kb3' hb2 => ?_)
 have gb3 := HB.out.gB hB
 have eb3 := eB hB; clear hB
 replace HB := hid (HB.out.below hb2)
 clear hb2
 have kb3 := kb3'
 clear kb3'
 have qb3 := kb3.1
 refine pa (fun w3 B4 hB kb4' hb4 => ?_)
 have gb4 := HB.out.gB hB
 have ob3_b4 := oB qb3 hB
 have eb4 := eB hB; clear hB
 clear qb3
 replace kb3 := kb3.at hb4
 replace HB := hid (HB.out.below hb4)
 clear hb4
 have qb3 := kb3.1
 have kb4 := kb4'
 clear kb4'
 have qb4 := kb4.1
 refine pl ?_
 refine listF_abs (fun s5 hs' => ?_)
 replace sl2 := gs 2 hs' sl2; have sl3 := gu 3 hs'; have sl4 := gu 4 hs'; clear hs' sl0 sl1
 refine listF_nil ?_
 repeat ((fail_if_success refine stp ?_); with_reducible go_step)
 have cb3_0 := kb3.cell 0 rfl
 have cb3_1 := kb3.cell 1 rfl
 have cb3_2 := kb3.cell 2 rfl
 have cb3_3 := kb3.cell 3 rfl
 have cb4_0 := kb4.cell 0 rfl
 have cb4_1 := kb4.cell 1 rfl
 refine regionR_F [] [] [8, 9] [.q [], .q [], .q [], .q [], .q [], .q [], .q [], .q [], .a, .a] [?v11_0, ?v11_1, ?v11_2, ?v11_3, ?v11_4, ?v11_5, ?v11_6, ?v11_7, ?v11_8, ?v11_9] [fun _ => [], fun _ => [], fun _ => [], fun _ => [], fun _ => [], fun _ => [], fun _ => [], fun _ => [], ?c11_8, ?c11_9] (by kernel_rfl) (by kernel_rfl) (by kernel_rfl) (by kernel_rfl) (by kernel_rfl) (by first | exact List.nodup_nil | exact List.nodup_singleton _ | (simp; done) | (simp; omega)) bc_nil ?walk11 ?dep11
 case walk11 =>
  refine rq ?_
  refine rq ?_
  refine rq ?_
  refine walkR_q (by rfl) (fun X hX wq hwq hrq => ?_) ?_
  · obtain ⟨hcq, hfq⟩ := hwq.b0
    clear hrq
    go_simp
    (first | (with_reducible exact ragreed_any k a c s v true _ (Rd.oldB HR.out (HB.out.more hwq.unDrew (by simp)) (by simp)) HK.out Hv.out) | (with_reducible exact ragreed_any k a c s v false _ (Rd.oldB HR.out (HB.out.more hwq.unDrew (by simp)) (by simp)) HK.out Hv.out))
  refine rq ?_
  refine rq ?_
  refine rq ?_
  refine walkR_q (by rfl) (fun X hX wq hwq hrq => ?_) ?_
  · obtain ⟨hcq, hfq⟩ := hwq.b0
    clear hrq
    go_simp
    (first | (with_reducible exact ragreed_any k a c s v true _ (Rd.oldB HR.out (HB.out.more hwq.unDrew (by simp)) (by simp)) HK.out Hv.out) | (with_reducible exact ragreed_any k a c s v false _ (Rd.oldB HR.out (HB.out.more hwq.unDrew (by simp)) (by simp)) HK.out Hv.out))
  refine walkR_a (by rfl) (fun X hX wq hwq hsq => ?_) ?_
  · go_simp
    refine newB_mk ?_ ?_
    · rfl
    · rfl
  refine walkR_a (by rfl) (fun X hX wq hwq hsq => ?_) ?_
  · go_simp
    refine newB_mk ?_ ?_
    · rfl
    · rfl
  refine walkR_nil (fun X hX w6 hwz hcz => ?_)
  have ka8 := hcz 8 (by simp)
  simp only [updC_some, updC_none, Nat.reduceEqDiff, ↓reduceIte] at ka8
  have la8 := hX.lo 8 rfl
  have ln8_9 := hX.ne 8 9 rfl rfl (by decide)
  have ka9 := hcz 9 (by simp)
  simp only [updC_some, updC_none, Nat.reduceEqDiff, ↓reduceIte] at ka9
  have la9 := hX.lo 9 rfl
  clear hX hcz
  generalize X 8 = J8 at *
  generalize X 9 = J9 at *
  (try clear X)
  skip
  have hb7 := hwz.unDrew; clear hwz
  have gJ := HB.out.size
  replace la8 : w3.heap.size ≤ J8 := la8
  replace la9 : w3.heap.size ≤ J9 := la9
  have ob3_J8 : B3 < J8 := by have := qb3; omega
  have ob4_J8 : B4 < J8 := by have := qb4; omega
  have ob3_J9 : B3 < J9 := by have := qb3; omega
  have ob4_J9 : B4 < J9 := by have := qb4; omega
  clear cb3_0 cb3_1 cb3_2 cb3_3 cb4_0 cb4_1
  clear qb3 qb4
  replace kb3 := kb3.oldB hb7 (by first | (simp; done) | (simp; omega))
  replace kb4 := kb4.oldB hb7 (by first | (simp; done) | (simp; omega))
  replace HB := hid (HB.out.more hb7 (by simp; try omega))
  clear hb7
  have qb3 := kb3.1
  have qb4 := kb4.1
  have gb7 : w.heap.size ≤ J8 := by omega
  have kb7 := ka8
  clear ka8
  have qb7 := kb7.1
  have gb8 : w.heap.size ≤ J9 := by omega
  have kb8 := ka9
  clear ka9
  have qb8 := kb8.1
  have cb7_0 := kb7.cell 0 rfl
  have cb7_1 := kb7.cell 1 rfl
  have zb7 := kb7.2.2
  refine pl ?_
  refine listF_absw (fun w8 hw' => ?_)
  have kb7' := cells_of hw' (Cells.set (i := 1) (Cells.set (i := 0) (kb7)))
  (try simp only [vC, List.set_cons_zero, List.set_cons_succ] at kb7')
  have hb9 : OldB [J8] w6 w8 := oldset hw'
  clear hw'
  clear cb7_0 cb7_1 zb7
  clear qb3 qb4 qb7 qb8
  replace kb7 := kb7'
  replace kb3 := kb3.oldB hb9 (by first | (simp; done) | (simp; omega))
  replace kb4 := kb4.oldB hb9 (by first | (simp; done) | (simp; omega))
  replace kb8 := kb8.oldB hb9 (by first | (simp; done) | (simp; omega))
  replace HB := hid (HB.out.more hb9 (by simp; try omega))
  clear hb9
  have qb3 := kb3.1
  have qb4 := kb4.1
  have qb7 := kb7.1
  have qb8 := kb8.1
  clear kb7'
  have cb8_0 := kb8.cell 0 rfl
  have cb8_1 := kb8.cell 1 rfl
  have zb8 := kb8.2.2
  refine pl ?_
  refine listF_absw (fun w10 hw' => ?_)
  have kb8' := cells_of hw' (Cells.set (i := 1) (Cells.set (i := 0) (kb8)))
  (try simp only [vC, List.set_cons_zero, List.set_cons_succ] at kb8')
  have hb11 : OldB [J9] w8 w10 := oldset hw'
  clear hw'
  clear cb8_0 cb8_1 zb8
  clear qb3 qb4 qb7 qb8
  replace kb8 := kb8'
  replace kb3 := kb3.oldB hb11 (by first | (simp; done) | (simp; omega))
  replace kb4 := kb4.oldB hb11 (by first | (simp; done) | (simp; omega))
  replace kb7 := kb7.oldB hb11 (by first | (simp; done) | (simp; omega))
  replace HB := hid (HB.out.more hb11 (by simp; try omega))
  clear hb11
  have qb3 := kb3.1
  have qb4 := kb4.1
  have qb7 := kb7.1
  have qb8 := kb8.1
  clear kb8'
  refine listF_abs (fun s12 hs' => ?_)
  have sl7 := gu 7 hs'; have sl8 := gu 8 hs'; clear hs' sl2 sl3 sl4
  refine listF_nil ?_
  repeat ((fail_if_success refine stp ?_); with_reducible go_step)
  refine region_F ?_
  refine pl ?_
  have cb7_0 := kb7.cell 0 rfl
  have cb7_1 := kb7.cell 1 rfl
  refine pl ?_
  refine pl ?_
  refine pl ?_
  refine pl ?_
  refine pl ?_
  have cb8_0 := kb8.cell 0 rfl
  have cb8_1 := kb8.cell 1 rfl
  refine pl ?_
  refine pl ?_
  refine pl ?_
  refine pl ?_
  refine pl ?_
  refine pl ?_
  refine listF_abs (fun s13 hs' => ?_)
  have sl6 := gu 6 hs'; clear hs' sl7 sl8
  refine listF_nil ?_
  repeat ((fail_if_success refine stp ?_); with_reducible go_step)
  refine ret_F _ (res_t Try.results58 ((getD_F (by decide)).trans sl6)) ?_
  exact ⟨by unfold widthAt Span.width; congr 2; split <;> omega, HB.out.toBelow⟩
 case dep11 =>
   refine dR ?_
   refine dR ?_
   refine dR ?_
   refine dR ?_
   refine dR ?_
   refine dR ?_
   refine dR ?_
   refine dR ?_
   refine depR_cons (fun X X' h => ?_) ?_
   · (first | exact ⟨rfl, rfl⟩ | (have e8 := h 8 (by decide +kernel); constructor <;> (first | rfl | (simp only [e8]))))
   refine depR_cons (fun X X' h => ?_) ?_
   · (first | exact ⟨rfl, rfl⟩ | (have e9 := h 9 (by decide +kernel); constructor <;> (first | rfl | (simp only [e9]))))
   exact depR_nil

end Go.Proofs.Ytndcmmghgljinaa
