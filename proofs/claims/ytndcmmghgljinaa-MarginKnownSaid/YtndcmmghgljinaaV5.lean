/- MarginKnown. -/
import Derived.Test.YtndcmmghgljinaaW43
import Derived.Test.YtndcmmghgljinaaR1
set_option linter.all false
namespace Go.Proofs.Ytndcmmghgljinaa
open Go.RowKit


theorem kn_need : (needRes KND 1000).1 = 300 ∧ (needRes KND 1000).2 = 0 := by decide +kernel
theorem kn_need2 : (needRes KND 800).1 = 700 ∧ (needRes KND 800).2 = 0 := by decide +kernel
theorem kn_now : (asked KND CHS 200).1.lo = 500 ∧ (asked KND CHS 200).1.hi = 699 ∧ (asked KND CHS 200).2 = 0 := by decide +kernel
theorem kn_life : (lifeRes KND 1).1.earliest = 67 ∧ (lifeRes KND 1).1.latest = 400 ∧ (lifeRes KND 1).2 = 0 := by decide +kernel

set_option maxRecDepth 100000 in
set_option maxHeartbeats 16000000 in
theorem known_walk (w : World) :
    Calls Try.prog 8 #[] w (fun e w' => e = .returned (.bool true) ∧ Below w.heap.size w w') := by
 refine enter_F Try.func8 rfl Try.ntmps8 (by simp) ?_
 intro s0 hs; clear hs; have HB := hid (OldB.refl [] w)
 repeat ((fail_if_success refine stp ?_); with_reducible go_step)
 refine region_F ?_; refine pl ?_; refine listF_abs (fun s1 z' => ?_); clear z'; refine listF_nil ?_
 repeat ((fail_if_success refine stp ?_); with_reducible go_step)
 refine region_F ?_; refine listF_step rfl (fun K' hK => ?_); unfold opF; go_simp; refine (kind_any _).mono ?_; rintro e w2 ⟨bk1, rfl, hk1, gk1, hb3⟩; refine ⟨_, rfl, hK _ _ ?_⟩; clear hK K'; replace HB := hid (HB.out.below hb3); clear hb3; refine listF_step rfl (fun K' hK => ?_); unfold opF; go_simp; refine (qneed_any KND (some ⟨bk1, 0, none⟩) 3 1000 _ (by decide) (by decide) hk1).mono ?_; rintro e w4 ⟨rfl, hb5⟩; rw [kn_need.1, kn_need.2]; refine ⟨_, rfl, hK _ _ ?_⟩; clear hK K'; replace hk1 := Rd.at hk1 hb5; replace HB := hid (HB.out.below hb5); clear hb5; clear hk1
 iterate 5 refine pl ?_
 refine listF_abs (fun s6 z' => ?_); have sl1 := gu 1 z'; have sl2 := gu 2 z'; clear z'; refine listF_nil ?_
 repeat ((fail_if_success refine stp ?_); with_reducible go_step)
 refine region_F ?_; refine listF_step rfl (fun K' hK => ?_); unfold opF; go_simp; refine (kind_any _).mono ?_; rintro e w7 ⟨bk2, rfl, hk2, gk2, hb8⟩; refine ⟨_, rfl, hK _ _ ?_⟩; clear hK K'; replace HB := hid (HB.out.below hb8); clear hb8; refine listF_step rfl (fun K' hK => ?_); unfold opF; go_simp; refine (qneed_any KND (some ⟨bk2, 0, none⟩) 3 800 _ (by decide) (by decide) hk2).mono ?_; rintro e w9 ⟨rfl, hb10⟩; rw [kn_need2.1, kn_need2.2]; refine ⟨_, rfl, hK _ _ ?_⟩; clear hK K'; replace hk2 := Rd.at hk2 hb10; replace HB := hid (HB.out.below hb10); clear hb10; clear hk2
 iterate 5 refine pl ?_
 refine listF_abs (fun s11 z' => ?_); replace sl1 := gs 1 z' sl1; replace sl2 := gs 2 z' sl2; have sl3 := gu 3 z'; have sl4 := gu 4 z'; clear z'; refine listF_nil ?_
 repeat ((fail_if_success refine stp ?_); with_reducible go_step)
 refine region_F ?_; refine listF_step rfl (fun K' hK => ?_); unfold opF; go_simp; refine (kind_any _).mono ?_; rintro e w12 ⟨bk3, rfl, hk3, gk3, hb13⟩; refine ⟨_, rfl, hK _ _ ?_⟩; clear hK K'; replace HB := hid (HB.out.below hb13); clear hb13; refine listF_step rfl (fun K' hK => ?_); unfold opF; go_simp; refine (checks_any _).mono ?_; rintro e w14 ⟨bc3, rfl, hc3, gc3, hb15⟩; refine ⟨_, rfl, hK _ _ ?_⟩; clear hK K'; replace hk3 := Rd.at hk3 hb15; replace HB := hid (HB.out.below hb15); clear hb15; refine listF_step rfl (fun K' hK => ?_); unfold opF; go_simp; refine (qnow_any KND (some ⟨bk3, 0, none⟩) 3 (some ⟨bc3, 0, none⟩) 3 CHS 200 _ (by decide) (by decide) hk3 hc3 (by decide)).mono ?_; rintro e w16 ⟨rfl, hb17⟩; rw [kn_now.1, kn_now.2.1, kn_now.2.2]; refine ⟨_, rfl, hK _ _ ?_⟩; clear hK K'; replace hk3 := Rd.at hk3 hb17; replace hc3 := Rd.at hc3 hb17; replace HB := hid (HB.out.below hb17); clear hb17; clear hk3 hc3
 iterate 3 refine pl ?_
 refine pa (fun w18 B5 hB kb5' hb19 => ?_); have gb5 := HB.out.gB hB; have eb5 := eB hB; clear hB; replace HB := hid (HB.out.below hb19); clear hb19; have kb5 := kb5'; clear kb5'; have qb5 := kb5.1; have cb5_0 := kb5.cell 0 rfl; have cb5_1 := kb5.cell 1 rfl; have zb5 := kb5.2.2; refine pl ?_; refine listF_absw (fun w20 hw' => ?_); have kb5' := cells_of hw' (Cells.set (i := 1) (Cells.set (i := 0) (kb5)))
 (try simp only [vC, List.set_cons_zero, List.set_cons_succ] at kb5')
 have hb21 : OldB [B5] w18 w20 := oldset hw'; clear hw'; clear cb5_0 cb5_1 zb5; clear qb5; replace kb5 := kb5'; replace HB := hid (HB.out.more hb21 (by simp; try omega)); clear hb21; have qb5 := kb5.1; clear kb5'; refine pl ?_; refine listF_abs (fun s22 z' => ?_); replace sl1 := gs 1 z' sl1; replace sl2 := gs 2 z' sl2; replace sl3 := gs 3 z' sl3; replace sl4 := gs 4 z' sl4; have sl5 := gu 5 z'; have sl6 := gu 6 z'; clear z'; refine listF_nil ?_
 repeat ((fail_if_success refine stp ?_); with_reducible go_step)
 refine region_F ?_; refine listF_step rfl (fun K' hK => ?_); unfold opF; go_simp; refine (kind_any _).mono ?_; rintro e w23 ⟨bk4, rfl, hk4, gk4, hb24⟩; refine ⟨_, rfl, hK _ _ ?_⟩; clear hK K'; clear qb5; replace kb5 := kb5.at hb24; replace HB := hid (HB.out.below hb24); clear hb24; have qb5 := kb5.1; refine listF_step rfl (fun K' hK => ?_); unfold opF; go_simp; refine (qlife_any KND (some ⟨bk4, 0, none⟩) 3 1 _ (by decide) (by decide) hk4).mono ?_; rintro e w25 ⟨rfl, hb26⟩; rw [kn_life.1, kn_life.2.1, kn_life.2.2]; refine ⟨_, rfl, hK _ _ ?_⟩; clear hK K'; clear qb5; replace kb5 := kb5.at hb26; replace hk4 := Rd.at hk4 hb26; replace HB := hid (HB.out.below hb26); clear hb26; have qb5 := kb5.1; clear hk4
 iterate 3 refine pl ?_
 refine pa (fun w27 B7 hB kb7' hb28 => ?_); have gb7 := HB.out.gB hB; have ob5_b7 := oB qb5 hB; have eb7 := eB hB; clear hB; clear qb5; replace kb5 := kb5.at hb28; replace HB := hid (HB.out.below hb28); clear hb28; have qb5 := kb5.1; have kb7 := kb7'; clear kb7'; have qb7 := kb7.1; have cb7_0 := kb7.cell 0 rfl; have cb7_1 := kb7.cell 1 rfl; have zb7 := kb7.2.2; refine pl ?_; refine listF_absw (fun w29 hw' => ?_); have kb7' := cells_of hw' (Cells.set (i := 1) (Cells.set (i := 0) (kb7)))
 (try simp only [vC, List.set_cons_zero, List.set_cons_succ] at kb7')
 have hb30 : OldB [B7] w27 w29 := oldset hw'; clear hw'; clear cb7_0 cb7_1 zb7; clear qb5 qb7; replace kb7 := kb7'; replace kb5 := kb5.oldB hb30 (by first | (simp; done) | (simp; omega)); replace HB := hid (HB.out.more hb30 (by simp; try omega)); clear hb30; have qb5 := kb5.1; have qb7 := kb7.1; clear kb7'; refine pl ?_; refine listF_abs (fun s31 z' => ?_); replace sl1 := gs 1 z' sl1; replace sl2 := gs 2 z' sl2; replace sl3 := gs 3 z' sl3; replace sl4 := gs 4 z' sl4; replace sl5 := gs 5 z' sl5; replace sl6 := gs 6 z' sl6; have sl7 := gu 7 z'; have sl8 := gu 8 z'; clear z'; refine listF_nil ?_
 repeat ((fail_if_success refine stp ?_); with_reducible go_step)
 have cb5_0 := kb5.cell 0 rfl; have cb5_1 := kb5.cell 1 rfl; have cb7_0 := kb7.cell 0 rfl; have cb7_1 := kb7.cell 1 rfl; refine regionR_F [] [] [] [.q [], .q [], .q [], .q [], .q [], .q [], .q [], .q [], .q [], .q [], .q [], .q [], .q [], .q [], .q [], .q [], .q [], .q [], .q [], .q [], .q [], .q [], .q [], .q [], .q [], .q [], .q [], .q [], .q [], .q [], .q [], .q [], .q [], .q []] [?v18_0, ?v18_1, ?v18_2, ?v18_3, ?v18_4, ?v18_5, ?v18_6, ?v18_7, ?v18_8, ?v18_9, ?v18_10, ?v18_11, ?v18_12, ?v18_13, ?v18_14, ?v18_15, ?v18_16, ?v18_17, ?v18_18, ?v18_19, ?v18_20, ?v18_21, ?v18_22, ?v18_23, ?v18_24, ?v18_25, ?v18_26, ?v18_27, ?v18_28, ?v18_29, ?v18_30, ?v18_31, ?v18_32, ?v18_33] [fun _ => [], fun _ => [], fun _ => [], fun _ => [], fun _ => [], fun _ => [], fun _ => [], fun _ => [], fun _ => [], fun _ => [], fun _ => [], fun _ => [], fun _ => [], fun _ => [], fun _ => [], fun _ => [], fun _ => [], fun _ => [], fun _ => [], fun _ => [], fun _ => [], fun _ => [], fun _ => [], fun _ => [], fun _ => [], fun _ => [], fun _ => [], fun _ => [], fun _ => [], fun _ => [], fun _ => [], fun _ => [], fun _ => [], fun _ => []] (by kernel_rfl) (by kernel_rfl) (by kernel_rfl) (by kernel_rfl) (by kernel_rfl) (by first | exact List.nodup_nil | exact List.nodup_singleton _ | (simp; done) | (simp; omega)) bc_nil ?walk18 ?dep18
 case walk18 =>
  iterate 3 refine rq ?_
  refine rqy ?_; refine rqy ?_; refine rq ?_; refine rq ?_; refine rqy ?_; refine rqy ?_; refine rq ?_; refine rq ?_; refine rqy ?_; refine rqy ?_; refine rq ?_; refine rq ?_; refine rqy ?_; refine rqy ?_; refine rq ?_; refine rq ?_; refine rqy ?_; refine rqy ?_; refine rq ?_; refine rq ?_; refine rqy ?_; refine walkR_qg (by rfl) (by rfl) (by decide) (fun X hX => ?_) (fun X hX wq hwq hrq => ?_) ?_
  · go_simp
  · obtain ⟨hcq, hfq⟩ := hwq.b0
    clear hrq; go_simp
    (with_reducible exact (lspan_any 500 699 _))
  refine rqy ?_; refine rq ?_; refine rq ?_
  iterate 3 refine rqy ?_
  refine rq ?_; refine rq ?_; refine walkR_qg (by rfl) (by rfl) (by decide) (fun X hX => ?_) (fun X hX wq hwq hrq => ?_) ?_
  · go_simp
  · obtain ⟨hcq, hfq⟩ := hwq.b0
    clear hrq; go_simp
    (with_reducible exact (awake_any _))
  refine walkR_nil (fun X hX w32 hwz hcz => ?_); clear hX hcz
  (try clear X)
  skip; have hb33 := hwz.unDrew; clear hwz; clear cb5_0 cb5_1 cb7_0 cb7_1; clear qb5 qb7; replace kb5 := kb5.oldB hb33 (by first | (simp; done) | (simp; omega)); replace kb7 := kb7.oldB hb33 (by first | (simp; done) | (simp; omega)); replace HB := hid (HB.out.more hb33 (by simp; try omega)); clear hb33; have qb5 := kb5.1; have qb7 := kb7.1; refine pl ?_; refine pl ?_; refine listF_abs (fun s34 z' => ?_); have sl0 := gu 0 z'; clear z' sl1 sl2 sl3 sl4 sl5 sl6 sl7 sl8; refine listF_nil ?_
  repeat ((fail_if_success refine stp ?_); with_reducible go_step)
  refine ret_F _ (res_t Try.results8 ((getD_F (by decide)).trans sl0)) ?_; exact ⟨rfl, HB.out.toBelow⟩
 case dep18 =>
   iterate 34 refine dR ?_
   exact depR_nil

end Go.Proofs.Ytndcmmghgljinaa
