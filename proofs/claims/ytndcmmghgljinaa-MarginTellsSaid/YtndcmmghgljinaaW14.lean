/- look. -/
import Derived.Test.YtndcmmghgljinaaW13
set_option linter.all false
namespace Go.Proofs.Ytndcmmghgljinaa
open Go.RowKit

set_option maxRecDepth 100000 in
set_option maxHeartbeats 4000000 in
theorem look_any (k : Kd) (a : Option Addr) (c : Nat) (ac : Option Addr) (cc : Nat) (cs : List MCk) (h : Int) (w : World) (hN : -9223372036854775808 ≤ k.new ∧ k.new ≤ 9223372036854775807) (hsl : k.steps.length ≤ 9223372036854775807) (hR : RdSteps w a k.steps) (hRc : RdCks w ac cs) (hlc : cs.length ≤ 9223372036854775807) :
    Calls Try.prog 53 #[.agg #[.int .i64 k.new, .int .i64 k.wear.lo, .int .i64 k.wear.hi, .slice a k.steps.length c], .slice ac cs.length cc, .int .i64 h] w (LookRes k a c cs h w) := by
 have HR := hid hR; have HN := hid hN; have HRc := hid hRc; clear hR hN hRc
 refine enter_F Try.func53 rfl Try.ntmps53 (by simp) ?_
 intro s0 hs; have sl0 : s0 0 = .agg #[.int .i64 k.new, .int .i64 k.wear.lo, .int .i64 k.wear.hi, .slice a k.steps.length c] := hs 0 (by simp); have sl1 : s0 1 = .slice ac cs.length cc := hs 1 (by simp); have sl2 : s0 2 = .int .i64 h := hs 2 (by simp); clear hs; have HB := hid (OldB.refl [] w)
 repeat ((fail_if_success refine stp ?_); with_reducible go_step)
 refine region_F ?_; refine pa (fun w1 B3 hB kb3' hb2 => ?_); have gb3 := HB.out.gB hB; have eb3 := eB hB; clear hB; replace HB := hid (HB.out.below hb2); clear hb2; have kb3 := kb3'; clear kb3'; have qb3 := kb3.1; refine pl ?_; refine pl ?_; refine listF_abs (fun s3 z' => ?_); replace sl1 := gs 1 z' sl1; replace sl2 := gs 2 z' sl2; have sl3 := gu 3 z'; clear z' sl0; refine listF_nil ?_
 repeat ((fail_if_success refine stp ?_); with_reducible go_step)
 refine region_F ?_; have cb3_0 := kb3.cell 0 rfl; have cb3_1 := kb3.cell 1 rfl; have cb3_2 := kb3.cell 2 rfl; have cb3_3 := kb3.cell 3 rfl; refine pl ?_
 by_cases he : kdErr k = 0
 ·skip
  have He := hid he; have HK := hid (kok_of he); clear he; refine listF_step rfl (fun K' hK => ?_); unfold opF; go_simp; refine (open_ok k a c _ HN.out hsl (Rd.oldB HR.out HB.out (by simp)) He.out).mono ?_; rintro e w4 ⟨V, rfl, gV', hV', hb5⟩
  have gV : w.heap.size ≤ V := by have := HB.out.size; omega
  have ob3_V : B3 < V := by have := gV'; omega
  refine ⟨_, rfl, hK _ _ ?_⟩; clear hK K'; clear cb3_0 cb3_1 cb3_2 cb3_3; clear qb3; replace kb3 := kb3.at hb5; replace HB := hid (HB.out.below hb5); clear hb5; have qb3 := kb3.1; have kV := hV'; clear hV'; have qV := kV.1
  iterate 3 refine pl ?_
  refine pa (fun w6 B8 hB kb8' hb7 => ?_); have gb8 := HB.out.gB hB; have ob3_b8 := oB qb3 hB; have oV_b8 := oB qV hB; have eb8 := eB hB; clear hB; clear qb3 qV; replace kb3 := kb3.at hb7; replace kV := kV.at hb7; replace HB := hid (HB.out.below hb7); clear hb7; have qb3 := kb3.1; have qV := kV.1; have kb8 := kb8'; clear kb8'; have qb8 := kb8.1; have cb8_0 := kb8.cell 0 rfl; have zb8 := kb8.2.2; refine pl ?_; refine listF_absw (fun w8 hw' => ?_); have kb8' := cells_of hw' (Cells.set (i := 0) (kb8))
  (try simp only [vC, List.set_cons_zero, List.set_cons_succ] at kb8')
  have hb9 : OldB [B8] w6 w8 := oldset hw'; clear hw'; clear cb8_0 zb8; clear qb3 qV qb8; replace kb8 := kb8'; replace kb3 := kb3.oldB hb9 (by first | (simp; done) | (simp; omega)); replace kV := kV.oldB hb9 (by first | (simp; done) | (simp; omega)); replace HB := hid (HB.out.more hb9 (by simp; try omega)); clear hb9; have qb3 := kb3.1; have qV := kV.1; have qb8 := kb8.1; clear kb8'; refine pl ?_; refine listF_abs (fun s10 z' => ?_); replace sl1 := gs 1 z' sl1; replace sl2 := gs 2 z' sl2; have sl8 := gu 8 z'; have sl9 := gu 9 z'; clear z' sl3; refine listF_nil ?_
  repeat ((fail_if_success refine stp ?_); with_reducible go_step)
  refine region_F ?_
  iterate 3 refine pl ?_
  refine listF_abs (fun s11 z' => ?_); replace sl1 := gs 1 z' sl1; replace sl2 := gs 2 z' sl2; replace sl8 := gs 8 z' sl8; replace sl9 := gs 9 z' sl9; have sl17 := gu 17 z'; clear z'; refine listF_nil ?_
  repeat ((fail_if_success refine stp ?_); with_reducible go_step)
  refine cond_f ?_
  repeat ((fail_if_success refine stp ?_); with_reducible go_step)
  refine region_F ?_
  iterate 4 refine pl ?_
  refine listF_abs (fun s12 z' => ?_); replace sl1 := gs 1 z' sl1; replace sl2 := gs 2 z' sl2; replace sl8 := gs 8 z' sl8; have sl21 := gu 21 z'; clear z' sl9 sl17; refine listF_nil ?_
  repeat ((fail_if_success refine stp ?_); with_reducible go_step)
  refine cond_E sl21 (by decide) ?_ ?_ <;> (clear sl21; intro h21 sl21)
  ·skip
   have hl30 : 30 < cs.length := by have : (30 : Int) < cs.length := (by simpa using h21); omega
   repeat ((fail_if_success refine stp ?_); with_reducible go_step)
   refine region_F ?_; refine pl ?_; refine pl ?_; refine listF_abs (fun s13 z' => ?_); have sl6 := gu 6 z'; have sl7 := gu 7 z'; clear z' sl1 sl2 sl8 sl21; refine listF_nil ?_
   repeat ((fail_if_success refine stp ?_); with_reducible go_step)
   refine ret_F _ (res_tt Try.results53 ((getD_F (by decide)).trans sl6) ((getD_F (by decide)).trans sl7)) ?_; exact look_no (asked_2 He.out hl30) (by decide) HB.out.toBelow
  ·skip
   have hl30 : ¬ 30 < cs.length := by have : (cs.length : Int) ≤ 30 := (by simpa using h21); omega
   repeat ((fail_if_success refine stp ?_); with_reducible go_step)
   refine region_F ?_; refine pl ?_; refine pl ?_; refine listF_step rfl (fun K' hK => ?_); unfold opF; go_simp; refine (conCk_any ac cc cs B8 V k a c _ _ _ (by omega) (Rd.oldB HRc.out HB.out (by simp)) kb8 kV (Rd.oldB HR.out HB.out (by simp)) HK.out).mono ?_; rintro e w14 ⟨rfl, hb15⟩; refine ⟨_, rfl, hK _ _ ?_⟩; clear hK K'; clear qb3 qV qb8; replace kb3 := kb3.at hb15; replace kV := kV.at hb15; replace kb8 := kb8.at hb15; replace HB := hid (HB.out.below hb15); clear hb15; have qb3 := kb3.1; have qV := kV.1; have qb8 := kb8.1; refine pl ?_; refine listF_abs (fun s16 z' => ?_); replace sl1 := gs 1 z' sl1; replace sl2 := gs 2 z' sl2; replace sl8 := gs 8 z' sl8; have sl25 := gu 25 z'; clear z' sl21; refine listF_nil ?_
   repeat ((fail_if_success refine stp ?_); with_reducible go_step)
   refine cond_E sl25 (by decide) ?_ ?_ <;> (clear sl25; intro h25 sl25)
   ·skip
    have H25 := hid h25
    repeat ((fail_if_success refine stp ?_); with_reducible go_step)
    refine region_F ?_; refine pl ?_; refine pl ?_; refine listF_abs (fun s17 z' => ?_); have sl6 := gu 6 z'; have sl7 := gu 7 z'; clear z' sl1 sl2 sl8 sl25; refine listF_nil ?_
    repeat ((fail_if_success refine stp ?_); with_reducible go_step)
    refine ret_F _ (res_tt Try.results53 ((getD_F (by decide)).trans sl6) ((getD_F (by decide)).trans sl7)) ?_; exact look_no (asked_3 He.out hl30 H25.out) (by decide) HB.out.toBelow
   ·skip
    have H25 := hid h25; have Hok := hid (not_bad h25); have Hho := hid (show ∀ x ∈ cs, hourOk x from fun x hx => (chk_bd (not_bad h25 x hx)).1); clear h25
    repeat ((fail_if_success refine stp ?_); with_reducible go_step)
    refine region_F ?_; refine pl ?_; refine pl ?_; refine listF_step rfl (fun K' hK => ?_); unfold opF; go_simp; refine (sorted_any ac cc cs _ (by omega) (Rd.oldB HRc.out HB.out (by simp)) Hho.out).mono ?_; rintro e w18 ⟨al, cl, l, rfl, hRl, hsl2, hpl, hal, hb19⟩; have Hsl := hid hsl2; have Hpl := hid hpl
    have hll : l.length ≤ 30 := by rw [hpl.length_eq]; omega
    have halV := hid (show ∀ b, al = some b → V < b.block from fun b hb => by have := hal b hb; omega); clear hsl2 hpl hal; refine ⟨_, rfl, hK _ _ ?_⟩; clear hK K'; clear qb3 qV qb8; replace kb3 := kb3.at hb19; replace kV := kV.at hb19; replace kb8 := kb8.at hb19; replace HB := hid (HB.out.below hb19); clear hb19; have qb3 := kb3.1; have qV := kV.1; have qb8 := kb8.1; refine pl ?_; refine pl ?_; refine listF_abs (fun s20 z' => ?_); replace sl2 := gs 2 z' sl2; replace sl8 := gs 8 z' sl8; have sl31 := gu 31 z'; have sl32 := gu 32 z'; have sl33 := gu 33 z'; clear z' sl1 sl25; refine listF_nil ?_
    repeat ((fail_if_success refine stp ?_); with_reducible go_step)
    have hc0_2 := hid sl2; have hc0_8 := hid sl8; have hc0_31 := hid sl31; have hc0_32 := hid sl32; refine loop_F (n := 77) (fun kJ sJ wJ => ∃ (i : Nat) (s : Span) (hh : Int), kJ = l.length - i ∧ sJ 33 = .int .i64 (i : Int) ∧ sJ 2 = s20 2 ∧ sJ 8 = s20 8 ∧ sJ 31 = s20 31 ∧ sJ 32 = s20 32 ∧ OldB [V] w18 wJ ∧ Cells wJ V (vC k a c s hh) ∧ Hid (runN k l i = some (s, hh)) ∧ Hid (spanOk s) ∧ (0 ≤ hh ∧ hh ≤ 100000) ∧ Hid (HrLe l i hh)) ⟨0, ⟨k.new, k.new⟩, 0, rfl, (by first | exact sl33 | (rw [sl33]; go_num) | (rw [sl33]; rfl)), rfl, rfl, rfl, rfl, OldB.refl _ _, (by first | (with_reducible exact kV) | (apply Cells.conv; (focus (exact kV)); (first | rfl | (simp; done)))), hid rfl, hid (new_ok HK.out), (by omega), hid (fun j hj _ => (chk_bd (Hok.out l[j] (Hpl.out.mem_iff.1 (List.getElem_mem hj)))).1.1)⟩ ?_; clear sl33; rintro kJ s21 w22 ⟨i, s, hh, rfl, sl33, e2, e8, e31, e32, hb23, mV', hrn, hs, hhb, hle⟩; replace sl2 := e2.trans sl2; clear e2
    replace sl8 := e8.trans sl8; clear e8; replace sl31 := e31.trans sl31; clear e31; replace sl32 := e32.trans sl32; clear e32; have hoJ := hb23; clear qb3 qV qb8; replace kV := mV'; replace kb3 := kb3.oldB hb23 (by first | (simp; done) | (simp; omega)); replace kb8 := kb8.oldB hb23 (by first | (simp; done) | (simp; omega)); replace hRl := Rd.oldB hRl hb23 (fun b hb => by have h9 := halV.out b hb; cases hb; (try simp at h9); first | (simp; done) | (simp; omega)); replace HB := hid (HB.out.more hb23 (by simp; try omega)); clear hb23; have qb3 := kb3.1; have qV := kV.1; have qb8 := kb8.1; clear mV'; have HoJ := hid hoJ; clear hoJ; have HL24 := HoJ; clear HoJ
    repeat ((fail_if_success refine stp ?_); with_reducible go_step)
    refine region_F ?_; refine pl ?_; refine listF_abs (fun s25 z' => ?_); replace sl2 := gs 2 z' sl2; replace sl8 := gs 8 z' sl8; replace sl31 := gs 31 z' sl31; replace sl32 := gs 32 z' sl32; replace sl33 := gs 33 z' sl33; have sl34 := gu 34 z'; clear z'; refine listF_nil ?_
    repeat ((fail_if_success refine stp ?_); with_reducible go_step)
    refine cond_E sl34 (by decide) ?_ ?_ <;> (clear sl34; intro h34 sl34)
    ·skip
     have hlt : i < l.length := by simpa using h34
     obtain ⟨b, off, rfl, hbs, c0, c1, c2⟩ := RdCks.ne hRl hlt; obtain ⟨⟨t1, t2⟩, hvo⟩ := chk_bd (Hok.out l[i] (Hpl.out.mem_iff.1 (List.getElem_mem hlt))); have Hvo := hid hvo; have htl := hle.out i hlt (Nat.le_refl _); clear hvo
     repeat ((fail_if_success refine stp ?_); with_reducible go_step)
     refine region_F ?_; refine pl ?_; refine pl ?_; refine pa (fun w26 B11 hB kb11' hb27 => ?_); have gb11 := HB.out.gB hB; have lHL24_b11 := HL24.out.gB hB; have ob3_b11 := oB qb3 hB; have oV_b11 := oB qV hB; have ob8_b11 := oB qb8 hB; have eb11 := eB hB; clear hB; clear qb3 qV qb8; replace kb3 := kb3.at hb27; replace kV := kV.at hb27; replace kb8 := kb8.at hb27; replace hRl := Rd.at hRl hb27; replace HL24 := hid (HL24.out.below hb27); replace HB := hid (HB.out.below hb27); clear hb27; have qb3 := kb3.1; have qV := kV.1; have qb8 := kb8.1; have kb11 := kb11'; clear kb11'; have qb11 := kb11.1; have cb11_0 := kb11.cell 0 rfl; have cb11_1 := kb11.cell 1 rfl; have cb11_2 := kb11.cell 2 rfl; have zb11 := kb11.2.2; refine pl ?_; refine listF_absw (fun w28 hw' => ?_); have kb11' := cells_of hw' (Cells.set (i := 2) (Cells.set (i := 1) (Cells.set (i := 0) (kb11))))
     (try simp only [vC, List.set_cons_zero, List.set_cons_succ] at kb11')
     have hb29 : OldB [B11] w26 w28 := oldset hw'; clear hw'; clear cb11_0 cb11_1 cb11_2 zb11; clear qb3 qV qb8 qb11; replace kb11 := kb11'; replace kb3 := kb3.oldB hb29 (by first | (simp; done) | (simp; omega)); replace kV := kV.oldB hb29 (by first | (simp; done) | (simp; omega)); replace kb8 := kb8.oldB hb29 (by first | (simp; done) | (simp; omega)); replace hRl := Rd.oldB hRl hb29 (fun b hb => by have h9 := halV.out b hb; cases hb; (try simp at h9); first | (simp; done) | (simp; omega)); replace HL24 := hid (HL24.out.more hb29 (by simp; try omega)); replace HB := hid (HB.out.more hb29 (by simp; try omega)); clear hb29; have qb3 := kb3.1; have qV := kV.1; have qb8 := kb8.1; have qb11 := kb11.1; clear kb11'; refine listF_abs (fun s30 z' => ?_); replace sl2 := gs 2 z' sl2; replace sl8 := gs 8 z' sl8; have sl11 := gu 11 z'; replace sl31 := gs 31 z' sl31; replace sl32 := gs 32 z' sl32; replace sl33 := gs 33 z' sl33; clear z' sl34
     refine listF_nil ?_
     repeat ((fail_if_success refine stp ?_); with_reducible go_step)
     refine region_F ?_; have cb8_0 := kb8.cell 0 rfl; refine pl ?_; refine pl ?_; have cb11_0 := kb11.cell 0 rfl; have cb11_1 := kb11.cell 1 rfl; have cb11_2 := kb11.cell 2 rfl; refine pl ?_; refine listF_step rfl (fun K' hK => ?_); unfold opF; go_simp; refine (wait_any V k a c s hh l[i].hour _ kV HK.out hs.out.in hhb (by omega)).mono ?_; rintro e w31 ⟨rfl, kV', hb32⟩; refine ⟨_, rfl, hK _ _ ?_⟩; clear hK K'; clear cb11_0 cb11_1 cb11_2 cb8_0; clear qb3 qV qb8 qb11; replace kV := kV'; replace kb3 := kb3.oldB hb32 (by first | (simp; done) | (simp; omega)); replace kb8 := kb8.oldB hb32 (by first | (simp; done) | (simp; omega)); replace kb11 := kb11.oldB hb32 (by first | (simp; done) | (simp; omega)); replace hRl := Rd.oldB hRl hb32 (fun b hb => by have h9 := halV.out b hb; cases hb; (try simp at h9); first | (simp; done) | (simp; omega)); replace HL24 := hid (HL24.out.more hb32 (by simp; try omega)); replace HB := hid (HB.out.more hb32 (by simp; try omega))
     clear hb32; have qb3 := kb3.1; have qV := kV.1; have qb8 := kb8.1; have qb11 := kb11.1; refine listF_abs (fun s33 z' => ?_); replace sl2 := gs 2 z' sl2; replace sl8 := gs 8 z' sl8; replace sl11 := gs 11 z' sl11; replace sl31 := gs 31 z' sl31; replace sl32 := gs 32 z' sl32; replace sl33 := gs 33 z' sl33; clear z'; refine listF_nil ?_
     repeat ((fail_if_success refine stp ?_); with_reducible go_step)
     have cb3_0 := kb3.cell 0 rfl; have cb3_1 := kb3.cell 1 rfl; have cb3_2 := kb3.cell 2 rfl; have cb3_3 := kb3.cell 3 rfl; have cV_0 := kV.cell 0 rfl; have cV_1 := kV.cell 1 rfl; have cV_2 := kV.cell 2 rfl; have cV_3 := kV.cell 3 rfl; have cV_4 := kV.cell 4 rfl; have cV_5 := kV.cell 5 rfl; have cV_6 := kV.cell 6 rfl; have cb8_0 := kb8.cell 0 rfl; have cb11_0 := kb11.cell 0 rfl; have cb11_1 := kb11.cell 1 rfl; have cb11_2 := kb11.cell 2 rfl; refine regionR_F [] [] [] [.q [], .q [], .q [], .q [], .q [], .q [], .q []] [?v9_0, ?v9_1, ?v9_2, ?v9_3, ?v9_4, ?v9_5, ?v9_6] [fun _ => [], fun _ => [], fun _ => [], fun _ => [], fun _ => [], fun _ => [], fun _ => []] (by kernel_rfl) (by kernel_rfl) (by kernel_rfl) (by kernel_rfl) (by kernel_rfl) (by first | exact List.nodup_nil | exact List.nodup_singleton _ | (simp; done) | (simp; omega)) bc_nil ?walk9 ?dep9
     case walk9 =>
      iterate 6 refine rq ?_
      refine walkR_q (by rfl) (fun X hX wq hwq hrq => ?_) ?_
      · obtain ⟨hcq, hfq⟩ := hwq.b0
        clear hrq; go_simp
        (exact result_any V k a c (later k s (l[i].hour - hh)) l[i].hour l[i].volt l[i].passed _ (kV.old hwq (by simp)) (Rd.oldB HR.out (HB.out.more hwq.unDrew (by simp)) (by simp)) HK.out Hvo.out)
      refine walkR_nil (fun X hX w34 hwz hcz => ?_); clear hX hcz
      (try clear X)
      skip; have hb35 := hwz.unDrew; clear hwz; clear cV_0 cV_1 cV_2 cV_3 cV_4 cV_5 cV_6 cb11_0 cb11_1 cb11_2 cb3_0 cb3_1 cb3_2 cb3_3 cb8_0; clear qb3 qV qb8 qb11; replace kb3 := kb3.oldB hb35 (by first | (simp; done) | (simp; omega)); replace kV := kV.oldB hb35 (by first | (simp; done) | (simp; omega)); replace kb8 := kb8.oldB hb35 (by first | (simp; done) | (simp; omega)); replace kb11 := kb11.oldB hb35 (by first | (simp; done) | (simp; omega)); replace hRl := Rd.oldB hRl hb35 (fun b hb => by have h9 := halV.out b hb; cases hb; (try simp at h9); first | (simp; done) | (simp; omega)); replace HL24 := hid (HL24.out.more hb35 (by simp; try omega)); replace HB := hid (HB.out.more hb35 (by simp; try omega)); clear hb35; have qb3 := kb3.1; have qV := kV.1; have qb8 := kb8.1; have qb11 := kb11.1; refine pl ?_; refine pl ?_; have cV_0 := kV.cell 0 rfl; have cV_1 := kV.cell 1 rfl; have cV_2 := kV.cell 2 rfl; have cV_3 := kV.cell 3 rfl; have cV_4 := kV.cell 4 rfl
      have cV_5 := kV.cell 5 rfl; have cV_6 := kV.cell 6 rfl; have zV := kV.2.2; refine pl ?_; refine listF_absw (fun w36 hw' => ?_); have kV' := cells_of hw' (Cells.set (i := 5) (Cells.set (i := 4) (kV)))
      (try simp only [vC, List.set_cons_zero, List.set_cons_succ] at kV')
      have hb37 : OldB [V] w34 w36 := oldset hw'; clear hw'; clear cV_0 cV_1 cV_2 cV_3 cV_4 cV_5 cV_6 zV; clear qb3 qV qb8 qb11; replace kV := kV'; replace kb3 := kb3.oldB hb37 (by first | (simp; done) | (simp; omega)); replace kb8 := kb8.oldB hb37 (by first | (simp; done) | (simp; omega)); replace kb11 := kb11.oldB hb37 (by first | (simp; done) | (simp; omega)); replace hRl := Rd.oldB hRl hb37 (fun b hb => by have h9 := halV.out b hb; cases hb; (try simp at h9); first | (simp; done) | (simp; omega)); replace HL24 := hid (HL24.out.more hb37 (by simp; try omega)); replace HB := hid (HB.out.more hb37 (by simp; try omega)); clear hb37; have qb3 := kb3.1; have qV := kV.1; have qb8 := kb8.1; have qb11 := kb11.1; clear kV'; refine listF_abs (fun s38 z' => ?_); replace sl2 := gs 2 z' sl2; replace sl8 := gs 8 z' sl8; replace sl31 := gs 31 z' sl31; replace sl32 := gs 32 z' sl32; replace sl33 := gs 33 z' sl33; clear z' sl11; refine listF_nil ?_
      repeat ((fail_if_success refine stp ?_); with_reducible go_step)
      have cb3_0 := kb3.cell 0 rfl; have cb3_1 := kb3.cell 1 rfl; have cb3_2 := kb3.cell 2 rfl; have cb3_3 := kb3.cell 3 rfl; have cV_0 := kV.cell 0 rfl; have cV_1 := kV.cell 1 rfl; have cV_2 := kV.cell 2 rfl; have cV_3 := kV.cell 3 rfl; have cV_4 := kV.cell 4 rfl; have cV_5 := kV.cell 5 rfl; have cV_6 := kV.cell 6 rfl; have cb8_0 := kb8.cell 0 rfl; have cb11_0 := kb11.cell 0 rfl; have cb11_1 := kb11.cell 1 rfl; have cb11_2 := kb11.cell 2 rfl; refine regionQ_F (Below w36.heap.size w36) (by kernel_rfl) (by kernel_rfl) (Below.refl _ _).drew ?_
      iterate 11 refine lq ?_
      refine listQ_nil ?_; intro w39 hb40; clear cV_0 cV_1 cV_2 cV_3 cV_4 cV_5 cV_6 cb11_0 cb11_1 cb11_2 cb3_0 cb3_1 cb3_2 cb3_3 cb8_0; clear qb3 qV qb8 qb11; replace kb3 := kb3.at hb40; replace kV := kV.at hb40; replace kb8 := kb8.at hb40; replace kb11 := kb11.at hb40; replace hRl := Rd.at hRl hb40; replace HL24 := hid (HL24.out.below hb40); replace HB := hid (HB.out.below hb40); clear hb40; have qb3 := kb3.1; have qV := kV.1; have qb8 := kb8.1; have qb11 := kb11.1
      repeat ((fail_if_success refine stp ?_); with_reducible go_step)
      refine wp_abs (fun s41 z' => ?_); replace sl2 := gs 2 z' sl2; replace sl8 := gs 8 z' sl8; replace sl31 := gs 31 z' sl31; replace sl32 := gs 32 z' sl32; replace sl33 := gs 33 z' sl33; have sl60 := gu 60 z'; clear z'
      refine cond_E sl60 (by decide) ?_ ?_ <;> (clear sl60; intro h60 sl60)
      ·skip
       have h60' : (agreed k (later k s (l[i].hour - hh)) l[i].volt l[i].passed).hi < (agreed k (later k s (l[i].hour - hh)) l[i].volt l[i].passed).lo := by simpa using h60
       have Hkn := hid (show known k cs = none by rw [← known_eq HK.out (chks_ok Hok.out) Hsl.out Hpl.out]; exact runN_none (by rw [runN_step hlt hrn.out, if_pos h60']))
       repeat ((fail_if_success refine stp ?_); with_reducible go_step)
       refine region_F ?_; refine pl ?_; refine pl ?_; refine listF_abs (fun s42 z' => ?_); have sl6 := gu 6 z'; have sl7 := gu 7 z'; clear z' sl2 sl8 sl31 sl32 sl33 sl60; refine listF_nil ?_
       repeat ((fail_if_success refine stp ?_); with_reducible go_step)
       refine ret_F _ (res_tt Try.results53 ((getD_F (by decide)).trans sl6) ((getD_F (by decide)).trans sl7)) ?_; exact look_no (asked_4 He.out hl30 H25.out Hkn.out) (by decide) HB.out.toBelow
      ·skip
       have h60' : ¬ (agreed k (later k s (l[i].hour - hh)) l[i].volt l[i].passed).hi < (agreed k (later k s (l[i].hour - hh)) l[i].volt l[i].passed).lo := by simpa using h60
       repeat ((fail_if_success refine stp ?_); with_reducible go_step)
       refine region_F ?_; refine pl ?_; refine pl ?_; refine listF_abs (fun s43 z' => ?_); replace sl2 := gs 2 z' sl2; replace sl8 := gs 8 z' sl8; replace sl31 := gs 31 z' sl31; replace sl32 := gs 32 z' sl32; replace sl33 := gu 33 z'; clear z' sl60; refine listF_nil ?_
       repeat ((fail_if_success refine stp ?_); with_reducible go_step)
       refine ⟨_, _, rfl, ?_, i + 1, agreed k (later k s (l[i].hour - hh)) l[i].volt l[i].passed, l[i].hour, rfl, (by first | (with_reducible exact sl33) | (rw [sl33]; (with_reducible go_num); done) | (rw [sl33, IntWalk.i64_in] <;> first | ((with_reducible go_num); done) | omega) | (rw [sl33]; go_num; done) | (rw [sl33]; simp; done) | (rw [sl33]; simp; omega)), (sl2.trans hc0_2.out.symm), (sl8.trans hc0_8.out.symm), (sl31.trans hc0_31.out.symm), (sl32.trans hc0_32.out.symm), HL24.out, (by first | (with_reducible exact kV) | (apply Cells.conv; (focus (exact kV)); (first | rfl | (simp; done)))), hid (by rw [runN_step hlt hrn.out, if_neg h60']), hid (agreed_ok HK.out (later_ok HK.out hs.out (by omega)) Hvo.out), ⟨t1, t2⟩, hid (hrLe_next Hsl.out hlt)⟩
       omega
     case dep9 =>
       iterate 7 refine dR ?_
       exact depR_nil
    ·skip
     have hge : l.length ≤ i := by simpa using h34
     have Hkn := hid (show known k cs = some (s, hh) by rw [← known_eq HK.out (chks_ok Hok.out) Hsl.out Hpl.out]; exact runN_all hge hrn.out)
     repeat ((fail_if_success refine stp ?_); with_reducible go_step)
     clear HL24; clear hc0_2 hc0_8 hc0_31 hc0_32; refine region_F ?_; refine pl ?_; refine pas (fun w44 B64 hB kb64' hb45 => ?_); have gb64 := HB.out.gB hB; have ob3_b64 := oB qb3 hB; have oV_b64 := oB qV hB; have ob8_b64 := oB qb8 hB; have eb64 := eB hB; clear hB; clear qb3 qV qb8; replace kb3 := kb3.at hb45; replace kV := kV.at hb45; replace kb8 := kb8.at hb45; replace hRl := Rd.at hRl hb45; replace HB := hid (HB.out.below hb45); clear hb45; have qb3 := kb3.1; have qV := kV.1; have qb8 := kb8.1; have kb64 := kb64'; clear kb64'; have qb64 := kb64.1; refine listF_step rfl (fun K' hK => ?_); unfold opF; go_simp; refine (out_any 100000 _ _ [h] _ (by simp) (rd1 kb64)).mono ?_; rintro e w46 ⟨rfl, hb47⟩; refine ⟨_, rfl, hK _ _ ?_⟩; clear hK K'; clear qb3 qV qb8 qb64; replace kb3 := kb3.at hb47; replace kV := kV.at hb47; replace kb8 := kb8.at hb47; replace kb64 := kb64.at hb47; replace hRl := Rd.at hRl hb47; replace HB := hid (HB.out.below hb47); clear hb47; have qb3 := kb3.1
     have qV := kV.1; have qb8 := kb8.1; have qb64 := kb64.1; refine pl ?_; refine listF_abs (fun s48 z' => ?_); replace sl2 := gs 2 z' sl2; replace sl8 := gs 8 z' sl8; have sl62 := gu 62 z'; clear z' sl31 sl32 sl33 sl34; refine listF_nil ?_
     repeat ((fail_if_success refine stp ?_); with_reducible go_step)
     refine cond_E sl62 (by decide) ?_ ?_ <;> (clear sl62; intro h62 sl62)
     ·skip
      have H62 := hid (show inb h 0 100000 = false by have h := out1_t h62; rw [← inb_iff] at h; simpa using h)
      repeat ((fail_if_success refine stp ?_); with_reducible go_step)
      refine region_F ?_; refine pl ?_; refine pl ?_; refine listF_abs (fun s49 z' => ?_); have sl6 := gu 6 z'; have sl7 := gu 7 z'; clear z' sl2 sl8 sl62; refine listF_nil ?_
      repeat ((fail_if_success refine stp ?_); with_reducible go_step)
      refine ret_F _ (res_tt Try.results53 ((getD_F (by decide)).trans sl6) ((getD_F (by decide)).trans sl7)) ?_; exact look_no (by rw [asked_5 He.out hl30 H25.out Hkn.out, if_pos H62.out]) (by decide) HB.out.toBelow
     ·skip
      obtain ⟨hh1, hh2⟩ := out1_f h62; have H62 := hid (show ¬ inb h 0 100000 = false by rw [(inb_iff _ _ _).2 ⟨hh1, hh2⟩]; decide)
      repeat ((fail_if_success refine stp ?_); with_reducible go_step)
      refine region_F ?_; refine pl ?_; have cb8_0 := kb8.cell 0 rfl
      iterate 3 refine pl ?_
      have cV_0 := kV.cell 0 rfl; have cV_1 := kV.cell 1 rfl; have cV_2 := kV.cell 2 rfl; have cV_3 := kV.cell 3 rfl; have cV_4 := kV.cell 4 rfl; have cV_5 := kV.cell 5 rfl; have cV_6 := kV.cell 6 rfl
      iterate 3 refine pl ?_
      refine listF_abs (fun s50 z' => ?_); replace sl2 := gs 2 z' sl2; replace sl8 := gs 8 z' sl8; have sl66 := gu 66 z'; clear z' sl62; refine listF_nil ?_
      repeat ((fail_if_success refine stp ?_); with_reducible go_step)
      refine cond_E sl66 (by decide) ?_ ?_ <;> (clear sl66; intro h66 sl66)
      ·skip
       have h66' : h < hh := by simpa using h66
       repeat ((fail_if_success refine stp ?_); with_reducible go_step)
       refine region_F ?_; refine pl ?_; refine pl ?_; refine listF_abs (fun s51 z' => ?_); have sl6 := gu 6 z'; have sl7 := gu 7 z'; clear z' sl2 sl8 sl66; refine listF_nil ?_
       repeat ((fail_if_success refine stp ?_); with_reducible go_step)
       refine ret_F _ (res_tt Try.results53 ((getD_F (by decide)).trans sl6) ((getD_F (by decide)).trans sl7)) ?_; exact look_no (by rw [asked_5 He.out hl30 H25.out Hkn.out, if_neg H62.out, if_pos h66']) (by decide) HB.out.toBelow
      ·skip
       have h66' : ¬ h < hh := by simpa using h66
       repeat ((fail_if_success refine stp ?_); with_reducible go_step)
       refine region_F ?_; refine pl ?_; refine pl ?_; refine listF_step rfl (fun K' hK => ?_); unfold opF; go_simp; refine (wait_any V k a c s hh h _ kV HK.out hs.out.in hhb (by omega)).mono ?_; rintro e w52 ⟨rfl, kV', hb53⟩; refine ⟨_, rfl, hK _ _ ?_⟩; clear hK K'; clear cV_0 cV_1 cV_2 cV_3 cV_4 cV_5 cV_6 cb8_0; clear qb3 qV qb8 qb64; replace kV := kV'; replace kb3 := kb3.oldB hb53 (by first | (simp; done) | (simp; omega)); replace kb8 := kb8.oldB hb53 (by first | (simp; done) | (simp; omega)); replace kb64 := kb64.oldB hb53 (by first | (simp; done) | (simp; omega)); replace hRl := Rd.oldB hRl hb53 (fun b hb => by have h9 := halV.out b hb; cases hb; (try simp at h9); first | (simp; done) | (simp; omega)); replace HB := hid (HB.out.more hb53 (by simp; try omega)); clear hb53; have qb3 := kb3.1; have qV := kV.1; have qb8 := kb8.1; have qb64 := kb64.1; refine listF_abs (fun s54 z' => ?_); replace sl8 := gs 8 z' sl8; clear z' sl2 sl66
       refine listF_nil ?_
       repeat ((fail_if_success refine stp ?_); with_reducible go_step)
       refine region_F ?_; have cb8_0 := kb8.cell 0 rfl
       iterate 3 refine pl ?_
       refine listF_abs (fun s55 z' => ?_); have sl6 := gu 6 z'; have sl7 := gu 7 z'; clear z' sl8; refine listF_nil ?_
       repeat ((fail_if_success refine stp ?_); with_reducible go_step)
       refine ret_F _ (res_tt Try.results53 ((getD_F (by decide)).trans sl6) ((getD_F (by decide)).trans sl7)) ?_
       have ha : asked k cs h = (later k s (h - hh), 0) := by rw [asked_5 He.out hl30 H25.out Hkn.out, if_neg H62.out, if_neg h66']
       exact .inl ⟨V, by rw [ha], rfl, gV, by rw [ha]; exact kV, HB.out.toBelow⟩
 ·skip
  have He := hid he
  have he1 : (kdErr k != 0) = true := by simpa using he
  clear he; refine listF_step rfl (fun K' hK => ?_); unfold opF; go_simp; refine (open_bad k a c _ HN.out hsl (Rd.oldB HR.out HB.out (by simp)) He.out).mono ?_; rintro e w56 ⟨rfl, hb57⟩; refine ⟨_, rfl, hK _ _ ?_⟩; clear hK K'; clear cb3_0 cb3_1 cb3_2 cb3_3; clear qb3; replace kb3 := kb3.at hb57; replace HB := hid (HB.out.below hb57); clear hb57; have qb3 := kb3.1
  iterate 3 refine pl ?_
  refine pa (fun w58 B8 hB kb8' hb59 => ?_); have gb8 := HB.out.gB hB; have ob3_b8 := oB qb3 hB; have eb8 := eB hB; clear hB; clear qb3; replace kb3 := kb3.at hb59; replace HB := hid (HB.out.below hb59); clear hb59; have qb3 := kb3.1; have kb8 := kb8'; clear kb8'; have qb8 := kb8.1; have cb8_0 := kb8.cell 0 rfl; have zb8 := kb8.2.2; refine pl ?_; refine listF_absw (fun w60 hw' => ?_); have kb8' := cells_of hw' (Cells.set (i := 0) (kb8))
  (try simp only [vC, List.set_cons_zero, List.set_cons_succ] at kb8')
  have hb61 : OldB [B8] w58 w60 := oldset hw'; clear hw'; clear cb8_0 zb8; clear qb3 qb8; replace kb8 := kb8'; replace kb3 := kb3.oldB hb61 (by first | (simp; done) | (simp; omega)); replace HB := hid (HB.out.more hb61 (by simp; try omega)); clear hb61; have qb3 := kb3.1; have qb8 := kb8.1; clear kb8'; refine pl ?_; refine listF_abs (fun s62 z' => ?_); replace sl1 := gs 1 z' sl1; replace sl2 := gs 2 z' sl2; have sl8 := gu 8 z'; have sl9 := gu 9 z'; clear z' sl3; refine listF_nil ?_
  repeat ((fail_if_success refine stp ?_); with_reducible go_step)
  refine region_F ?_
  iterate 3 refine pl ?_
  refine listF_abs (fun s63 z' => ?_); replace sl1 := gs 1 z' sl1; replace sl2 := gs 2 z' sl2; replace sl8 := gs 8 z' sl8; replace sl9 := gs 9 z' sl9; have sl17 := gu 17 z'; clear z'; refine listF_nil ?_
  repeat ((fail_if_success refine stp ?_); with_reducible go_step)
  refine cond_t ?_
  repeat ((fail_if_success refine stp ?_); with_reducible go_step)
  refine region_F ?_
  iterate 3 refine pl ?_
  refine listF_abs (fun s64 z' => ?_); have sl6 := gu 6 z'; have sl7 := gu 7 z'; clear z' sl1 sl2 sl8 sl9 sl17; refine listF_nil ?_
  repeat ((fail_if_success refine stp ?_); with_reducible go_step)
  refine ret_F _ (res_tt Try.results53 ((getD_F (by decide)).trans sl6) ((getD_F (by decide)).trans sl7)) ?_; exact look_no (asked_1 He.out) He.out HB.out.toBelow

end Go.Proofs.Ytndcmmghgljinaa
