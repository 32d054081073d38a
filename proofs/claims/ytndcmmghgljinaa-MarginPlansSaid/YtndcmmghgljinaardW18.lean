/- Group: plain laws. -/
import Derived.Test.YtndcmmghgljinaardW13
set_option linter.all false
namespace Go.Proofs.Ytndcmmghgljinaa

section
open Go.RowKit

set_option maxRecDepth 100000 in
set_option maxHeartbeats 4000000 in
theorem look_any (k : Kd) (a : Option Addr) (c : Nat) (ac : Option Addr) (cc : Nat) (cs : List MCk) (h : Int) (w : World) (hN : -9223372036854775808 ≤ k.new ∧ k.new ≤ 9223372036854775807) (hsl : k.steps.length ≤ 9223372036854775807) (hR : RdSteps w a k.steps) (hRc : RdCks w ac cs) (hlc : cs.length ≤ 9223372036854775807) :
    Calls Try.prog 53 #[.agg #[.int .i64 k.new, .int .i64 k.wear.lo, .int .i64 k.wear.hi, .slice a k.steps.length c], .slice ac cs.length cc, .int .i64 h] w (LookRes k a c cs h w) := by
 have HR := hid hR; have HN := hid hN; have HRc := hid hRc; clear hR hN hRc
 refine enter_F Try.func53 rfl Try.ntmps53 (by simp) ?_
 intro s0 hs; have sl0 : s0 0 = .agg #[.int .i64 k.new, .int .i64 k.wear.lo, .int .i64 k.wear.hi, .slice a k.steps.length c] := hs 0 (by simp); have sl1 : s0 1 = .slice ac cs.length cc := hs 1 (by simp); have sl2 : s0 2 = .int .i64 h := hs 2 (by simp); clear hs; have HB := hid (OldB.refl [] w)
 repeat ((fail_if_success refine stp ?_); with_reducible go_step)
 refine region_F ?_; refine pa (fun w1 B3 hB kb3' hb2 => ?_); have gb3 := HB.out.gB hB; have eb3 := eB hB; clear hB; replace HB := hid (HB.out.below hb2); clear hb2; have kb3 := kb3'; clear kb3'; have qb3 := kb3.1; refine pl ?_; refine pl ?_; refine listF_abs (fun s3 z' => ?_); replace sl1 := gs 1 z' sl1; replace sl2 := gs 2 z' sl2; have sl3 := gu 3 z'; clear z' sl0; refine listF_nil ?_
 repeat ((fail_if_success refine stp ?_); with_reducible go_step)
 refine region_F ?_; have cb3_0 := kb3.cell 0 rfl; have cb3_1 := kb3.cell 1 rfl; have cb3_2 := kb3.cell 2 rfl; have cb3_3 := kb3.cell 3 rfl; refine pl ?_
 by_cases he : kdErr k = 0
 ·skip
  have He := hid he; have HK := hid (kok_of he); clear he; refine listF_step rfl (fun K' hK => ?_); unfold opF; go_simp; refine (open_ok k a c _ HN.out hsl (Rd.oldB HR.out HB.out (by simp)) He.out).mono ?_; rintro e w4 ⟨V, rfl, gV', hV', hb5⟩
  have gV : w.heap.size ≤ V := by have := HB.out.size; omega
  have ob3_V : B3 < V := by have := gV'; omega
  refine ⟨_, rfl, hK _ _ ?_⟩; clear hK K'; clear cb3_0 cb3_1 cb3_2 cb3_3; clear qb3; replace kb3 := kb3.at hb5; replace HB := hid (HB.out.below hb5); clear hb5; have qb3 := kb3.1; have kV := hV'; clear hV'; have qV := kV.1
  iterate 3 refine pl ?_
  refine pa (fun w6 B8 hB kb8' hb7 => ?_); have gb8 := HB.out.gB hB; have ob3_b8 := oB qb3 hB; have oV_b8 := oB qV hB; have eb8 := eB hB; clear hB; clear qb3 qV; replace kb3 := kb3.at hb7; replace kV := kV.at hb7; replace HB := hid (HB.out.below hb7); clear hb7; have qb3 := kb3.1; have qV := kV.1; have kb8 := kb8'; clear kb8'; have qb8 := kb8.1; have cb8_0 := kb8.cell 0 rfl; have zb8 := kb8.2.2; refine pl ?_; refine listF_absw (fun w8 hw' => ?_); have kb8' := cells_of hw' (Cells.set (i := 0) (kb8))
  (try simp only [vC, List.set_cons_zero, List.set_cons_succ] at kb8')
  have hb9 : OldB [B8] w6 w8 := oldset hw'; clear hw'; clear cb8_0 zb8; clear qb3 qV qb8; replace kb8 := kb8'; replace kb3 := kb3.oldB hb9 (by first | (simp; done) | (simp; omega)); replace kV := kV.oldB hb9 (by first | (simp; done) | (simp; omega)); replace HB := hid (HB.out.more hb9 (by simp; try omega)); clear hb9; have qb3 := kb3.1; have qV := kV.1; have qb8 := kb8.1; clear kb8'; refine pl ?_; refine listF_abs (fun s10 z' => ?_); replace sl1 := gs 1 z' sl1; replace sl2 := gs 2 z' sl2; have sl8 := gu 8 z'; have sl9 := gu 9 z'; clear z' sl3; refine listF_nil ?_
  repeat ((fail_if_success refine stp ?_); with_reducible go_step)
  refine region_F ?_
  iterate 3 refine pl ?_
  refine listF_abs (fun s11 z' => ?_); replace sl1 := gs 1 z' sl1; replace sl2 := gs 2 z' sl2; replace sl8 := gs 8 z' sl8; replace sl9 := gs 9 z' sl9; have sl17 := gu 17 z'; clear z'; refine listF_nil ?_
  repeat ((fail_if_success refine stp ?_); with_reducible go_step)
  refine cond_f ?_
  repeat ((fail_if_success refine stp ?_); with_reducible go_step)
  refine region_F ?_
  iterate 4 refine pl ?_
  refine listF_abs (fun s12 z' => ?_); replace sl1 := gs 1 z' sl1; replace sl2 := gs 2 z' sl2; replace sl8 := gs 8 z' sl8; have sl21 := gu 21 z'; clear z' sl9 sl17; refine listF_nil ?_
  repeat ((fail_if_success refine stp ?_); with_reducible go_step)
  refine cond_E sl21 (by decide) ?_ ?_ <;> (clear sl21; intro h21 sl21)
  ·skip
   have hl30 : 30 < cs.length := by have : (30 : Int) < cs.length := (by simpa using h21); omega
   repeat ((fail_if_success refine stp ?_); with_reducible go_step)
   refine region_F ?_; refine pl ?_; refine pl ?_; refine listF_abs (fun s13 z' => ?_); have sl6 := gu 6 z'; have sl7 := gu 7 z'; clear z' sl1 sl2 sl8 sl21; refine listF_nil ?_
   repeat ((fail_if_success refine stp ?_); with_reducible go_step)
   refine ret_F _ (res_tt Try.results53 ((getD_F (by decide)).trans sl6) ((getD_F (by decide)).trans sl7)) ?_; exact look_no (asked_2 He.out hl30) (by decide) HB.out.toBelow
  ·skip
   have hl30 : ¬ 30 < cs.length := by have : (cs.length : Int) ≤ 30 := (by simpa using h21); omega
   repeat ((fail_if_success refine stp ?_); with_reducible go_step)
   refine region_F ?_; refine pl ?_; refine pl ?_; refine listF_step rfl (fun K' hK => ?_); unfold opF; go_simp; refine (conCk_any ac cc cs B8 V k a c _ _ _ (by omega) (Rd.oldB HRc.out HB.out (by simp)) kb8 kV (Rd.oldB HR.out HB.out (by simp)) HK.out).mono ?_; rintro e w14 ⟨rfl, hb15⟩; refine ⟨_, rfl, hK _ _ ?_⟩; clear hK K'; clear qb3 qV qb8; replace kb3 := kb3.at hb15; replace kV := kV.at hb15; replace kb8 := kb8.at hb15; replace HB := hid (HB.out.below hb15); clear hb15; have qb3 := kb3.1; have qV := kV.1; have qb8 := kb8.1; refine pl ?_; refine listF_abs (fun s16 z' => ?_); replace sl1 := gs 1 z' sl1; replace sl2 := gs 2 z' sl2; replace sl8 := gs 8 z' sl8; have sl25 := gu 25 z'; clear z' sl21; refine listF_nil ?_
   repeat ((fail_if_success refine stp ?_); with_reducible go_step)
   refine cond_E sl25 (by decide) ?_ ?_ <;> (clear sl25; intro h25 sl25)
   ·skip
    have H25 := hid h25
    repeat ((fail_if_success refine stp ?_); with_reducible go_step)
    refine region_F ?_; refine pl ?_; refine pl ?_; refine listF_abs (fun s17 z' => ?_); have sl6 := gu 6 z'; have sl7 := gu 7 z'; clear z' sl1 sl2 sl8 sl25; refine listF_nil ?_
    repeat ((fail_if_success refine stp ?_); with_reducible go_step)
    refine ret_F _ (res_tt Try.results53 ((getD_F (by decide)).trans sl6) ((getD_F (by decide)).trans sl7)) ?_; exact look_no (asked_3 He.out hl30 H25.out) (by decide) HB.out.toBelow
   ·skip
    have H25 := hid h25; have Hok := hid (not_bad h25); have Hho := hid (show ∀ x ∈ cs, hourOk x from fun x hx => (chk_bd (not_bad h25 x hx)).1); clear h25
    repeat ((fail_if_success refine stp ?_); with_reducible go_step)
    refine region_F ?_; refine pl ?_; refine pl ?_; refine listF_step rfl (fun K' hK => ?_); unfold opF; go_simp; refine (sorted_any ac cc cs _ (by omega) (Rd.oldB HRc.out HB.out (by simp)) Hho.out).mono ?_; rintro e w18 ⟨al, cl, l, rfl, hRl, hsl2, hpl, hal, hb19⟩; have Hsl := hid hsl2; have Hpl := hid hpl
    have hll : l.length ≤ 30 := by rw [hpl.length_eq]; omega
    have halV := hid (show ∀ b, al = some b → V < b.block from fun b hb => by have := hal b hb; omega); clear hsl2 hpl hal; refine ⟨_, rfl, hK _ _ ?_⟩; clear hK K'; clear qb3 qV qb8; replace kb3 := kb3.at hb19; replace kV := kV.at hb19; replace kb8 := kb8.at hb19; replace HB := hid (HB.out.below hb19); clear hb19; have qb3 := kb3.1; have qV := kV.1; have qb8 := kb8.1; refine pl ?_; refine pl ?_; refine listF_abs (fun s20 z' => ?_); replace sl2 := gs 2 z' sl2; replace sl8 := gs 8 z' sl8; have sl31 := gu 31 z'; have sl32 := gu 32 z'; have sl33 := gu 33 z'; clear z' sl1 sl25; refine listF_nil ?_
    repeat ((fail_if_success refine stp ?_); with_reducible go_step)
    have hc0_2 := hid sl2; have hc0_8 := hid sl8; have hc0_31 := hid sl31; have hc0_32 := hid sl32; refine loop_F (n := 77) (fun kJ sJ wJ => ∃ (i : Nat) (s : Span) (hh : Int), kJ = l.length - i ∧ sJ 33 = .int .i64 (i : Int) ∧ sJ 2 = s20 2 ∧ sJ 8 = s20 8 ∧ sJ 31 = s20 31 ∧ sJ 32 = s20 32 ∧ OldB [V] w18 wJ ∧ Cells wJ V (vC k a c s hh) ∧ Hid (runN k l i = some (s, hh)) ∧ Hid (spanOk s) ∧ (0 ≤ hh ∧ hh ≤ 100000) ∧ Hid (HrLe l i hh)) ⟨0, ⟨k.new, k.new⟩, 0, rfl, (by first | exact sl33 | (rw [sl33]; go_num) | (rw [sl33]; rfl)), rfl, rfl, rfl, rfl, OldB.refl _ _, (by first | (with_reducible exact kV) | (apply Cells.conv; (focus (exact kV)); (first | rfl | (simp; done)))), hid rfl, hid (new_ok HK.out), (by omega), hid (fun j hj _ => (chk_bd (Hok.out l[j] (Hpl.out.mem_iff.1 (List.getElem_mem hj)))).1.1)⟩ ?_; clear sl33; rintro kJ s21 w22 ⟨i, s, hh, rfl, sl33, e2, e8, e31, e32, hb23, mV', hrn, hs, hhb, hle⟩; replace sl2 := e2.trans sl2; clear e2
    replace sl8 := e8.trans sl8; clear e8; replace sl31 := e31.trans sl31; clear e31; replace sl32 := e32.trans sl32; clear e32; have hoJ := hb23; clear qb3 qV qb8; replace kV := mV'; replace kb3 := kb3.oldB hb23 (by first | (simp; done) | (simp; omega)); replace kb8 := kb8.oldB hb23 (by first | (simp; done) | (simp; omega)); replace hRl := Rd.oldB hRl hb23 (fun b hb => by have h9 := halV.out b hb; cases hb; (try simp at h9); first | (simp; done) | (simp; omega)); replace HB := hid (HB.out.more hb23 (by simp; try omega)); clear hb23; have qb3 := kb3.1; have qV := kV.1; have qb8 := kb8.1; clear mV'; have HoJ := hid hoJ; clear hoJ; have HL24 := HoJ; clear HoJ
    repeat ((fail_if_success refine stp ?_); with_reducible go_step)
    refine region_F ?_; refine pl ?_; refine listF_abs (fun s25 z' => ?_); replace sl2 := gs 2 z' sl2; replace sl8 := gs 8 z' sl8; replace sl31 := gs 31 z' sl31; replace sl32 := gs 32 z' sl32; replace sl33 := gs 33 z' sl33; have sl34 := gu 34 z'; clear z'; refine listF_nil ?_
    repeat ((fail_if_success refine stp ?_); with_reducible go_step)
    refine cond_E sl34 (by decide) ?_ ?_ <;> (clear sl34; intro h34 sl34)
    ·skip
     have hlt : i < l.length := by simpa using h34
     obtain ⟨b, off, rfl, hbs, c0, c1, c2⟩ := RdCks.ne hRl hlt; obtain ⟨⟨t1, t2⟩, hvo⟩ := chk_bd (Hok.out l[i] (Hpl.out.mem_iff.1 (List.getElem_mem hlt))); have Hvo := hid hvo; have htl := hle.out i hlt (Nat.le_refl _); clear hvo
     repeat ((fail_if_success refine stp ?_); with_reducible go_step)
     refine region_F ?_; refine pl ?_; refine pl ?_; refine pa (fun w26 B11 hB kb11' hb27 => ?_); have gb11 := HB.out.gB hB; have lHL24_b11 := HL24.out.gB hB; have ob3_b11 := oB qb3 hB; have oV_b11 := oB qV hB; have ob8_b11 := oB qb8 hB; have eb11 := eB hB; clear hB; clear qb3 qV qb8; replace kb3 := kb3.at hb27; replace kV := kV.at hb27; replace kb8 := kb8.at hb27; replace hRl := Rd.at hRl hb27; replace HL24 := hid (HL24.out.below hb27); replace HB := hid (HB.out.below hb27); clear hb27; have qb3 := kb3.1; have qV := kV.1; have qb8 := kb8.1; have kb11 := kb11'; clear kb11'; have qb11 := kb11.1; have cb11_0 := kb11.cell 0 rfl; have cb11_1 := kb11.cell 1 rfl; have cb11_2 := kb11.cell 2 rfl; have zb11 := kb11.2.2; refine pl ?_; refine listF_absw (fun w28 hw' => ?_); have kb11' := cells_of hw' (Cells.set (i := 2) (Cells.set (i := 1) (Cells.set (i := 0) (kb11))))
     (try simp only [vC, List.set_cons_zero, List.set_cons_succ] at kb11')
     have hb29 : OldB [B11] w26 w28 := oldset hw'; clear hw'; clear cb11_0 cb11_1 cb11_2 zb11; clear qb3 qV qb8 qb11; replace kb11 := kb11'; replace kb3 := kb3.oldB hb29 (by first | (simp; done) | (simp; omega)); replace kV := kV.oldB hb29 (by first | (simp; done) | (simp; omega)); replace kb8 := kb8.oldB hb29 (by first | (simp; done) | (simp; omega)); replace hRl := Rd.oldB hRl hb29 (fun b hb => by have h9 := halV.out b hb; cases hb; (try simp at h9); first | (simp; done) | (simp; omega)); replace HL24 := hid (HL24.out.more hb29 (by simp; try omega)); replace HB := hid (HB.out.more hb29 (by simp; try omega)); clear hb29; have qb3 := kb3.1; have qV := kV.1; have qb8 := kb8.1; have qb11 := kb11.1; clear kb11'; refine listF_abs (fun s30 z' => ?_); replace sl2 := gs 2 z' sl2; replace sl8 := gs 8 z' sl8; have sl11 := gu 11 z'; replace sl31 := gs 31 z' sl31; replace sl32 := gs 32 z' sl32; replace sl33 := gs 33 z' sl33; clear z' sl34
     refine listF_nil ?_
     repeat ((fail_if_success refine stp ?_); with_reducible go_step)
     refine region_F ?_; have cb8_0 := kb8.cell 0 rfl; refine pl ?_; refine pl ?_; have cb11_0 := kb11.cell 0 rfl; have cb11_1 := kb11.cell 1 rfl; have cb11_2 := kb11.cell 2 rfl; refine pl ?_; refine listF_step rfl (fun K' hK => ?_); unfold opF; go_simp; refine (wait_any V k a c s hh l[i].hour _ kV HK.out hs.out.in hhb (by omega)).mono ?_; rintro e w31 ⟨rfl, kV', hb32⟩; refine ⟨_, rfl, hK _ _ ?_⟩; clear hK K'; clear cb11_0 cb11_1 cb11_2 cb8_0; clear qb3 qV qb8 qb11; replace kV := kV'; replace kb3 := kb3.oldB hb32 (by first | (simp; done) | (simp; omega)); replace kb8 := kb8.oldB hb32 (by first | (simp; done) | (simp; omega)); replace kb11 := kb11.oldB hb32 (by first | (simp; done) | (simp; omega)); replace hRl := Rd.oldB hRl hb32 (fun b hb => by have h9 := halV.out b hb; cases hb; (try simp at h9); first | (simp; done) | (simp; omega)); replace HL24 := hid (HL24.out.more hb32 (by simp; try omega)); replace HB := hid (HB.out.more hb32 (by simp; try omega))
     clear hb32; have qb3 := kb3.1; have qV := kV.1; have qb8 := kb8.1; have qb11 := kb11.1; refine listF_abs (fun s33 z' => ?_); replace sl2 := gs 2 z' sl2; replace sl8 := gs 8 z' sl8; replace sl11 := gs 11 z' sl11; replace sl31 := gs 31 z' sl31; replace sl32 := gs 32 z' sl32; replace sl33 := gs 33 z' sl33; clear z'; refine listF_nil ?_
     repeat ((fail_if_success refine stp ?_); with_reducible go_step)
     have cb3_0 := kb3.cell 0 rfl; have cb3_1 := kb3.cell 1 rfl; have cb3_2 := kb3.cell 2 rfl; have cb3_3 := kb3.cell 3 rfl; have cV_0 := kV.cell 0 rfl; have cV_1 := kV.cell 1 rfl; have cV_2 := kV.cell 2 rfl; have cV_3 := kV.cell 3 rfl; have cV_4 := kV.cell 4 rfl; have cV_5 := kV.cell 5 rfl; have cV_6 := kV.cell 6 rfl; have cb8_0 := kb8.cell 0 rfl; have cb11_0 := kb11.cell 0 rfl; have cb11_1 := kb11.cell 1 rfl; have cb11_2 := kb11.cell 2 rfl; refine regionR_F [] [] [] [.q [], .q [], .q [], .q [], .q [], .q [], .q []] [?v9_0, ?v9_1, ?v9_2, ?v9_3, ?v9_4, ?v9_5, ?v9_6] [fun _ => [], fun _ => [], fun _ => [], fun _ => [], fun _ => [], fun _ => [], fun _ => []] (by kernel_rfl) (by kernel_rfl) (by kernel_rfl) (by kernel_rfl) (by kernel_rfl) (by first | exact List.nodup_nil | exact List.nodup_singleton _ | (simp; done) | (simp; omega)) bc_nil ?walk9 ?dep9
     case walk9 =>
      iterate 6 refine rq ?_
      refine walkR_q (by rfl) (fun X hX wq hwq hrq => ?_) ?_
      · obtain ⟨hcq, hfq⟩ := hwq.b0
        clear hrq; go_simp
        (exact result_any V k a c (later k s (l[i].hour - hh)) l[i].hour l[i].volt l[i].passed _ (kV.old hwq (by simp)) (Rd.oldB HR.out (HB.out.more hwq.unDrew (by simp)) (by simp)) HK.out Hvo.out)
      refine walkR_nil (fun X hX w34 hwz hcz => ?_); clear hX hcz
      (try clear X)
      skip; have hb35 := hwz.unDrew; clear hwz; clear cV_0 cV_1 cV_2 cV_3 cV_4 cV_5 cV_6 cb11_0 cb11_1 cb11_2 cb3_0 cb3_1 cb3_2 cb3_3 cb8_0; clear qb3 qV qb8 qb11; replace kb3 := kb3.oldB hb35 (by first | (simp; done) | (simp; omega)); replace kV := kV.oldB hb35 (by first | (simp; done) | (simp; omega)); replace kb8 := kb8.oldB hb35 (by first | (simp; done) | (simp; omega)); replace kb11 := kb11.oldB hb35 (by first | (simp; done) | (simp; omega)); replace hRl := Rd.oldB hRl hb35 (fun b hb => by have h9 := halV.out b hb; cases hb; (try simp at h9); first | (simp; done) | (simp; omega)); replace HL24 := hid (HL24.out.more hb35 (by simp; try omega)); replace HB := hid (HB.out.more hb35 (by simp; try omega)); clear hb35; have qb3 := kb3.1; have qV := kV.1; have qb8 := kb8.1; have qb11 := kb11.1; refine pl ?_; refine pl ?_; have cV_0 := kV.cell 0 rfl; have cV_1 := kV.cell 1 rfl; have cV_2 := kV.cell 2 rfl; have cV_3 := kV.cell 3 rfl; have cV_4 := kV.cell 4 rfl
      have cV_5 := kV.cell 5 rfl; have cV_6 := kV.cell 6 rfl; have zV := kV.2.2; refine pl ?_; refine listF_absw (fun w36 hw' => ?_); have kV' := cells_of hw' (Cells.set (i := 5) (Cells.set (i := 4) (kV)))
      (try simp only [vC, List.set_cons_zero, List.set_cons_succ] at kV')
      have hb37 : OldB [V] w34 w36 := oldset hw'; clear hw'; clear cV_0 cV_1 cV_2 cV_3 cV_4 cV_5 cV_6 zV; clear qb3 qV qb8 qb11; replace kV := kV'; replace kb3 := kb3.oldB hb37 (by first | (simp; done) | (simp; omega)); replace kb8 := kb8.oldB hb37 (by first | (simp; done) | (simp; omega)); replace kb11 := kb11.oldB hb37 (by first | (simp; done) | (simp; omega)); replace hRl := Rd.oldB hRl hb37 (fun b hb => by have h9 := halV.out b hb; cases hb; (try simp at h9); first | (simp; done) | (simp; omega)); replace HL24 := hid (HL24.out.more hb37 (by simp; try omega)); replace HB := hid (HB.out.more hb37 (by simp; try omega)); clear hb37; have qb3 := kb3.1; have qV := kV.1; have qb8 := kb8.1; have qb11 := kb11.1; clear kV'; refine listF_abs (fun s38 z' => ?_); replace sl2 := gs 2 z' sl2; replace sl8 := gs 8 z' sl8; replace sl31 := gs 31 z' sl31; replace sl32 := gs 32 z' sl32; replace sl33 := gs 33 z' sl33; clear z' sl11; refine listF_nil ?_
      repeat ((fail_if_success refine stp ?_); with_reducible go_step)
      have cb3_0 := kb3.cell 0 rfl; have cb3_1 := kb3.cell 1 rfl; have cb3_2 := kb3.cell 2 rfl; have cb3_3 := kb3.cell 3 rfl; have cV_0 := kV.cell 0 rfl; have cV_1 := kV.cell 1 rfl; have cV_2 := kV.cell 2 rfl; have cV_3 := kV.cell 3 rfl; have cV_4 := kV.cell 4 rfl; have cV_5 := kV.cell 5 rfl; have cV_6 := kV.cell 6 rfl; have cb8_0 := kb8.cell 0 rfl; have cb11_0 := kb11.cell 0 rfl; have cb11_1 := kb11.cell 1 rfl; have cb11_2 := kb11.cell 2 rfl; refine regionQ_F (Below w36.heap.size w36) (by kernel_rfl) (by kernel_rfl) (Below.refl _ _).drew ?_
      iterate 11 refine lq ?_
      refine listQ_nil ?_; intro w39 hb40; clear cV_0 cV_1 cV_2 cV_3 cV_4 cV_5 cV_6 cb11_0 cb11_1 cb11_2 cb3_0 cb3_1 cb3_2 cb3_3 cb8_0; clear qb3 qV qb8 qb11; replace kb3 := kb3.at hb40; replace kV := kV.at hb40; replace kb8 := kb8.at hb40; replace kb11 := kb11.at hb40; replace hRl := Rd.at hRl hb40; replace HL24 := hid (HL24.out.below hb40); replace HB := hid (HB.out.below hb40); clear hb40; have qb3 := kb3.1; have qV := kV.1; have qb8 := kb8.1; have qb11 := kb11.1
      repeat ((fail_if_success refine stp ?_); with_reducible go_step)
      refine wp_abs (fun s41 z' => ?_); replace sl2 := gs 2 z' sl2; replace sl8 := gs 8 z' sl8; replace sl31 := gs 31 z' sl31; replace sl32 := gs 32 z' sl32; replace sl33 := gs 33 z' sl33; have sl60 := gu 60 z'; clear z'
      refine cond_E sl60 (by decide) ?_ ?_ <;> (clear sl60; intro h60 sl60)
      ·skip
       have h60' : (agreed k (later k s (l[i].hour - hh)) l[i].volt l[i].passed).hi < (agreed k (later k s (l[i].hour - hh)) l[i].volt l[i].passed).lo := by simpa using h60
       have Hkn := hid (show known k cs = none by rw [← known_eq HK.out (chks_ok Hok.out) Hsl.out Hpl.out]; exact runN_none (by rw [runN_step hlt hrn.out, if_pos h60']))
       repeat ((fail_if_success refine stp ?_); with_reducible go_step)
       refine region_F ?_; refine pl ?_; refine pl ?_; refine listF_abs (fun s42 z' => ?_); have sl6 := gu 6 z'; have sl7 := gu 7 z'; clear z' sl2 sl8 sl31 sl32 sl33 sl60; refine listF_nil ?_
       repeat ((fail_if_success refine stp ?_); with_reducible go_step)
       refine ret_F _ (res_tt Try.results53 ((getD_F (by decide)).trans sl6) ((getD_F (by decide)).trans sl7)) ?_; exact look_no (asked_4 He.out hl30 H25.out Hkn.out) (by decide) HB.out.toBelow
      ·skip
       have h60' : ¬ (agreed k (later k s (l[i].hour - hh)) l[i].volt l[i].passed).hi < (agreed k (later k s (l[i].hour - hh)) l[i].volt l[i].passed).lo := by simpa using h60
       repeat ((fail_if_success refine stp ?_); with_reducible go_step)
       refine region_F ?_; refine pl ?_; refine pl ?_; refine listF_abs (fun s43 z' => ?_); replace sl2 := gs 2 z' sl2; replace sl8 := gs 8 z' sl8; replace sl31 := gs 31 z' sl31; replace sl32 := gs 32 z' sl32; replace sl33 := gu 33 z'; clear z' sl60; refine listF_nil ?_
       repeat ((fail_if_success refine stp ?_); with_reducible go_step)
       refine ⟨_, _, rfl, ?_, i + 1, agreed k (later k s (l[i].hour - hh)) l[i].volt l[i].passed, l[i].hour, rfl, (by first | (with_reducible exact sl33) | (rw [sl33]; (with_reducible go_num); done) | (rw [sl33, IntWalk.i64_in] <;> first | ((with_reducible go_num); done) | omega) | (rw [sl33]; go_num; done) | (rw [sl33]; simp; done) | (rw [sl33]; simp; omega)), (sl2.trans hc0_2.out.symm), (sl8.trans hc0_8.out.symm), (sl31.trans hc0_31.out.symm), (sl32.trans hc0_32.out.symm), HL24.out, (by first | (with_reducible exact kV) | (apply Cells.conv; (focus (exact kV)); (first | rfl | (simp; done)))), hid (by rw [runN_step hlt hrn.out, if_neg h60']), hid (agreed_ok HK.out (later_ok HK.out hs.out (by omega)) Hvo.out), ⟨t1, t2⟩, hid (hrLe_next Hsl.out hlt)⟩
       omega
     case dep9 =>
       iterate 7 refine dR ?_
       exact depR_nil
    ·skip
     have hge : l.length ≤ i := by simpa using h34
     have Hkn := hid (show known k cs = some (s, hh) by rw [← known_eq HK.out (chks_ok Hok.out) Hsl.out Hpl.out]; exact runN_all hge hrn.out)
     repeat ((fail_if_success refine stp ?_); with_reducible go_step)
     clear HL24; clear hc0_2 hc0_8 hc0_31 hc0_32; refine region_F ?_; refine pl ?_; refine pas (fun w44 B64 hB kb64' hb45 => ?_); have gb64 := HB.out.gB hB; have ob3_b64 := oB qb3 hB; have oV_b64 := oB qV hB; have ob8_b64 := oB qb8 hB; have eb64 := eB hB; clear hB; clear qb3 qV qb8; replace kb3 := kb3.at hb45; replace kV := kV.at hb45; replace kb8 := kb8.at hb45; replace hRl := Rd.at hRl hb45; replace HB := hid (HB.out.below hb45); clear hb45; have qb3 := kb3.1; have qV := kV.1; have qb8 := kb8.1; have kb64 := kb64'; clear kb64'; have qb64 := kb64.1; refine listF_step rfl (fun K' hK => ?_); unfold opF; go_simp; refine (out_any 100000 _ _ [h] _ (by simp) (rd1 kb64)).mono ?_; rintro e w46 ⟨rfl, hb47⟩; refine ⟨_, rfl, hK _ _ ?_⟩; clear hK K'; clear qb3 qV qb8 qb64; replace kb3 := kb3.at hb47; replace kV := kV.at hb47; replace kb8 := kb8.at hb47; replace kb64 := kb64.at hb47; replace hRl := Rd.at hRl hb47; replace HB := hid (HB.out.below hb47); clear hb47; have qb3 := kb3.1
     have qV := kV.1; have qb8 := kb8.1; have qb64 := kb64.1; refine pl ?_; refine listF_abs (fun s48 z' => ?_); replace sl2 := gs 2 z' sl2; replace sl8 := gs 8 z' sl8; have sl62 := gu 62 z'; clear z' sl31 sl32 sl33 sl34; refine listF_nil ?_
     repeat ((fail_if_success refine stp ?_); with_reducible go_step)
     refine cond_E sl62 (by decide) ?_ ?_ <;> (clear sl62; intro h62 sl62)
     ·skip
      have H62 := hid (show inb h 0 100000 = false by have h := out1_t h62; rw [← inb_iff] at h; simpa using h)
      repeat ((fail_if_success refine stp ?_); with_reducible go_step)
      refine region_F ?_; refine pl ?_; refine pl ?_; refine listF_abs (fun s49 z' => ?_); have sl6 := gu 6 z'; have sl7 := gu 7 z'; clear z' sl2 sl8 sl62; refine listF_nil ?_
      repeat ((fail_if_success refine stp ?_); with_reducible go_step)
      refine ret_F _ (res_tt Try.results53 ((getD_F (by decide)).trans sl6) ((getD_F (by decide)).trans sl7)) ?_; exact look_no (by rw [asked_5 He.out hl30 H25.out Hkn.out, if_pos H62.out]) (by decide) HB.out.toBelow
     ·skip
      obtain ⟨hh1, hh2⟩ := out1_f h62; have H62 := hid (show ¬ inb h 0 100000 = false by rw [(inb_iff _ _ _).2 ⟨hh1, hh2⟩]; decide)
      repeat ((fail_if_success refine stp ?_); with_reducible go_step)
      refine region_F ?_; refine pl ?_; have cb8_0 := kb8.cell 0 rfl
      iterate 3 refine pl ?_
      have cV_0 := kV.cell 0 rfl; have cV_1 := kV.cell 1 rfl; have cV_2 := kV.cell 2 rfl; have cV_3 := kV.cell 3 rfl; have cV_4 := kV.cell 4 rfl; have cV_5 := kV.cell 5 rfl; have cV_6 := kV.cell 6 rfl
      iterate 3 refine pl ?_
      refine listF_abs (fun s50 z' => ?_); replace sl2 := gs 2 z' sl2; replace sl8 := gs 8 z' sl8; have sl66 := gu 66 z'; clear z' sl62; refine listF_nil ?_
      repeat ((fail_if_success refine stp ?_); with_reducible go_step)
      refine cond_E sl66 (by decide) ?_ ?_ <;> (clear sl66; intro h66 sl66)
      ·skip
       have h66' : h < hh := by simpa using h66
       repeat ((fail_if_success refine stp ?_); with_reducible go_step)
       refine region_F ?_; refine pl ?_; refine pl ?_; refine listF_abs (fun s51 z' => ?_); have sl6 := gu 6 z'; have sl7 := gu 7 z'; clear z' sl2 sl8 sl66; refine listF_nil ?_
       repeat ((fail_if_success refine stp ?_); with_reducible go_step)
       refine ret_F _ (res_tt Try.results53 ((getD_F (by decide)).trans sl6) ((getD_F (by decide)).trans sl7)) ?_; exact look_no (by rw [asked_5 He.out hl30 H25.out Hkn.out, if_neg H62.out, if_pos h66']) (by decide) HB.out.toBelow
      ·skip
       have h66' : ¬ h < hh := by simpa using h66
       repeat ((fail_if_success refine stp ?_); with_reducible go_step)
       refine region_F ?_; refine pl ?_; refine pl ?_; refine listF_step rfl (fun K' hK => ?_); unfold opF; go_simp; refine (wait_any V k a c s hh h _ kV HK.out hs.out.in hhb (by omega)).mono ?_; rintro e w52 ⟨rfl, kV', hb53⟩; refine ⟨_, rfl, hK _ _ ?_⟩; clear hK K'; clear cV_0 cV_1 cV_2 cV_3 cV_4 cV_5 cV_6 cb8_0; clear qb3 qV qb8 qb64; replace kV := kV'; replace kb3 := kb3.oldB hb53 (by first | (simp; done) | (simp; omega)); replace kb8 := kb8.oldB hb53 (by first | (simp; done) | (simp; omega)); replace kb64 := kb64.oldB hb53 (by first | (simp; done) | (simp; omega)); replace hRl := Rd.oldB hRl hb53 (fun b hb => by have h9 := halV.out b hb; cases hb; (try simp at h9); first | (simp; done) | (simp; omega)); replace HB := hid (HB.out.more hb53 (by simp; try omega)); clear hb53; have qb3 := kb3.1; have qV := kV.1; have qb8 := kb8.1; have qb64 := kb64.1; refine listF_abs (fun s54 z' => ?_); replace sl8 := gs 8 z' sl8; clear z' sl2 sl66
       refine listF_nil ?_
       repeat ((fail_if_success refine stp ?_); with_reducible go_step)
       refine region_F ?_; have cb8_0 := kb8.cell 0 rfl
       iterate 3 refine pl ?_
       refine listF_abs (fun s55 z' => ?_); have sl6 := gu 6 z'; have sl7 := gu 7 z'; clear z' sl8; refine listF_nil ?_
       repeat ((fail_if_success refine stp ?_); with_reducible go_step)
       refine ret_F _ (res_tt Try.results53 ((getD_F (by decide)).trans sl6) ((getD_F (by decide)).trans sl7)) ?_
       have ha : asked k cs h = (later k s (h - hh), 0) := by rw [asked_5 He.out hl30 H25.out Hkn.out, if_neg H62.out, if_neg h66']
       exact .inl ⟨V, by rw [ha], rfl, gV, by rw [ha]; exact kV, HB.out.toBelow⟩
 ·skip
  have He := hid he
  have he1 : (kdErr k != 0) = true := by simpa using he
  clear he; refine listF_step rfl (fun K' hK => ?_); unfold opF; go_simp; refine (open_bad k a c _ HN.out hsl (Rd.oldB HR.out HB.out (by simp)) He.out).mono ?_; rintro e w56 ⟨rfl, hb57⟩; refine ⟨_, rfl, hK _ _ ?_⟩; clear hK K'; clear cb3_0 cb3_1 cb3_2 cb3_3; clear qb3; replace kb3 := kb3.at hb57; replace HB := hid (HB.out.below hb57); clear hb57; have qb3 := kb3.1
  iterate 3 refine pl ?_
  refine pa (fun w58 B8 hB kb8' hb59 => ?_); have gb8 := HB.out.gB hB; have ob3_b8 := oB qb3 hB; have eb8 := eB hB; clear hB; clear qb3; replace kb3 := kb3.at hb59; replace HB := hid (HB.out.below hb59); clear hb59; have qb3 := kb3.1; have kb8 := kb8'; clear kb8'; have qb8 := kb8.1; have cb8_0 := kb8.cell 0 rfl; have zb8 := kb8.2.2; refine pl ?_; refine listF_absw (fun w60 hw' => ?_); have kb8' := cells_of hw' (Cells.set (i := 0) (kb8))
  (try simp only [vC, List.set_cons_zero, List.set_cons_succ] at kb8')
  have hb61 : OldB [B8] w58 w60 := oldset hw'; clear hw'; clear cb8_0 zb8; clear qb3 qb8; replace kb8 := kb8'; replace kb3 := kb3.oldB hb61 (by first | (simp; done) | (simp; omega)); replace HB := hid (HB.out.more hb61 (by simp; try omega)); clear hb61; have qb3 := kb3.1; have qb8 := kb8.1; clear kb8'; refine pl ?_; refine listF_abs (fun s62 z' => ?_); replace sl1 := gs 1 z' sl1; replace sl2 := gs 2 z' sl2; have sl8 := gu 8 z'; have sl9 := gu 9 z'; clear z' sl3; refine listF_nil ?_
  repeat ((fail_if_success refine stp ?_); with_reducible go_step)
  refine region_F ?_
  iterate 3 refine pl ?_
  refine listF_abs (fun s63 z' => ?_); replace sl1 := gs 1 z' sl1; replace sl2 := gs 2 z' sl2; replace sl8 := gs 8 z' sl8; replace sl9 := gs 9 z' sl9; have sl17 := gu 17 z'; clear z'; refine listF_nil ?_
  repeat ((fail_if_success refine stp ?_); with_reducible go_step)
  refine cond_t ?_
  repeat ((fail_if_success refine stp ?_); with_reducible go_step)
  refine region_F ?_
  iterate 3 refine pl ?_
  refine listF_abs (fun s64 z' => ?_); have sl6 := gu 6 z'; have sl7 := gu 7 z'; clear z' sl1 sl2 sl8 sl9 sl17; refine listF_nil ?_
  repeat ((fail_if_success refine stp ?_); with_reducible go_step)
  refine ret_F _ (res_tt Try.results53 ((getD_F (by decide)).trans sl6) ((getD_F (by decide)).trans sl7)) ?_; exact look_no (asked_1 He.out) He.out HB.out.toBelow
end

section
open Go.RowKit


theorem asked_zero {k : Kd} {cs : List MCk} {h : Int} (he : (asked k cs h).2 ≠ 0) : (asked k cs h).1 = Span.zero := by
  unfold asked at *
  split
  · rfl
  split
  · rfl
  split
  · rfl
  rename_i h1 h2 h3
  rw [if_neg h1, if_neg h2, if_neg h3] at he
  split at he
  · rfl
  · split
    · rfl
    split
    · rfl
    rename_i h4 h5
    rw [if_neg h4, if_neg h5] at he; exact absurd rfl he
theorem asked_in {k : Kd} {cs : List MCk} {h : Int} (he : (asked k cs h).2 = 0) : KOk k ∧ kdErr k = 0 ∧ spanOk (asked k cs h).1 ∧ (asked k cs h).1.lo ≤ (asked k cs h).1.hi ∧ 0 ≤ h ∧ h ≤ 100000 ∧ 0 ≤ (asked k cs h).1.lo ∧ 0 ≤ (asked k cs h).1.hi := by
  have ha := asked_ok he; have hK := kok_of ha.1; rw [asked_of ha]; obtain ⟨hE, _, hc, hv, h0, h1, hh⟩ := ha; have hn1 := hK.n1; have hn0 := hK.n0; have hw0 := hK.w0; have hw1 := hK.w1
  have hmul : ∀ x, 0 ≤ x → 0 ≤ x * k.wear.hi := fun x hx => Int.mul_nonneg hx (by omega)
  have hml : 0 ≤ h * k.wear.lo := Int.mul_nonneg h0 hw0
  have a1 : loC k cs h ≤ 1000000 := loC_le.2 ⟨by omega, by have := hmul h h0; omega, fun c hc' hp => by
    have hcb := chk_bd (hc c hc'); have hnb := needed_bd hK hcb.2; have hlh := (lastH_iff.1 hh).2 c hc'; have := hmul (h - c.hour) (by omega)
    omega⟩
  have a0 := loC_nn k cs h; have a2 : hiC k cs h ≤ k.new - h * k.wear.lo := (le_hiC.1 (Int.le_refl (hiC k cs h))).1
  refine ⟨hK, hE, ⟨⟨?_, ?_⟩, ?_, ?_⟩, ?_, h0, h1, ?_, ?_⟩ <;> simp only [closed]
  · omega
  · exact a1
  · omega
  · omega
  · -- the ends of the span
    have key : loC k cs h ≤ max 0 (hiC k cs h) := by
      by_cases hcs : cs = []
      · subst hcs
        have e1 : loC k [] h = max 0 (k.new - h * k.wear.hi) := rfl; have e2 : hiC k [] h = k.new - h * k.wear.lo := rfl; have : h * k.wear.lo ≤ h * k.wear.hi := Int.mul_le_mul_of_nonneg_left hw1 h0
        omega
      · obtain ⟨c, hc', hcl⟩ : ∃ c ∈ cs, c.hour = lastH cs := by
          clear hv hh a1 a0 a2
          have hne : ∀ l : List MCk, l ≠ [] → (∀ c ∈ l, 0 ≤ c.hour) → ∃ c ∈ l, c.hour = lastH l := by
            intro l
            induction l using snoc_ind with
            | h0 => intro h; exact absurd rfl h
            | hs l a ih =>
              intro _ hp; rw [lastH_snoc]
              by_cases hl : l = []
              · subst hl; refine ⟨a, by simp, ?_⟩; have := hp a (by simp); show a.hour = max (lastH []) a.hour; show a.hour = max 0 a.hour; omega
              · obtain ⟨c, hc, he⟩ := ih hl (fun c hc => hp c (by simp [hc]))
                by_cases hle : a.hour ≤ lastH l
                · exact ⟨c, by simp [hc], by omega⟩
                · exact ⟨a, by simp, by omega⟩
          exact hne cs hcs (fun c hc' => (chk_bd (hc c hc')).1.1)
        have h5 := (hv c hc').1; rw [hcl, upto_all (fun x hx => (lastH_iff.1 (Int.le_refl (lastH cs))).2 x hx)] at h5; have e := later_closed hK hh
        have e1 : (later k (closed k cs (lastH cs)) (h - lastH cs)).lo ≤ (later k (closed k cs (lastH cs)) (h - lastH cs)).hi := by
          unfold later closed
          simp only
          have : (h - lastH cs) * k.wear.lo ≤ (h - lastH cs) * k.wear.hi := Int.mul_le_mul_of_nonneg_left hw1 (by omega)
          omega
        rw [e] at e1; exact e1
    exact key
  · exact a0
  · omega
def failsRes (k : Kd) (cs : List MCk) (h : Int) : Fail × Int := if (asked k cs h).2 = 0 then (failsOf k (asked k cs h).1 h, 0) else (Fail.zero, (asked k cs h).2)
def LookOk (k : Kd) (a : Option Addr) (c : Nat) (cs : List MCk) (h : Int) (w : World) (e : Ending) (w' : World) : Prop :=
  ∃ V, e = .returned (.tuple #[.pointer (some ⟨V, 0, none⟩), .int .i64 0]) ∧ w.heap.size ≤ V ∧ Cells w' V (vC k a c (asked k cs h).1 h) ∧ Below w.heap.size w w'

theorem look_ok (k : Kd) (a : Option Addr) (c : Nat) (ac : Option Addr) (cc : Nat) (cs : List MCk) (h : Int) (w : World) (hN : -9223372036854775808 ≤ k.new ∧ k.new ≤ 9223372036854775807) (hsl : k.steps.length ≤ 9223372036854775807) (hR : RdSteps w a k.steps) (hRc : RdCks w ac cs) (hlc : cs.length ≤ 9223372036854775807) (ha : (asked k cs h).2 = 0) :
    Calls Try.prog 53 #[.agg #[.int .i64 k.new, .int .i64 k.wear.lo, .int .i64 k.wear.hi, .slice a k.steps.length c], .slice ac cs.length cc, .int .i64 h] w (LookOk k a c cs h w) :=
  (look_any k a c ac cc cs h w hN hsl hR hRc hlc).mono fun e w' hh => by
    rcases hh with ⟨V, _, h2, h3, h4, h5⟩ | ⟨h1, _⟩
    · exact ⟨V, h2, h3, h4, h5⟩
    · exact absurd ha h1

theorem look_bad (k : Kd) (a : Option Addr) (c : Nat) (ac : Option Addr) (cc : Nat) (cs : List MCk) (h : Int) (w : World) (hN : -9223372036854775808 ≤ k.new ∧ k.new ≤ 9223372036854775807) (hsl : k.steps.length ≤ 9223372036854775807) (hR : RdSteps w a k.steps) (hRc : RdCks w ac cs) (hlc : cs.length ≤ 9223372036854775807) (ha : (asked k cs h).2 ≠ 0) :
    Calls Try.prog 53 #[.agg #[.int .i64 k.new, .int .i64 k.wear.lo, .int .i64 k.wear.hi, .slice a k.steps.length c], .slice ac cs.length cc, .int .i64 h] w fun e w' => e = .returned (.tuple #[.pointer none, .int .i64 (asked k cs h).2]) ∧ Below w.heap.size w w' :=
  (look_any k a c ac cc cs h w hN hsl hR hRc hlc).mono fun e w' hh => by
    rcases hh with ⟨V, h1, _⟩ | ⟨_, h2, h3⟩
    · exact absurd h1 ha
    · exact ⟨h2, h3⟩

set_option maxRecDepth 100000 in
set_option maxHeartbeats 1000000 in
theorem qnow_any (k : Kd) (a : Option Addr) (c : Nat) (ac : Option Addr) (cc : Nat) (cs : List MCk) (h : Int) (w : World) (hN : -9223372036854775808 ≤ k.new ∧ k.new ≤ 9223372036854775807) (hsl : k.steps.length ≤ 9223372036854775807) (hR : RdSteps w a k.steps) (hRc : RdCks w ac cs) (hlc : cs.length ≤ 9223372036854775807) :
    Calls Try.prog 23 #[.agg #[.int .i64 k.new, .int .i64 k.wear.lo, .int .i64 k.wear.hi, .slice a k.steps.length c], .slice ac cs.length cc, .int .i64 h] w (fun e w' => e = .returned (.tuple #[.agg #[.int .i64 (asked k cs h).1.lo, .int .i64 (asked k cs h).1.hi], .int .i64 (asked k cs h).2]) ∧ Below w.heap.size w w') := by
 have HR := hid hR; have HN := hid hN; have HRc := hid hRc; clear hR hN hRc
 refine enter_F Try.func23 rfl Try.ntmps23 (by simp) ?_
 intro s0 hs; have sl0 : s0 0 = .agg #[.int .i64 k.new, .int .i64 k.wear.lo, .int .i64 k.wear.hi, .slice a k.steps.length c] := hs 0 (by simp); have sl1 : s0 1 = .slice ac cs.length cc := hs 1 (by simp); have sl2 : s0 2 = .int .i64 h := hs 2 (by simp); clear hs; have HB := hid (OldB.refl [] w)
 repeat ((fail_if_success refine stp ?_); with_reducible go_step)
 refine region_F ?_; refine pa (fun w1 B3 hB kb3' hb2 => ?_); have gb3 := HB.out.gB hB; have eb3 := eB hB; clear hB; replace HB := hid (HB.out.below hb2); clear hb2; have kb3 := kb3'; clear kb3'; have qb3 := kb3.1; refine pa (fun w3 B6 hB kb6' hb4 => ?_); have gb6 := HB.out.gB hB; have ob3_b6 := oB qb3 hB; have eb6 := eB hB; clear hB; clear qb3; replace kb3 := kb3.at hb4; replace HB := hid (HB.out.below hb4); clear hb4; have qb3 := kb3.1; have kb6 := kb6'; clear kb6'; have qb6 := kb6.1; refine pl ?_; refine listF_abs (fun s5 z' => ?_); replace sl1 := gs 1 z' sl1; replace sl2 := gs 2 z' sl2; have sl3 := gu 3 z'; have sl6 := gu 6 z'; clear z' sl0; refine listF_nil ?_
 repeat ((fail_if_success refine stp ?_); with_reducible go_step)
 refine region_F ?_; have cb3_0 := kb3.cell 0 rfl; have cb3_1 := kb3.cell 1 rfl; have cb3_2 := kb3.cell 2 rfl; have cb3_3 := kb3.cell 3 rfl
 iterate 3 refine pl ?_
 by_cases ha : (asked k cs h).2 = 0
 ·skip
  obtain ⟨hK, _, hsp, hlh, hh1, hh2, hlo0, hhi0⟩ := asked_in ha; have HK := hid hK; have Hsp := hid hsp; have Ha := hid ha; clear ha hK hsp; refine listF_step rfl (fun K' hK => ?_); unfold opF; go_simp; refine (look_ok k a c ac cc cs h _ HN.out hsl (Rd.oldB HR.out HB.out (by simp)) (Rd.oldB HRc.out HB.out (by simp)) hlc Ha.out).mono ?_; rintro e w6 ⟨V, rfl, gV', hV', hb7⟩
  have gV : w.heap.size ≤ V := by have := HB.out.size; omega
  have ob3_V : B3 < V := by have := gV'; omega
  have ob6_V : B6 < V := by have := gV'; omega
  refine ⟨_, rfl, hK _ _ ?_⟩; clear hK K'; clear cb3_0 cb3_1 cb3_2 cb3_3; clear qb3 qb6; replace kb3 := kb3.at hb7; replace kb6 := kb6.at hb7; replace HB := hid (HB.out.below hb7); clear hb7; have qb3 := kb3.1; have qb6 := kb6.1; have kV := hV'; clear hV'; have qV := kV.1
  iterate 5 refine pl ?_
  refine listF_abs (fun s8 z' => ?_); replace sl6 := gs 6 z' sl6; have sl8 := gu 8 z'; have sl9 := gu 9 z'; clear z' sl1 sl2 sl3; refine listF_nil ?_
  repeat ((fail_if_success refine stp ?_); with_reducible go_step)
  refine region_F ?_; refine pl ?_; refine pl ?_; refine listF_abs (fun s9 z' => ?_); replace sl6 := gs 6 z' sl6; replace sl8 := gs 8 z' sl8; replace sl9 := gs 9 z' sl9; have sl18 := gu 18 z'; clear z'; refine listF_nil ?_
  repeat ((fail_if_success refine stp ?_); with_reducible go_step)
  refine cond_f ?_
  repeat ((fail_if_success refine stp ?_); with_reducible go_step)
  refine region_F ?_
  iterate 3 refine pl ?_
  have cV_0 := kV.cell 0 rfl; have cV_1 := kV.cell 1 rfl; have cV_2 := kV.cell 2 rfl; have cV_3 := kV.cell 3 rfl; have cV_4 := kV.cell 4 rfl; have cV_5 := kV.cell 5 rfl; have cV_6 := kV.cell 6 rfl; refine pl ?_; have cb6_0 := kb6.cell 0 rfl; have cb6_1 := kb6.cell 1 rfl; have zb6 := kb6.2.2; refine pl ?_; refine listF_absw (fun w10 hw' => ?_); have kb6' := cells_of hw' (Cells.set (i := 1) (Cells.set (i := 0) (kb6)))
  (try simp only [vC, List.set_cons_zero, List.set_cons_succ] at kb6')
  have hb11 : OldB [B6] w6 w10 := oldset hw'; clear hw'; clear cV_0 cV_1 cV_2 cV_3 cV_4 cV_5 cV_6 cb6_0 cb6_1 zb6; clear qb3 qb6 qV; replace kb6 := kb6'; replace kb3 := kb3.oldB hb11 (by first | (simp; done) | (simp; omega)); replace kV := kV.oldB hb11 (by first | (simp; done) | (simp; omega)); replace HB := hid (HB.out.more hb11 (by simp; try omega)); clear hb11; have qb3 := kb3.1; have qb6 := kb6.1; have qV := kV.1; clear kb6'; refine pl ?_; refine listF_abs (fun s12 z' => ?_); replace sl6 := gs 6 z' sl6; have sl7 := gu 7 z'; clear z' sl8 sl9 sl18; refine listF_nil ?_
  repeat ((fail_if_success refine stp ?_); with_reducible go_step)
  have cb6_0 := kb6.cell 0 rfl; have cb6_1 := kb6.cell 1 rfl; refine ret_F _ (res_ct Try.results23 ((getD_F (by decide)).trans sl6) (load_t23 cb6_0 cb6_1) ((getD_F (by decide)).trans sl7)) ?_; exact ⟨by rw [Ha.out], HB.out.toBelow⟩
 ·skip
  have Ha := hid ha
  have ha1 : ((asked k cs h).2 != 0) = true := by simpa using ha
  have Hz := hid (asked_zero ha); clear ha; refine listF_step rfl (fun K' hK => ?_); unfold opF; go_simp; refine (look_bad k a c ac cc cs h _ HN.out hsl (Rd.oldB HR.out HB.out (by simp)) (Rd.oldB HRc.out HB.out (by simp)) hlc Ha.out).mono ?_; rintro e w13 ⟨rfl, hb14⟩; refine ⟨_, rfl, hK _ _ ?_⟩; clear hK K'; clear cb3_0 cb3_1 cb3_2 cb3_3; clear qb3 qb6; replace kb3 := kb3.at hb14; replace kb6 := kb6.at hb14; replace HB := hid (HB.out.below hb14); clear hb14; have qb3 := kb3.1; have qb6 := kb6.1
  iterate 5 refine pl ?_
  refine listF_abs (fun s15 z' => ?_); replace sl6 := gs 6 z' sl6; have sl8 := gu 8 z'; have sl9 := gu 9 z'; clear z' sl1 sl2 sl3; refine listF_nil ?_
  repeat ((fail_if_success refine stp ?_); with_reducible go_step)
  refine region_F ?_; refine pl ?_; refine pl ?_; refine listF_abs (fun s16 z' => ?_); replace sl6 := gs 6 z' sl6; replace sl8 := gs 8 z' sl8; replace sl9 := gs 9 z' sl9; have sl18 := gu 18 z'; clear z'; refine listF_nil ?_
  repeat ((fail_if_success refine stp ?_); with_reducible go_step)
  refine cond_t ?_
  repeat ((fail_if_success refine stp ?_); with_reducible go_step)
  refine region_F ?_; refine pl ?_; refine pl ?_; have cb6_0 := kb6.cell 0 rfl; have cb6_1 := kb6.cell 1 rfl; have zb6 := kb6.2.2; refine pl ?_; refine listF_absw (fun w17 hw' => ?_); have kb6' := cells_of hw' (Cells.set (i := 1) (Cells.set (i := 0) (kb6)))
  (try simp only [vC, List.set_cons_zero, List.set_cons_succ] at kb6')
  have hb18 : OldB [B6] w13 w17 := oldset hw'; clear hw'; clear cb6_0 cb6_1 zb6; clear qb3 qb6; replace kb6 := kb6'; replace kb3 := kb3.oldB hb18 (by first | (simp; done) | (simp; omega)); replace HB := hid (HB.out.more hb18 (by simp; try omega)); clear hb18; have qb3 := kb3.1; have qb6 := kb6.1; clear kb6'; refine pl ?_; refine listF_abs (fun s19 z' => ?_); replace sl6 := gs 6 z' sl6; have sl7 := gu 7 z'; clear z' sl8 sl9 sl18; refine listF_nil ?_
  repeat ((fail_if_success refine stp ?_); with_reducible go_step)
  have cb6_0 := kb6.cell 0 rfl; have cb6_1 := kb6.cell 1 rfl; refine ret_F _ (res_ct Try.results23 ((getD_F (by decide)).trans sl6) (load_t23 cb6_0 cb6_1) ((getD_F (by decide)).trans sl7)) ?_; exact ⟨by rw [Hz.out]; rfl, HB.out.toBelow⟩

set_option maxRecDepth 100000 in
set_option maxHeartbeats 1000000 in
theorem qfails_any (k : Kd) (a : Option Addr) (c : Nat) (ac : Option Addr) (cc : Nat) (cs : List MCk) (h : Int) (w : World) (hN : -9223372036854775808 ≤ k.new ∧ k.new ≤ 9223372036854775807) (hsl : k.steps.length ≤ 9223372036854775807) (hR : RdSteps w a k.steps) (hRc : RdCks w ac cs) (hlc : cs.length ≤ 9223372036854775807) :
    Calls Try.prog 25 #[.agg #[.int .i64 k.new, .int .i64 k.wear.lo, .int .i64 k.wear.hi, .slice a k.steps.length c], .slice ac cs.length cc, .int .i64 h] w (fun e w' => e = .returned (.tuple #[.agg #[.int .i64 (failsRes k cs h).1.earliest, .int .i64 (failsRes k cs h).1.latest], .int .i64 (failsRes k cs h).2]) ∧ Below w.heap.size w w') := by
 have HR := hid hR; have HN := hid hN; have HRc := hid hRc; clear hR hN hRc
 refine enter_F Try.func25 rfl Try.ntmps25 (by simp) ?_
 intro s0 hs; have sl0 : s0 0 = .agg #[.int .i64 k.new, .int .i64 k.wear.lo, .int .i64 k.wear.hi, .slice a k.steps.length c] := hs 0 (by simp); have sl1 : s0 1 = .slice ac cs.length cc := hs 1 (by simp); have sl2 : s0 2 = .int .i64 h := hs 2 (by simp); clear hs; have HB := hid (OldB.refl [] w)
 repeat ((fail_if_success refine stp ?_); with_reducible go_step)
 refine region_F ?_; refine pa (fun w1 B3 hB kb3' hb2 => ?_); have gb3 := HB.out.gB hB; have eb3 := eB hB; clear hB; replace HB := hid (HB.out.below hb2); clear hb2; have kb3 := kb3'; clear kb3'; have qb3 := kb3.1; refine pa (fun w3 B6 hB kb6' hb4 => ?_); have gb6 := HB.out.gB hB; have ob3_b6 := oB qb3 hB; have eb6 := eB hB; clear hB; clear qb3; replace kb3 := kb3.at hb4; replace HB := hid (HB.out.below hb4); clear hb4; have qb3 := kb3.1; have kb6 := kb6'; clear kb6'; have qb6 := kb6.1; refine pl ?_; refine listF_abs (fun s5 z' => ?_); replace sl1 := gs 1 z' sl1; replace sl2 := gs 2 z' sl2; have sl3 := gu 3 z'; have sl6 := gu 6 z'; clear z' sl0; refine listF_nil ?_
 repeat ((fail_if_success refine stp ?_); with_reducible go_step)
 refine region_F ?_; have cb3_0 := kb3.cell 0 rfl; have cb3_1 := kb3.cell 1 rfl; have cb3_2 := kb3.cell 2 rfl; have cb3_3 := kb3.cell 3 rfl
 iterate 3 refine pl ?_
 by_cases ha : (asked k cs h).2 = 0
 ·skip
  obtain ⟨hK, _, hsp, hlh, hh1, hh2, hlo0, hhi0⟩ := asked_in ha; have HK := hid hK; have Hsp := hid hsp; have Ha := hid ha; clear ha hK hsp; refine listF_step rfl (fun K' hK => ?_); unfold opF; go_simp; refine (look_ok k a c ac cc cs h _ HN.out hsl (Rd.oldB HR.out HB.out (by simp)) (Rd.oldB HRc.out HB.out (by simp)) hlc Ha.out).mono ?_; rintro e w6 ⟨V, rfl, gV', hV', hb7⟩
  have gV : w.heap.size ≤ V := by have := HB.out.size; omega
  have ob3_V : B3 < V := by have := gV'; omega
  have ob6_V : B6 < V := by have := gV'; omega
  refine ⟨_, rfl, hK _ _ ?_⟩; clear hK K'; clear cb3_0 cb3_1 cb3_2 cb3_3; clear qb3 qb6; replace kb3 := kb3.at hb7; replace kb6 := kb6.at hb7; replace HB := hid (HB.out.below hb7); clear hb7; have qb3 := kb3.1; have qb6 := kb6.1; have kV := hV'; clear hV'; have qV := kV.1
  iterate 5 refine pl ?_
  refine listF_abs (fun s8 z' => ?_); replace sl6 := gs 6 z' sl6; have sl8 := gu 8 z'; have sl9 := gu 9 z'; clear z' sl1 sl2 sl3; refine listF_nil ?_
  repeat ((fail_if_success refine stp ?_); with_reducible go_step)
  refine region_F ?_; refine pl ?_; refine pl ?_; refine listF_abs (fun s9 z' => ?_); replace sl6 := gs 6 z' sl6; replace sl8 := gs 8 z' sl8; replace sl9 := gs 9 z' sl9; have sl18 := gu 18 z'; clear z'; refine listF_nil ?_
  repeat ((fail_if_success refine stp ?_); with_reducible go_step)
  refine cond_f ?_
  repeat ((fail_if_success refine stp ?_); with_reducible go_step)
  refine region_F ?_; refine pl ?_; refine listF_step rfl (fun K' hK => ?_); unfold opF; go_simp; refine (fails_any V k a c _ h _ kV (Rd.oldB HR.out HB.out (by simp)) HK.out Hsp.out.in ⟨hh1, hh2⟩).mono ?_; rintro e w10 ⟨rfl, hb11⟩; refine ⟨_, rfl, hK _ _ ?_⟩; clear hK K'; clear qb3 qb6 qV; replace kb3 := kb3.at hb11; replace kb6 := kb6.at hb11; replace kV := kV.at hb11; replace HB := hid (HB.out.below hb11); clear hb11; have qb3 := kb3.1; have qb6 := kb6.1; have qV := kV.1; have cb6_0 := kb6.cell 0 rfl; have cb6_1 := kb6.cell 1 rfl; have zb6 := kb6.2.2; refine pl ?_; refine listF_absw (fun w12 hw' => ?_); have kb6' := cells_of hw' (Cells.set (i := 1) (Cells.set (i := 0) (kb6)))
  (try simp only [vC, List.set_cons_zero, List.set_cons_succ] at kb6')
  have hb13 : OldB [B6] w10 w12 := oldset hw'; clear hw'; clear cb6_0 cb6_1 zb6; clear qb3 qb6 qV; replace kb6 := kb6'; replace kb3 := kb3.oldB hb13 (by first | (simp; done) | (simp; omega)); replace kV := kV.oldB hb13 (by first | (simp; done) | (simp; omega)); replace HB := hid (HB.out.more hb13 (by simp; try omega)); clear hb13; have qb3 := kb3.1; have qb6 := kb6.1; have qV := kV.1; clear kb6'; refine pl ?_; refine listF_abs (fun s14 z' => ?_); replace sl6 := gs 6 z' sl6; have sl7 := gu 7 z'; clear z' sl8 sl9 sl18; refine listF_nil ?_
  repeat ((fail_if_success refine stp ?_); with_reducible go_step)
  have cb6_0 := kb6.cell 0 rfl; have cb6_1 := kb6.cell 1 rfl; refine ret_F _ (res_ct Try.results25 ((getD_F (by decide)).trans sl6) (load_t37 cb6_0 cb6_1) ((getD_F (by decide)).trans sl7)) ?_; exact ⟨by unfold failsRes; rw [if_pos Ha.out]; rfl, HB.out.toBelow⟩
 ·skip
  have Ha := hid ha
  have ha1 : ((asked k cs h).2 != 0) = true := by simpa using ha
  have Hz := hid (asked_zero ha); clear ha; refine listF_step rfl (fun K' hK => ?_); unfold opF; go_simp; refine (look_bad k a c ac cc cs h _ HN.out hsl (Rd.oldB HR.out HB.out (by simp)) (Rd.oldB HRc.out HB.out (by simp)) hlc Ha.out).mono ?_; rintro e w15 ⟨rfl, hb16⟩; refine ⟨_, rfl, hK _ _ ?_⟩; clear hK K'; clear cb3_0 cb3_1 cb3_2 cb3_3; clear qb3 qb6; replace kb3 := kb3.at hb16; replace kb6 := kb6.at hb16; replace HB := hid (HB.out.below hb16); clear hb16; have qb3 := kb3.1; have qb6 := kb6.1
  iterate 5 refine pl ?_
  refine listF_abs (fun s17 z' => ?_); replace sl6 := gs 6 z' sl6; have sl8 := gu 8 z'; have sl9 := gu 9 z'; clear z' sl1 sl2 sl3; refine listF_nil ?_
  repeat ((fail_if_success refine stp ?_); with_reducible go_step)
  refine region_F ?_; refine pl ?_; refine pl ?_; refine listF_abs (fun s18 z' => ?_); replace sl6 := gs 6 z' sl6; replace sl8 := gs 8 z' sl8; replace sl9 := gs 9 z' sl9; have sl18 := gu 18 z'; clear z'; refine listF_nil ?_
  repeat ((fail_if_success refine stp ?_); with_reducible go_step)
  refine cond_t ?_
  repeat ((fail_if_success refine stp ?_); with_reducible go_step)
  refine region_F ?_; refine pl ?_; refine pl ?_; have cb6_0 := kb6.cell 0 rfl; have cb6_1 := kb6.cell 1 rfl; have zb6 := kb6.2.2; refine pl ?_; refine listF_absw (fun w19 hw' => ?_); have kb6' := cells_of hw' (Cells.set (i := 1) (Cells.set (i := 0) (kb6)))
  (try simp only [vC, List.set_cons_zero, List.set_cons_succ] at kb6')
  have hb20 : OldB [B6] w15 w19 := oldset hw'; clear hw'; clear cb6_0 cb6_1 zb6; clear qb3 qb6; replace kb6 := kb6'; replace kb3 := kb3.oldB hb20 (by first | (simp; done) | (simp; omega)); replace HB := hid (HB.out.more hb20 (by simp; try omega)); clear hb20; have qb3 := kb3.1; have qb6 := kb6.1; clear kb6'; refine pl ?_; refine listF_abs (fun s21 z' => ?_); replace sl6 := gs 6 z' sl6; have sl7 := gu 7 z'; clear z' sl8 sl9 sl18; refine listF_nil ?_
  repeat ((fail_if_success refine stp ?_); with_reducible go_step)
  have cb6_0 := kb6.cell 0 rfl; have cb6_1 := kb6.cell 1 rfl; refine ret_F _ (res_ct Try.results25 ((getD_F (by decide)).trans sl6) (load_t37 cb6_0 cb6_1) ((getD_F (by decide)).trans sl7)) ?_; exact ⟨by unfold failsRes; rw [if_neg Ha.out]; rfl, HB.out.toBelow⟩


theorem needed_at {k : Kd} (hK : KOk k) {i : Nat} (hi : i < k.steps.length) : voltOk k k.steps[i].volt = true ∧ needed k k.steps[i].volt = k.steps[i].need := by
  have hmono : ∀ d j, (hd : j + d < k.steps.length) → 0 < d → k.steps[j + d].volt < (k.steps[j]'(by omega)).volt := by
    intro d
    induction d with
    | zero => intro j _ h; omega
    | succ d ih =>
      intro j hd _; have h1 := (hK.dn (j + d) hd).1
      by_cases h0 : d = 0
      · subst h0; exact h1
      · have h2 := ih j (by omega) (by omega)
        have e : k.steps[j + (d + 1)] = k.steps[j + d + 1]'(by omega) := by congr 1
        rw [e]; omega
  constructor
  · unfold voltOk
    rw [getD_get (show k.steps.length - 1 < k.steps.length by omega), inb_iff]; refine ⟨?_, (hK.st i hi).1.2⟩
    by_cases h0 : i = k.steps.length - 1
    · have e : k.steps[k.steps.length - 1]'(by omega) = k.steps[i] := by congr 1; omega
      rw [e]; exact Int.le_refl _
    · have := hmono (k.steps.length - 1 - i) i (by omega) (by omega)
      have e : k.steps[i + (k.steps.length - 1 - i)]'(by omega) = k.steps[k.steps.length - 1]'(by omega) := by congr 1; omega
      rw [e] at this; omega
  · unfold needed
    have : (k.steps.find? fun x => decide (x.volt ≤ k.steps[i].volt)) = some k.steps[i] := by
      rw [List.find?_eq_some_iff_getElem]; refine ⟨by simp, i, hi, rfl, fun j hj => ?_⟩; have := hmono (i - j) j (by omega) (by omega)
      have e : k.steps[j + (i - j)]'(by omega) = k.steps[i] := by congr 1; omega
      rw [e] at this
      simp; omega
    rw [this]; rfl
def lifeSpan (k : Kd) (i : Nat) : Span := ⟨(k.steps.getD i Stp.zero).need, if i + 1 < k.steps.length then min k.new ((k.steps.getD (i + 1) Stp.zero).need - 1) else k.new⟩
def lifeRes (k : Kd) (n : Int) : Fail × Int :=
  if kdErr k ≠ 0 then (Fail.zero, kdErr k) else if inb n 0 ((k.steps.length : Int) - 1) = false then (Fail.zero, 4)
  else if (lifeSpan k n.toNat).hi < (lifeSpan k n.toNat).lo then (Fail.zero, 9) else (failsOf k (lifeSpan k n.toNat) 0, 0)
theorem life_in {k : Kd} (hK : KOk k) {i : Nat} (hi : i < k.steps.length) : spanIn (lifeSpan k i) := by
  have h1 := (hK.st i hi).2; have hn0 := hK.n0; have hn1 := hK.n1; unfold lifeSpan spanIn; rw [getD_get hi]
  simp only
  split
  · rename_i h
    rw [getD_get h]; have h2 := (hK.st (i + 1) h).2
    omega
  · omega
end

section
open Go.RowKit


def susUp (need : Int) (l : List Span) : Nat → List Int
  | 0 => []
  | i + 1 => if (l.getD i Span.zero).lo < need then susUp need l i ++ [(i : Int)] else susUp need l i
def spErr (s : Span) : Int := if inb s.lo 0 1000000 = false ∨ inb s.hi 0 1000000 = false then 7 else if s.hi < s.lo then 2 else 0
def grpErr (k : Kd) (l : List Span) (v : Int) : Int :=
  if kdErr k ≠ 0 then kdErr k else if voltOk k v = false then 7 else if 12 < l.length then 3
  else match l.find? (fun s => spErr s != 0) with
    | some s => spErr s
    | none => 0
def susOf (k : Kd) (l : List Span) (v : Int) (p : Bool) : List Int := if p then [] else susUp (needed k v) l l.length
def aftOf (k : Kd) (l : List Span) (v : Int) (p : Bool) : List Span :=
  if p then l.map (fun s => agreed k s v true)
  else match susUp (needed k v) l l.length with
    | [i] => l.set i.toNat (agreed k (l.getD i.toNat Span.zero) v false)
    | _ => l
def grpDown (k : Kd) (l : List Span) (v : Int) (p : Bool) : Bool := if p then l.any (fun s => decide (s.hi < needed k v)) else (susUp (needed k v) l l.length).isEmpty
def grpRes (k : Kd) (l : List Span) (v : Int) (p : Bool) : List Span × List Int × Int :=
  if grpErr k l v ≠ 0 then ([], [], grpErr k l v) else if grpDown k l v p = true then ([], [], 9) else (aftOf k l v p, susOf k l v p, 0)
theorem susUp_len (need : Int) (l : List Span) : ∀ i, (susUp need l i).length ≤ i
  | 0 => Nat.le_refl _
  | i + 1 => by have := susUp_len need l i; unfold susUp; split <;> simp <;> omega
theorem susUp_mem {need : Int} {l : List Span} : ∀ {i : Nat} {x : Int}, x ∈ susUp need l i → ∃ j : Nat, j < i ∧ x = j
  | 0, x, h => by cases h
  | i + 1, x, h => by
    unfold susUp at h
    split at h
    · rcases List.mem_append.1 h with h | h
      · obtain ⟨j, h1, h2⟩ := susUp_mem h; exact ⟨j, by omega, h2⟩
      · simp at h; exact ⟨i, by omega, h⟩
    · obtain ⟨j, h1, h2⟩ := susUp_mem h; exact ⟨j, by omega, h2⟩
theorem info_span : (Try.prog.info? 23).map (fun i => (i.zero, i.size, i.bytes)) = some (some (.agg #[.int .i64 0, .int .i64 0]), 2, 16) := by kernel_rfl
theorem info_int : (Try.prog.info? 3).map (fun i => (i.zero, i.size, i.bytes)) = some (some (.int .i64 0), 1, 8) := by kernel_rfl
theorem span_one (x : Span) : ∀ u ∈ x.cs, u.oneCell' = true := by intro u hu; simp [Span.cs] at hu; rcases hu with h | h <;> subst h <;> rfl
theorem int_one (x : Int) : ∀ u ∈ int1 x, u.oneCell' = true := by intro u hu; simp [int1] at hu; subst hu; rfl
/-- the spans after i of them, ahead of what the suspects tell -/
def aftUp (k : Kd) (l : List Span) (v : Int) (p : Bool) (i : Nat) : List Span := (l.take i).map fun s => if p then agreed k s v true else s
theorem aftUp_succ {k : Kd} {l : List Span} {v : Int} {p : Bool} {i : Nat} (hi : i < l.length) : aftUp k l v p (i + 1) = aftUp k l v p i ++ [if p then agreed k l[i] v true else l[i]] := by
  unfold aftUp; rw [List.take_succ_eq_append_getElem hi, List.map_append]; rfl
theorem aftUp_len {k : Kd} {l : List Span} {v : Int} {p : Bool} {i : Nat} : (aftUp k l v p i).length = min i l.length := by unfold aftUp; simp
theorem spErr_in {s : Span} (h : spErr s = 0) : (0 ≤ s.lo ∧ s.lo ≤ 1000000) ∧ (0 ≤ s.hi ∧ s.hi ≤ 1000000) ∧ s.lo ≤ s.hi := by
  unfold spErr at h
  split at h
  · cases h
  · split at h
    · cases h
    · rename_i h1 h2
      simp only [not_or, Bool.not_eq_false, inb_iff] at h1
      exact ⟨h1.1, h1.2, by omega⟩
theorem find_first {l : List Span} {i : Nat} (hi : i < l.length) (h : ∀ j (hj : j < l.length), j < i → spErr l[j] = 0) (he : spErr l[i] ≠ 0) : l.find? (fun s => spErr s != 0) = some l[i] := by
  rw [List.find?_eq_some_iff_getElem]; exact ⟨by simpa using he, i, hi, rfl, fun j hj => by simpa using h j (by omega) hj⟩
theorem find_no {l : List Span} (h : ∀ j (hj : j < l.length), spErr l[j] = 0) : l.find? (fun s => spErr s != 0) = none := by
  rw [List.find?_eq_none]; intro x hx; obtain ⟨j, hj, rfl⟩ := List.mem_iff_getElem.1 hx
  simpa using h j hj
def GrpRes (k : Kd) (l : List Span) (v : Int) (p : Bool) (w : World) (e : Ending) (w' : World) : Prop :=
  ∃ a c a' c', e = .returned (.tuple #[.slice a (grpRes k l v p).1.length c, .slice a' (grpRes k l v p).2.1.length c', .int .i64 (grpRes k l v p).2.2]) ∧ RdSpans w' a (grpRes k l v p).1 ∧ RdInts w' a' (grpRes k l v p).2.1 ∧ Below w.heap.size w w' ∧ (∀ b, a = some b → w.heap.size ≤ b.block) ∧ (∀ b, a' = some b → w.heap.size ≤ b.block)
theorem grp_no {k : Kd} {l : List Span} {v : Int} {p : Bool} {w w' : World} {n : Int} (h : grpRes k l v p = ([], [], n)) (hb : Below w.heap.size w w') : GrpRes k l v p w (.returned (.tuple #[.slice none 0 0, .slice none 0 0, .int .i64 n])) w' :=
  ⟨none, 0, none, 0, by rw [h]; rfl, by rw [h]; exact .inl rfl, by rw [h]; exact .inl rfl, hb, (fun b hb => by cases hb), (fun b hb => by cases hb)⟩
end


end Go.Proofs.Ytndcmmghgljinaa
