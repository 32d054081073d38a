/- The reference's known. -/
import Derived.Test.YtndcmmghgljinaardW21
import Derived.Test.YtndcmmghgljinaardW13
set_option linter.all false
namespace Go.Proofs.Ytndcmmghgljinaa

open Go.RowKit


def KnRes (k : Kd) (cs : List MCk) (w : World) (e : Ending) (w' : World) : Prop := ∃ (s : Span) (t : Int) (b : Bool), e = .returned (.tuple #[.agg #[.int .i64 s.lo, .int .i64 s.hi], .int .i64 t, .bool b]) ∧ (b = true → known k cs = some (s, t)) ∧ (b = false → known k cs = none) ∧ Below w.heap.size w w'

set_option maxRecDepth 100000 in
set_option maxHeartbeats 4000000 in
theorem rknown_any (k : Kd) (a : Option Addr) (c : Nat) (ac : Option Addr) (cc : Nat) (cs : List MCk) (w : World) (hR : RdSteps w a k.steps) (hK : KOk k) (hRc : RdCks w ac cs) (hlc : cs.length ≤ 30) (hok : ∀ x ∈ cs, chkOk k x = true) :
    Calls Try.prog 75 #[.agg #[.int .i64 k.new, .int .i64 k.wear.lo, .int .i64 k.wear.hi, .slice a k.steps.length c], .slice ac cs.length cc] w (KnRes k cs w) := by
 have HR := hid hR; have HK := hid hK; have HRc := hid hRc; have Hok := hid (show ∀ x ∈ sortC cs, chkOk k x = true from fun x hx => hok x ((sortC_ok cs).2.mem_iff.1 hx)); have Hso := hid (sortC_ok cs).1
 have hsl30 : (sortC cs).length ≤ 30 := by rw [(sortC_ok cs).2.length_eq]; exact hlc
 clear hR hK hRc hok
 have hkn : ∀ x, runC k (sortC cs) (⟨k.new, k.new⟩, 0) = x → known k cs = x := fun x h => h
 have Hkn := hid hkn; clear hkn
 refine enter_F Try.func75 rfl Try.ntmps75 (by simp) ?_
 intro s0 hs; have sl0 : s0 0 = .agg #[.int .i64 k.new, .int .i64 k.wear.lo, .int .i64 k.wear.hi, .slice a k.steps.length c] := hs 0 (by simp); have sl1 : s0 1 = .slice ac cs.length cc := hs 1 (by simp); clear hs; have HB := hid (OldB.refl [] w)
 repeat ((fail_if_success refine stp ?_); with_reducible go_step)
 refine region_F ?_; refine pa (fun w1 B2 hB kb2' hb2 => ?_); have gb2 := HB.out.gB hB; have eb2 := eB hB; clear hB; replace HB := hid (HB.out.below hb2); clear hb2; have kb2 := kb2'; clear kb2'; have qb2 := kb2.1; refine pa (fun w3 B4 hB kb4' hb4 => ?_); have gb4 := HB.out.gB hB; have ob2_b4 := oB qb2 hB; have eb4 := eB hB; clear hB; clear qb2; replace kb2 := kb2.at hb4; replace HB := hid (HB.out.below hb4); clear hb4; have qb2 := kb2.1; have kb4 := kb4'; clear kb4'; have qb4 := kb4.1; refine pl ?_; refine pl ?_; refine listF_abs (fun s5 z' => ?_); replace sl1 := gs 1 z' sl1; have sl2 := gu 2 z'; have sl4 := gu 4 z'; clear z' sl0; refine listF_nil ?_
 repeat ((fail_if_success refine stp ?_); with_reducible go_step)
 refine region_F ?_; refine pl ?_; have cb2_0 := kb2.cell 0 rfl; have cb2_1 := kb2.cell 1 rfl; have cb2_2 := kb2.cell 2 rfl; have cb2_3 := kb2.cell 3 rfl
 iterate 4 refine pl ?_
 refine pa (fun w6 B7 hB kb7' hb7 => ?_); have gb7 := HB.out.gB hB; have ob2_b7 := oB qb2 hB; have ob4_b7 := oB qb4 hB; have eb7 := eB hB; clear hB; clear cb2_0 cb2_1 cb2_2 cb2_3; clear qb2 qb4; replace kb2 := kb2.at hb7; replace kb4 := kb4.at hb7; replace HB := hid (HB.out.below hb7); clear hb7; have qb2 := kb2.1; have qb4 := kb4.1; have kb7 := kb7'; clear kb7'; have qb7 := kb7.1; have cb7_0 := kb7.cell 0 rfl; have cb7_1 := kb7.cell 1 rfl; have zb7 := kb7.2.2; refine pl ?_; refine listF_absw (fun w8 hw' => ?_); have kb7' := cells_of hw' (Cells.set (i := 1) (Cells.set (i := 0) (kb7)))
 (try simp only [vC, List.set_cons_zero, List.set_cons_succ] at kb7')
 have hb9 : OldB [B7] w6 w8 := oldset hw'; clear hw'; clear cb7_0 cb7_1 zb7; clear qb2 qb4 qb7; replace kb7 := kb7'; replace kb2 := kb2.oldB hb9 (by first | (simp; done) | (simp; omega)); replace kb4 := kb4.oldB hb9 (by first | (simp; done) | (simp; omega)); replace HB := hid (HB.out.more hb9 (by simp; try omega)); clear hb9; have qb2 := kb2.1; have qb4 := kb4.1; have qb7 := kb7.1; clear kb7'; refine pl ?_; refine listF_abs (fun s10 z' => ?_); replace sl1 := gs 1 z' sl1; replace sl2 := gs 2 z' sl2; replace sl4 := gs 4 z' sl4; have sl7 := gu 7 z'; have sl8 := gu 8 z'; clear z'; refine listF_nil ?_
 repeat ((fail_if_success refine stp ?_); with_reducible go_step)
 refine region_F ?_; refine pl ?_; refine listF_step rfl (fun K' hK => ?_); unfold opF; go_simp; refine (rsorted_any ac cc cs _ hlc (Rd.oldB HRc.out HB.out (by simp))).mono ?_; rintro e w11 ⟨al, cl, rfl, hRl, hal, hb12⟩; have halB := hid (show ∀ b, al = some b → B7 < b.block from fun b hb => by have := hal b hb; omega); clear hal
 generalize hL : sortC cs = L at *
 have HL0 := hid hL; clear hL; refine ⟨_, rfl, hK _ _ ?_⟩; clear hK K'; clear qb2 qb4 qb7; replace kb2 := kb2.at hb12; replace kb4 := kb4.at hb12; replace kb7 := kb7.at hb12; replace HB := hid (HB.out.below hb12); clear hb12; have qb2 := kb2.1; have qb4 := kb4.1; have qb7 := kb7.1; refine pl ?_; refine listF_abs (fun s13 z' => ?_); replace sl2 := gs 2 z' sl2; replace sl4 := gs 4 z' sl4; replace sl7 := gs 7 z' sl7; replace sl8 := gs 8 z' sl8; have sl9 := gu 9 z'; clear z' sl1; refine listF_nil ?_
 repeat ((fail_if_success refine stp ?_); with_reducible go_step)
 refine region_F ?_; refine pl ?_; refine listF_abs (fun s14 z' => ?_); replace sl2 := gs 2 z' sl2; replace sl4 := gs 4 z' sl4; replace sl7 := gs 7 z' sl7; replace sl8 := gs 8 z' sl8; replace sl9 := gs 9 z' sl9; have sl10 := gu 10 z'; clear z'; refine listF_nil ?_
 repeat ((fail_if_success refine stp ?_); with_reducible go_step)
 have hc0_2 := hid sl2; have hc0_4 := hid sl4; have hc0_7 := hid sl7; have hc0_9 := hid sl9; refine loop_F (n := 60) (fun kJ sJ wJ => ∃ (i : Nat) (s : Span) (hh : Int), kJ = L.length - i ∧ sJ 8 = .int .i64 hh ∧ sJ 10 = .int .i64 (i : Int) ∧ sJ 2 = s14 2 ∧ sJ 4 = s14 4 ∧ sJ 7 = s14 7 ∧ sJ 9 = s14 9 ∧ OldB [B7] w11 wJ ∧ Cells wJ B7 [.int .i64 s.lo, .int .i64 s.hi] ∧ i ≤ L.length ∧ Hid (runN k L i = some (s, hh)) ∧ Hid (spanOk s) ∧ (0 ≤ hh ∧ hh ≤ 100000) ∧ Hid (HrLe L i hh)) ⟨0, ⟨k.new, k.new⟩, 0, rfl, (by first | exact sl8 | (rw [sl8]; go_num) | (rw [sl8]; rfl)), (by first | exact sl10 | (rw [sl10]; go_num) | (rw [sl10]; rfl)), rfl, rfl, rfl, rfl, OldB.refl _ _, (by first | (with_reducible exact kb7) | (apply Cells.conv; (focus (exact kb7)); (first | rfl | (simp; done)))), Nat.zero_le _, hid rfl, hid (new_ok HK.out), (by omega), hid (fun j hj _ => (chk_bd (Hok.out L[j] (List.getElem_mem hj))).1.1)⟩ ?_
 clear sl8 sl10; rintro kJ s15 w16 ⟨i, s, hh, rfl, sl8, sl10, e2, e4, e7, e9, hb17, mb7', hil, hrn, hs, hhb, hle⟩; replace sl2 := e2.trans sl2; clear e2; replace sl4 := e4.trans sl4; clear e4; replace sl7 := e7.trans sl7; clear e7; replace sl9 := e9.trans sl9; clear e9; have hoJ := hb17; clear qb2 qb4 qb7; replace kb7 := mb7'; replace kb2 := kb2.oldB hb17 (by first | (simp; done) | (simp; omega)); replace kb4 := kb4.oldB hb17 (by first | (simp; done) | (simp; omega)); replace hRl := Rd.oldB hRl hb17 (fun b hb => by have h9 := halB.out b hb; cases hb; (try simp at h9); first | (simp; done) | (simp; omega)); replace HB := hid (HB.out.more hb17 (by simp; try omega)); clear hb17; have qb2 := kb2.1; have qb4 := kb4.1; have qb7 := kb7.1; clear mb7'; have HoJ := hid hoJ; clear hoJ; have HL18 := HoJ; clear HoJ
 repeat ((fail_if_success refine stp ?_); with_reducible go_step)
 refine region_F ?_
 iterate 4 refine pl ?_
 refine listF_abs (fun s19 z' => ?_); replace sl2 := gs 2 z' sl2; replace sl4 := gs 4 z' sl4; replace sl7 := gs 7 z' sl7; replace sl8 := gs 8 z' sl8; replace sl9 := gs 9 z' sl9; replace sl10 := gs 10 z' sl10; have sl21 := gu 21 z'; clear z'; refine listF_nil ?_
 repeat ((fail_if_success refine stp ?_); with_reducible go_step)
 refine cond_E sl21 (by decide) ?_ ?_ <;> (clear sl21; intro h21 sl21)
 ·skip
  have hlt : i < L.length := by simpa using h21
  obtain ⟨b, off, rfl, hbs, c0, c1, c2⟩ := RdCks.ne hRl hlt; obtain ⟨⟨t1, t2⟩, hvo⟩ := chk_bd (Hok.out L[i] (List.getElem_mem hlt)); have Hvo := hid hvo; have htl := hle.out i hlt (Nat.le_refl _); obtain ⟨hhb1, hhb2⟩ := hhb
  have hlt' : (i : Int) < L.length := by omega
  have whh : IntKind.i64.wrap (L[i].hour - hh) = L[i].hour - hh := IntWalk.i64_in _ (by omega); have wii : IntKind.i64.wrap ((i : Int)) = (i : Int) := IntWalk.i64_in _ (by omega); have hdd : -200000 ≤ L[i].hour - hh ∧ L[i].hour - hh ≤ 200000 := ⟨by omega, by omega⟩; have Hdd := hid hdd; clear hvo hdd
  repeat ((fail_if_success refine stp ?_); with_reducible go_step)
  have cb2_0 := kb2.cell 0 rfl; have cb2_1 := kb2.cell 1 rfl; have cb2_2 := kb2.cell 2 rfl; have cb2_3 := kb2.cell 3 rfl; have cb4_0 := kb4.cell 0 rfl; have cb4_1 := kb4.cell 1 rfl; have cb7_0 := kb7.cell 0 rfl; have cb7_1 := kb7.cell 1 rfl; refine regionR_F [] [] [] [.q [], .q [], .q [], .q [], .q [], .q [], .q [], .q [], .q [], .q [], .q [], .q [], .q [], .q [], .q [], .q [], .q [], .q [], .q [], .q [], .q []] [?v10_0, ?v10_1, ?v10_2, ?v10_3, ?v10_4, ?v10_5, ?v10_6, ?v10_7, ?v10_8, ?v10_9, ?v10_10, ?v10_11, ?v10_12, ?v10_13, ?v10_14, ?v10_15, ?v10_16, ?v10_17, ?v10_18, ?v10_19, ?v10_20] [fun _ => [], fun _ => [], fun _ => [], fun _ => [], fun _ => [], fun _ => [], fun _ => [], fun _ => [], fun _ => [], fun _ => [], fun _ => [], fun _ => [], fun _ => [], fun _ => [], fun _ => [], fun _ => [], fun _ => [], fun _ => [], fun _ => [], fun _ => [], fun _ => []] (by kernel_rfl) (by kernel_rfl) (by kernel_rfl) (by kernel_rfl) (by kernel_rfl) (by first | exact List.nodup_nil | exact List.nodup_singleton _ | (simp; done) | (simp; omega)) bc_nil ?walk10 ?dep10
  case walk10 =>
   iterate 10 refine rq ?_
   refine walkR_q (by rfl) (fun X hX wq hwq hrq => ?_) ?_
   · obtain ⟨hcq, hfq⟩ := hwq.b0
     clear hrq; go_simp
     (exact rlater_any k _ c s (L[i].hour - hh) _ HK.out hs.out.in Hdd.out)
   iterate 10 refine rq ?_
   refine walkR_nil (fun X hX w20 hwz hcz => ?_); clear hX hcz
   (try clear X)
   skip; have hb21 := hwz.unDrew; clear hwz; clear cb2_0 cb2_1 cb2_2 cb2_3 cb4_0 cb4_1 cb7_0 cb7_1; clear qb2 qb4 qb7; replace kb2 := kb2.oldB hb21 (by first | (simp; done) | (simp; omega)); replace kb4 := kb4.oldB hb21 (by first | (simp; done) | (simp; omega)); replace kb7 := kb7.oldB hb21 (by first | (simp; done) | (simp; omega)); replace hRl := Rd.oldB hRl hb21 (fun b hb => by have h9 := halB.out b hb; cases hb; (try simp at h9); first | (simp; done) | (simp; omega)); replace HL18 := hid (HL18.out.more hb21 (by simp; try omega)); replace HB := hid (HB.out.more hb21 (by simp; try omega)); clear hb21; have qb2 := kb2.1; have qb4 := kb4.1; have qb7 := kb7.1; refine listF_step rfl (fun K' hK => ?_); unfold opF; go_simp; refine (ragreed_any k _ c (later k s (L[i].hour - hh)) L[i].volt L[i].passed _ (Rd.oldB HR.out HB.out (by simp)) HK.out Hvo.out).mono ?_; rintro e w22 ⟨rfl, hb23⟩; refine ⟨_, rfl, hK _ _ ?_⟩; clear hK K'; clear qb2 qb4 qb7
   replace kb2 := kb2.at hb23; replace kb4 := kb4.at hb23; replace kb7 := kb7.at hb23; replace hRl := Rd.at hRl hb23; replace HL18 := hid (HL18.out.below hb23); replace HB := hid (HB.out.below hb23); clear hb23; have qb2 := kb2.1; have qb4 := kb4.1; have qb7 := kb7.1; have cb7_0 := kb7.cell 0 rfl; have cb7_1 := kb7.cell 1 rfl; have zb7 := kb7.2.2; refine pl ?_; refine listF_absw (fun w24 hw' => ?_); have kb7' := cells_of hw' (Cells.set (i := 1) (Cells.set (i := 0) (kb7)))
   (try simp only [vC, List.set_cons_zero, List.set_cons_succ] at kb7')
   have hb25 : OldB [B7] w22 w24 := oldset hw'; clear hw'; clear cb7_0 cb7_1 zb7; clear qb2 qb4 qb7; replace kb7 := kb7'; replace kb2 := kb2.oldB hb25 (by first | (simp; done) | (simp; omega)); replace kb4 := kb4.oldB hb25 (by first | (simp; done) | (simp; omega)); replace hRl := Rd.oldB hRl hb25 (fun b hb => by have h9 := halB.out b hb; cases hb; (try simp at h9); first | (simp; done) | (simp; omega)); replace HL18 := hid (HL18.out.more hb25 (by simp; try omega)); replace HB := hid (HB.out.more hb25 (by simp; try omega)); clear hb25; have qb2 := kb2.1; have qb4 := kb4.1; have qb7 := kb7.1; clear kb7'; refine listF_abs (fun s26 z' => ?_); replace sl2 := gs 2 z' sl2; replace sl4 := gs 4 z' sl4; replace sl7 := gs 7 z' sl7; replace sl9 := gs 9 z' sl9; replace sl10 := gs 10 z' sl10; clear z' sl8 sl21; refine listF_nil ?_
   repeat ((fail_if_success refine stp ?_); with_reducible go_step)
   refine region_F ?_; refine pl ?_; refine pl ?_; obtain ⟨hbs2, e0, e1, e2⟩ := RdCks.get hRl hlt
   iterate 4 refine pl ?_
   refine listF_abs (fun s27 z' => ?_); replace sl2 := gs 2 z' sl2; replace sl4 := gs 4 z' sl4; replace sl7 := gs 7 z' sl7; have sl8 := gu 8 z'; replace sl9 := gs 9 z' sl9; replace sl10 := gs 10 z' sl10; clear z'; refine listF_nil ?_
   repeat ((fail_if_success refine stp ?_); with_reducible go_step)
   refine region_F ?_; refine pl ?_; have cb7_0 := kb7.cell 0 rfl; have cb7_1 := kb7.cell 1 rfl
   iterate 4 refine pl ?_
   refine listF_abs (fun s28 z' => ?_); replace sl2 := gs 2 z' sl2; replace sl4 := gs 4 z' sl4; replace sl7 := gs 7 z' sl7; replace sl8 := gs 8 z' sl8; replace sl9 := gs 9 z' sl9; replace sl10 := gs 10 z' sl10; have sl55 := gu 55 z'; clear z'; refine listF_nil ?_
   repeat ((fail_if_success refine stp ?_); with_reducible go_step)
   refine cond_E sl55 (by decide) ?_ ?_ <;> (clear sl55; intro h55 sl55)
   ·skip
    have h55' : (agreed k (later k s (L[i].hour - hh)) L[i].volt L[i].passed).hi < (agreed k (later k s (L[i].hour - hh)) L[i].volt L[i].passed).lo := by simpa using h55
    have Hk := hid (Hkn.out _ (runN_none (by rw [runN_step hlt hrn.out, if_pos h55'])))
    repeat ((fail_if_success refine stp ?_); with_reducible go_step)
    refine region_F ?_; refine pl ?_; refine pl ?_; have cb4_0 := kb4.cell 0 rfl; have cb4_1 := kb4.cell 1 rfl; have zb4 := kb4.2.2; refine pl ?_; refine listF_absw (fun w29 hw' => ?_); have kb4' := cells_of hw' (Cells.set (i := 1) (Cells.set (i := 0) (kb4)))
    (try simp only [vC, List.set_cons_zero, List.set_cons_succ] at kb4')
    have hb30 : OldB [B4] w24 w29 := oldset hw'; clear hw'; clear cb4_0 cb4_1 cb7_0 cb7_1 zb4; clear qb2 qb4 qb7; replace kb4 := kb4'; replace kb2 := kb2.oldB hb30 (by first | (simp; done) | (simp; omega)); replace kb7 := kb7.oldB hb30 (by first | (simp; done) | (simp; omega)); replace hRl := Rd.oldB hRl hb30 (fun b hb => by have h9 := halB.out b hb; cases hb; (try simp at h9); first | (simp; done) | (simp; omega)); clear HL18; replace HB := hid (HB.out.more hb30 (by simp; try omega)); clear hb30; have qb2 := kb2.1; have qb4 := kb4.1; have qb7 := kb7.1; clear kb4'; refine pl ?_; refine pl ?_; refine listF_abs (fun s31 z' => ?_); replace sl4 := gs 4 z' sl4; have sl5 := gu 5 z'; have sl6 := gu 6 z'; clear z' sl2 sl7 sl8 sl9 sl10 sl55; refine listF_nil ?_
    repeat ((fail_if_success refine stp ?_); with_reducible go_step)
    have cb4_0 := kb4.cell 0 rfl; have cb4_1 := kb4.cell 1 rfl; refine ret_F _ (res_ctt Try.results75 ((getD_F (by decide)).trans sl4) (load_t23 cb4_0 cb4_1) ((getD_F (by decide)).trans sl5) ((getD_F (by decide)).trans sl6)) ?_; exact ⟨_, _, false, rfl, (fun h => by cases h), fun _ => Hk.out, HB.out.toBelow⟩
   ·skip
    have h55' : ¬ (agreed k (later k s (L[i].hour - hh)) L[i].volt L[i].passed).hi < (agreed k (later k s (L[i].hour - hh)) L[i].volt L[i].passed).lo := by simpa using h55
    repeat ((fail_if_success refine stp ?_); with_reducible go_step)
    refine region_F ?_
    iterate 3 refine pl ?_
    refine listF_abs (fun s32 z' => ?_); replace sl2 := gs 2 z' sl2; replace sl4 := gs 4 z' sl4; replace sl7 := gs 7 z' sl7; replace sl8 := gs 8 z' sl8; replace sl9 := gs 9 z' sl9; replace sl10 := gu 10 z'; clear z' sl55; refine listF_nil ?_
    repeat ((fail_if_success refine stp ?_); with_reducible go_step)
    clear cb7_0 cb7_1; refine ⟨_, _, rfl, ?_, i + 1, agreed k (later k s (L[i].hour - hh)) L[i].volt L[i].passed, L[i].hour, rfl, (by first | (with_reducible exact sl8) | (rw [sl8]; (with_reducible go_num); done) | (rw [sl8, IntWalk.i64_in] <;> first | ((with_reducible go_num); done) | omega) | (rw [sl8]; go_num; done) | (rw [sl8]; simp; done) | (rw [sl8]; simp; omega)), (by first | (with_reducible exact sl10) | (rw [sl10]; (with_reducible go_num); done) | (rw [sl10, IntWalk.i64_in] <;> first | ((with_reducible go_num); done) | omega) | (rw [sl10]; go_num; done) | (rw [sl10]; simp; done) | (rw [sl10]; simp; omega)), (sl2.trans hc0_2.out.symm), (sl4.trans hc0_4.out.symm), (sl7.trans hc0_7.out.symm), (sl9.trans hc0_9.out.symm), HL18.out, (by first | (with_reducible exact kb7) | (apply Cells.conv; (focus (exact kb7)); (first | rfl | (simp; done)))), by omega, hid (by rw [runN_step hlt hrn.out, if_neg h55']), hid (agreed_ok HK.out (later_ok HK.out hs.out (by omega)) Hvo.out), ⟨t1, t2⟩, hid (hrLe_next Hso.out hlt)⟩
    omega
  case dep10 =>
    iterate 21 refine dR ?_
    exact depR_nil
 ·skip
  have hge : L.length ≤ i := by simpa using h21
  have Hk := hid (Hkn.out _ (runN_all hge hrn.out))
  repeat ((fail_if_success refine stp ?_); with_reducible go_step)
  clear HL18; clear hc0_2 hc0_4 hc0_7 hc0_9; refine region_F ?_; have cb7_0 := kb7.cell 0 rfl; have cb7_1 := kb7.cell 1 rfl; refine pl ?_; refine pl ?_; have cb4_0 := kb4.cell 0 rfl; have cb4_1 := kb4.cell 1 rfl; have zb4 := kb4.2.2; refine pl ?_; refine listF_absw (fun w33 hw' => ?_); have kb4' := cells_of hw' (Cells.set (i := 1) (Cells.set (i := 0) (kb4)))
  (try simp only [vC, List.set_cons_zero, List.set_cons_succ] at kb4')
  have hb34 : OldB [B4] w16 w33 := oldset hw'; clear hw'; clear cb4_0 cb4_1 cb7_0 cb7_1 zb4; clear qb2 qb4 qb7; replace kb4 := kb4'; replace kb2 := kb2.oldB hb34 (by first | (simp; done) | (simp; omega)); replace kb7 := kb7.oldB hb34 (by first | (simp; done) | (simp; omega)); replace hRl := Rd.oldB hRl hb34 (fun b hb => by have h9 := halB.out b hb; cases hb; (try simp at h9); first | (simp; done) | (simp; omega)); replace HB := hid (HB.out.more hb34 (by simp; try omega)); clear hb34; have qb2 := kb2.1; have qb4 := kb4.1; have qb7 := kb7.1; clear kb4'; refine pl ?_; refine pl ?_; refine listF_abs (fun s35 z' => ?_); replace sl4 := gs 4 z' sl4; have sl5 := gu 5 z'; have sl6 := gu 6 z'; clear z' sl2 sl7 sl8 sl9 sl10 sl21; refine listF_nil ?_
  repeat ((fail_if_success refine stp ?_); with_reducible go_step)
  have cb4_0 := kb4.cell 0 rfl; have cb4_1 := kb4.cell 1 rfl; refine ret_F _ (res_ctt Try.results75 ((getD_F (by decide)).trans sl4) (load_t23 cb4_0 cb4_1) ((getD_F (by decide)).trans sl5) ((getD_F (by decide)).trans sl6)) ?_; exact ⟨_, _, true, rfl, fun _ => Hk.out, (fun h => by cases h), HB.out.toBelow⟩

end Go.Proofs.Ytndcmmghgljinaa
