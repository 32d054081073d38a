/- The reference's Next. -/
import Derived.Test.YtndcmmghgljinaaW25
set_option linter.all false
namespace Go.Proofs.Ytndcmmghgljinaa
open Go.RowKit


theorem bu_succ {k : Kd} {s : Span} {i : Nat} (h1 : 1 ≤ i) (hi : i < k.steps.length) : bestUpto k s i = if widthAt k s k.steps[i].volt < widthAt k s (bestUpto k s (i - 1)) then k.steps[i].volt else bestUpto k s (i - 1) := by
  obtain ⟨j, rfl⟩ : ∃ j, i = j + 1 := ⟨i - 1, by omega⟩
  rw [Nat.add_sub_cancel]
  show (if widthAt k s (k.steps.getD (j + 1) Stp.zero).volt < _ then _ else _) = _
  rw [getD_get hi]
theorem bu_volt {k : Kd} (hK : KOk k) {s : Span} : ∀ i, i < k.steps.length → voltOk k (bestUpto k s i) = true
  | 0, h => by unfold bestUpto; rw [getD_get h]; exact (needed_at hK h).1
  | i + 1, h => by rw [bu_succ (by omega) h, Nat.add_sub_cancel]; split; exact (needed_at hK h).1; exact bu_volt hK i (by omega)

set_option maxRecDepth 100000 in
set_option maxHeartbeats 8000000 in
theorem rNext_any (k : Kd) (a : Option Addr) (c : Nat) (ac : Option Addr) (cc : Nat) (cs : List MCk) (h : Int) (w : World) (hsl : k.steps.length ≤ 9223372036854775807) (hR : RdSteps w a k.steps) (hRc : RdCks w ac cs) (hlc : cs.length ≤ 9223372036854775807) :
    Calls Try.prog 28 #[.agg #[.int .i64 k.new, .int .i64 k.wear.lo, .int .i64 k.wear.hi, .slice a k.steps.length c], .slice ac cs.length cc, .int .i64 h] w (fun e w' => e = .returned (.tuple #[.int .i64 (nextRes k cs h).1, .int .i64 (nextRes k cs h).2.1, .int .i64 (nextRes k cs h).2.2]) ∧ Below w.heap.size w w') := by
 have HR := hid hR
 have HRc := hid hRc
 clear hR hRc
 refine enter_F Try.func28 rfl Try.ntmps28 (by simp) ?_
 intro s0 hs
 have sl0 : s0 0 = .agg #[.int .i64 k.new, .int .i64 k.wear.lo, .int .i64 k.wear.hi, .slice a k.steps.length c] := hs 0 (by simp)
 have sl1 : s0 1 = .slice ac cs.length cc := hs 1 (by simp)
 have sl2 : s0 2 = .int .i64 h := hs 2 (by simp)
 clear hs
 have HB := hid (OldB.refl [] w)
 repeat ((fail_if_success refine stp ?_); with_reducible go_step)
 refine region_F ?_
 refine pa (fun w1 B3 hB kb3' hb2 => ?_)
 have gb3 := HB.out.gB hB
 have eb3 := eB hB; clear hB
 replace HB := hid (HB.out.below hb2)
 clear hb2
 have kb3 := kb3'
 clear kb3'
 have qb3 := kb3.1
 refine pl ?_
 refine pl ?_
 refine pl ?_
 refine listF_abs (fun s3 hs' => ?_)
 replace sl1 := gs 1 hs' sl1; replace sl2 := gs 2 hs' sl2; have sl3 := gu 3 hs'; clear hs' sl0
 refine listF_nil ?_
 repeat ((fail_if_success refine stp ?_); with_reducible go_step)
 refine region_F ?_
 have cb3_0 := kb3.cell 0 rfl
 have cb3_1 := kb3.cell 1 rfl
 have cb3_2 := kb3.cell 2 rfl
 have cb3_3 := kb3.cell 3 rfl
 refine pl ?_
 refine pl ?_
 refine pl ?_
 refine listF_step rfl (fun K' hK => ?_); unfold opF; go_simp
 refine (rasked_any k a c ac cc cs h _ hsl (Rd.oldB HR.out HB.out (by simp)) (Rd.oldB HRc.out HB.out (by simp)) hlc).mono ?_; rintro e w4 ⟨rfl, hb5⟩
 refine ⟨_, rfl, hK _ _ ?_⟩; clear hK K'
 clear cb3_0 cb3_1 cb3_2 cb3_3
 clear qb3
 replace kb3 := kb3.at hb5
 replace HB := hid (HB.out.below hb5)
 clear hb5
 have qb3 := kb3.1
 refine pl ?_
 refine pl ?_
 refine pl ?_
 refine pa (fun w6 B9 hB kb9' hb7 => ?_)
 have gb9 := HB.out.gB hB
 have ob3_b9 := oB qb3 hB
 have eb9 := eB hB; clear hB
 clear qb3
 replace kb3 := kb3.at hb7
 replace HB := hid (HB.out.below hb7)
 clear hb7
 have qb3 := kb3.1
 have kb9 := kb9'
 clear kb9'
 have qb9 := kb9.1
 have cb9_0 := kb9.cell 0 rfl
 have cb9_1 := kb9.cell 1 rfl
 have zb9 := kb9.2.2
 refine pl ?_
 refine listF_absw (fun w8 hw' => ?_)
 have kb9' := cells_of hw' (Cells.set (i := 1) (Cells.set (i := 0) (kb9)))
 (try simp only [vC, List.set_cons_zero, List.set_cons_succ] at kb9')
 have hb9 : OldB [B9] w6 w8 := oldset hw'
 clear hw'
 clear cb9_0 cb9_1 zb9
 clear qb3 qb9
 replace kb9 := kb9'
 replace kb3 := kb3.oldB hb9 (by first | (simp; done) | (simp; omega))
 replace HB := hid (HB.out.more hb9 (by simp; try omega))
 clear hb9
 have qb3 := kb3.1
 have qb9 := kb9.1
 clear kb9'
 refine pl ?_
 refine listF_abs (fun s10 hs' => ?_)
 replace sl3 := gs 3 hs' sl3; have sl9 := gu 9 hs'; have sl10 := gu 10 hs'; clear hs' sl1 sl2
 refine listF_nil ?_
 repeat ((fail_if_success refine stp ?_); with_reducible go_step)
 refine region_F ?_
 refine pl ?_
 refine pl ?_
 refine listF_abs (fun s11 hs' => ?_)
 replace sl3 := gs 3 hs' sl3; replace sl9 := gs 9 hs' sl9; replace sl10 := gs 10 hs' sl10; have sl21 := gu 21 hs'; clear hs'
 refine listF_nil ?_
 repeat ((fail_if_success refine stp ?_); with_reducible go_step)
 refine cond_E sl21 (by decide) ?_ ?_ <;> (clear sl21; intro h21 sl21)
 ·skip
  have Ha := hid (show (asked k cs h).2 ≠ 0 by simpa using h21)
  repeat ((fail_if_success refine stp ?_); with_reducible go_step)
  refine region_F ?_
  refine pl ?_
  refine pl ?_
  refine pl ?_
  refine pl ?_
  refine listF_abs (fun s12 hs' => ?_)
  have sl6 := gu 6 hs'; have sl7 := gu 7 hs'; have sl8 := gu 8 hs'; clear hs' sl3 sl9 sl10 sl21
  refine listF_nil ?_
  repeat ((fail_if_success refine stp ?_); with_reducible go_step)
  refine ret_F _ (res_ttt Try.results28 ((getD_F (by decide)).trans sl6) ((getD_F (by decide)).trans sl7) ((getD_F (by decide)).trans sl8)) ?_
  exact ⟨by unfold nextRes; rw [if_neg Ha.out], HB.out.toBelow⟩
 ·skip
  have ha : (asked k cs h).2 = 0 := by simpa using h21
  obtain ⟨hK, _, hsp, hlh, hh1, hh2, hlo0, hhi0⟩ := asked_in ha
  have HK := hid hK
  have Hsp := hid hsp
  have Ha := hid ha
  clear ha hK hsp
  have hl0 := HK.out.l0
  have hl1 := HK.out.l1
  have hlt0 : 0 < k.steps.length := by omega
  obtain ⟨b, off, rfl, hbs, c0, c1⟩ := RdSteps.ne (Rd.oldB HR.out HB.out (by simp)) hlt0
  have d0 : w8.cell? ⟨b, off, none⟩ = some (.int .i64 k.steps[0].volt) := by simpa using c0
  clear c0 c1
  have hlt0' : (0 : Int) < k.steps.length := by omega
  have Hb0 := hid (show bestUpto k (asked k cs h).1 0 = k.steps[0].volt by unfold bestUpto; rw [getD_get hlt0])
  repeat ((fail_if_success refine stp ?_); with_reducible go_step)
  refine region_F ?_
  refine pl ?_
  have cb3_0 := kb3.cell 0 rfl
  have cb3_1 := kb3.cell 1 rfl
  have cb3_2 := kb3.cell 2 rfl
  have cb3_3 := kb3.cell 3 rfl
  refine pl ?_
  refine pl ?_
  refine pl ?_
  refine pl ?_
  refine pl ?_
  refine listF_abs (fun s13 hs' => ?_)
  replace sl3 := gs 3 hs' sl3; replace sl9 := gs 9 hs' sl9; have sl11 := gu 11 hs'; clear hs' sl10 sl21
  refine listF_nil ?_
  repeat ((fail_if_success refine stp ?_); with_reducible go_step)
  rw [← Hb0.out] at sl11
  ·skip
   refine region_F ?_
   refine pl ?_
   refine listF_abs (fun s14 hs' => ?_)
   replace sl3 := gs 3 hs' sl3; replace sl9 := gs 9 hs' sl9; replace sl11 := gs 11 hs' sl11; have sl12 := gu 12 hs'; clear hs'
   refine listF_nil ?_
   repeat ((fail_if_success refine stp ?_); with_reducible go_step)
   clear cb3_0 cb3_1 cb3_2 cb3_3
   have hc0_3 := hid sl3
   have hc0_9 := hid sl9
   refine loop_F (n := 60) (fun kJ sJ wJ => ∃ (i : Nat), kJ = k.steps.length - i ∧ sJ 11 = .int .i64 (bestUpto k (asked k cs h).1 (i - 1)) ∧ sJ 12 = .int .i64 (i : Int) ∧ sJ 3 = s14 3 ∧ sJ 9 = s14 9 ∧ OldB [] w8 wJ ∧ 1 ≤ i ∧ i ≤ k.steps.length) ⟨1, rfl, (by first | exact sl11 | (rw [sl11]; go_num) | (rw [sl11]; rfl)), (by first | exact sl12 | (rw [sl12]; go_num) | (rw [sl12]; rfl)), rfl, rfl, OldB.refl _ _, Nat.le_refl _, hlt0⟩ ?_
   clear sl11 sl12
   rintro kJ s15 w16 ⟨i, rfl, sl11, sl12, e3, e9, hb17, hi1, hil⟩
   replace sl3 := e3.trans sl3; clear e3
   replace sl9 := e9.trans sl9; clear e9
   have hoJ := hb17
   clear qb3 qb9
   replace kb3 := kb3.oldB hb17 (by first | (simp; done) | (simp; omega))
   replace kb9 := kb9.oldB hb17 (by first | (simp; done) | (simp; omega))
   replace HB := hid (HB.out.more hb17 (by simp; try omega))
   clear hb17
   have qb3 := kb3.1
   have qb9 := kb9.1
   have HoJ := hid hoJ; clear hoJ
   have HL18 := HoJ; clear HoJ
   repeat ((fail_if_success refine stp ?_); with_reducible go_step)
   refine region_F ?_
   refine pl ?_
   refine pl ?_
   have cb3_0 := kb3.cell 0 rfl
   have cb3_1 := kb3.cell 1 rfl
   have cb3_2 := kb3.cell 2 rfl
   have cb3_3 := kb3.cell 3 rfl
   refine pl ?_
   refine pl ?_
   refine pl ?_
   refine listF_abs (fun s19 hs' => ?_)
   replace sl3 := gs 3 hs' sl3; replace sl9 := gs 9 hs' sl9; replace sl11 := gs 11 hs' sl11; replace sl12 := gs 12 hs' sl12; have sl32 := gu 32 hs'; clear hs'
   refine listF_nil ?_
   repeat ((fail_if_success refine stp ?_); with_reducible go_step)
   refine cond_E sl32 (by decide) ?_ ?_ <;> (clear sl32; intro h32 sl32)
   ·skip
    have hlt : i < k.steps.length := by simpa using h32
    obtain ⟨hbs2, c0, c1⟩ := RdSteps.get (Rd.oldB HR.out HB.out (by simp)) hlt
    have hlt' : (i : Int) < k.steps.length := by omega
    have Hvo := hid (needed_at HK.out hlt).1
    have Hbv := hid (bu_volt HK.out (s := (asked k cs h).1) (i - 1) (by omega))
    have Hbu := hid (bu_succ (s := (asked k cs h).1) hi1 hlt)
    have wii : IntKind.i64.wrap ((i : Int) + 1) = (i : Int) + 1 := IntWalk.i64_in _ (by omega)
    repeat ((fail_if_success refine stp ?_); with_reducible go_step)
    have cb9_0 := kb9.cell 0 rfl
    have cb9_1 := kb9.cell 1 rfl
    refine regionR_F [] [] [] [.q [], .q [], .q [], .q [], .q [], .q [], .q [], .q [], .q [], .q [], .q [], .q []] [?v14_0, ?v14_1, ?v14_2, ?v14_3, ?v14_4, ?v14_5, ?v14_6, ?v14_7, ?v14_8, ?v14_9, ?v14_10, ?v14_11] [fun _ => [], fun _ => [], fun _ => [], fun _ => [], fun _ => [], fun _ => [], fun _ => [], fun _ => [], fun _ => [], fun _ => [], fun _ => [], fun _ => []] (by kernel_rfl) (by kernel_rfl) (by kernel_rfl) (by kernel_rfl) (by kernel_rfl) (by first | exact List.nodup_nil | exact List.nodup_singleton _ | (simp; done) | (simp; omega)) bc_nil ?walk14 ?dep14
    case walk14 =>
     refine rq ?_
     refine rq ?_
     refine rq ?_
     refine rq ?_
     refine rq ?_
     refine rq ?_
     refine rq ?_
     refine rq ?_
     refine walkR_q (by rfl) (fun X hX wq hwq hrq => ?_) ?_
     · obtain ⟨hcq, hfq⟩ := hwq.b0
       clear hrq
       go_simp
       (with_reducible exact (rwidth_any k _ c (asked k cs h).1 k.steps[i].volt _ (Rd.oldB HR.out (HB.out.more hwq.unDrew (by simp; try omega)) (by simp)) HK.out Hsp.out Hvo.out))
     refine rq ?_
     refine rq ?_
     refine rq ?_
     refine walkR_nil (fun X hX w20 hwz hcz => ?_)
     clear hX hcz
     (try clear X)
     skip
     have hb21 := hwz.unDrew; clear hwz
     clear cb3_0 cb3_1 cb3_2 cb3_3 cb9_0 cb9_1
     clear qb3 qb9
     replace kb3 := kb3.oldB hb21 (by first | (simp; done) | (simp; omega))
     replace kb9 := kb9.oldB hb21 (by first | (simp; done) | (simp; omega))
     replace HL18 := hid (HL18.out.more hb21 (by simp; try omega))
     replace HB := hid (HB.out.more hb21 (by simp; try omega))
     clear hb21
     have qb3 := kb3.1
     have qb9 := kb9.1
     refine listF_step rfl (fun K' hK => ?_); unfold opF; go_simp
     refine (rwidth_any k _ c (asked k cs h).1 (bestUpto k (asked k cs h).1 (i - 1)) _ (Rd.oldB HR.out HB.out (by simp)) HK.out Hsp.out Hbv.out).mono ?_; rintro e w22 ⟨rfl, hb23⟩
     refine ⟨_, rfl, hK _ _ ?_⟩; clear hK K'
     clear qb3 qb9
     replace kb3 := kb3.at hb23
     replace kb9 := kb9.at hb23
     replace HL18 := hid (HL18.out.below hb23)
     replace HB := hid (HB.out.below hb23)
     clear hb23
     have qb3 := kb3.1
     have qb9 := kb9.1
     refine pl ?_
     refine listF_abs (fun s24 hs' => ?_)
     replace sl3 := gs 3 hs' sl3; replace sl9 := gs 9 hs' sl9; replace sl11 := gs 11 hs' sl11; replace sl12 := gs 12 hs' sl12; have sl48 := gu 48 hs'; clear hs' sl32
     refine listF_nil ?_
     repeat ((fail_if_success refine stp ?_); with_reducible go_step)
     refine cond_E sl48 (by decide) ?_ ?_ <;> (clear sl48; intro h48 sl48)
     ·skip
      clear c0 c1 hbs2
      obtain ⟨hbs2, c0, c1⟩ := RdSteps.get (Rd.oldB HR.out HB.out (by simp)) hlt
      have Hv1 := hid (show bestUpto k (asked k cs h).1 i = k.steps[i].volt by rw [Hbu.out, if_pos (by simpa using h48)])
      repeat ((fail_if_success refine stp ?_); with_reducible go_step)
      refine region_F ?_
      refine pl ?_
      have cb3_0 := kb3.cell 0 rfl
      have cb3_1 := kb3.cell 1 rfl
      have cb3_2 := kb3.cell 2 rfl
      have cb3_3 := kb3.cell 3 rfl
      refine pl ?_
      refine pl ?_
      refine pl ?_
      refine pl ?_
      refine pl ?_
      refine pl ?_
      refine listF_abs (fun s25 hs' => ?_)
      replace sl3 := gs 3 hs' sl3; replace sl9 := gs 9 hs' sl9; replace sl11 := gu 11 hs'; replace sl12 := gs 12 hs' sl12; clear hs' sl48
      refine listF_nil ?_
      repeat ((fail_if_success refine stp ?_); with_reducible go_step)
      refine region_F ?_
      refine pl ?_
      refine pl ?_
      refine pl ?_
      refine listF_abs (fun s26 hs' => ?_)
      replace sl3 := gs 3 hs' sl3; replace sl9 := gs 9 hs' sl9; replace sl11 := gs 11 hs' sl11; replace sl12 := gu 12 hs'; clear hs'
      refine listF_nil ?_
      repeat ((fail_if_success refine stp ?_); with_reducible go_step)
      clear cb3_0 cb3_1 cb3_2 cb3_3
      refine ⟨_, _, rfl, ?_, i + 1, rfl, (by rw [sl11, Nat.add_sub_cancel, Hv1.out]), (by first | (with_reducible exact sl12) | (rw [sl12]; (with_reducible go_num); done) | (rw [sl12, IntWalk.i64_in] <;> first | ((with_reducible go_num); done) | omega) | (rw [sl12]; go_num; done) | (rw [sl12]; simp; done) | (rw [sl12]; simp; omega)), (sl3.trans hc0_3.out.symm), (sl9.trans hc0_9.out.symm), HL18.out, by omega, by omega⟩
      omega
     ·skip
      have Hv1 := hid (show bestUpto k (asked k cs h).1 i = (bestUpto k (asked k cs h).1 (i - 1)) by rw [Hbu.out, if_neg (by simpa using h48)])
      repeat ((fail_if_success refine stp ?_); with_reducible go_step)
      refine region_F ?_
      refine pl ?_
      refine pl ?_
      refine pl ?_
      refine listF_abs (fun s27 hs' => ?_)
      replace sl3 := gs 3 hs' sl3; replace sl9 := gs 9 hs' sl9; replace sl11 := gs 11 hs' sl11; replace sl12 := gu 12 hs'; clear hs' sl48
      refine listF_nil ?_
      repeat ((fail_if_success refine stp ?_); with_reducible go_step)
      refine ⟨_, _, rfl, ?_, i + 1, rfl, (by rw [sl11, Nat.add_sub_cancel, Hv1.out]), (by first | (with_reducible exact sl12) | (rw [sl12]; (with_reducible go_num); done) | (rw [sl12, IntWalk.i64_in] <;> first | ((with_reducible go_num); done) | omega) | (rw [sl12]; go_num; done) | (rw [sl12]; simp; done) | (rw [sl12]; simp; omega)), (sl3.trans hc0_3.out.symm), (sl9.trans hc0_9.out.symm), HL18.out, by omega, by omega⟩
      omega
    case dep14 =>
      refine dR ?_
      refine dR ?_
      refine dR ?_
      refine dR ?_
      refine dR ?_
      refine dR ?_
      refine dR ?_
      refine dR ?_
      refine dR ?_
      refine dR ?_
      refine dR ?_
      refine dR ?_
      exact depR_nil
   ·skip
    have hge : ¬ i < k.steps.length := by simpa using h32
    obtain rfl : i = k.steps.length := by omega
    have Hbv := hid (bu_volt HK.out (s := (asked k cs h).1) (k.steps.length - 1) (by omega))
    repeat ((fail_if_success refine stp ?_); with_reducible go_step)
    clear HL18
    clear hc0_3 hc0_9
    refine region_F ?_
    refine pl ?_
    refine pl ?_
    have cb9_0 := kb9.cell 0 rfl
    have cb9_1 := kb9.cell 1 rfl
    refine pl ?_
    refine pl ?_
    refine listF_step rfl (fun K' hK => ?_); unfold opF; go_simp
    refine (rwidth_any k _ c (asked k cs h).1 (bestUpto k (asked k cs h).1 (k.steps.length - 1)) _ (Rd.oldB HR.out HB.out (by simp)) HK.out Hsp.out Hbv.out).mono ?_; rintro e w28 ⟨rfl, hb29⟩
    refine ⟨_, rfl, hK _ _ ?_⟩; clear hK K'
    clear cb3_0 cb3_1 cb3_2 cb3_3 cb9_0 cb9_1
    clear qb3 qb9
    replace kb3 := kb3.at hb29
    replace kb9 := kb9.at hb29
    replace HB := hid (HB.out.below hb29)
    clear hb29
    have qb3 := kb3.1
    have qb9 := kb9.1
    refine pl ?_
    refine pl ?_
    refine pl ?_
    refine listF_abs (fun s30 hs' => ?_)
    have sl6 := gu 6 hs'; have sl7 := gu 7 hs'; have sl8 := gu 8 hs'; clear hs' sl3 sl9 sl11 sl12 sl32
    refine listF_nil ?_
    repeat ((fail_if_success refine stp ?_); with_reducible go_step)
    refine ret_F _ (res_ttt Try.results28 ((getD_F (by decide)).trans sl6) ((getD_F (by decide)).trans sl7) ((getD_F (by decide)).trans sl8)) ?_
    exact ⟨by unfold nextRes best; rw [if_pos Ha.out], HB.out.toBelow⟩

end Go.Proofs.Ytndcmmghgljinaa
