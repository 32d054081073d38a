/- MarginFewest. -/
import Derived.Test.YtndcmmghgljinaaW43
import Derived.Test.YtndcmmghgljinaaY2
set_option linter.all false
namespace Go.Proofs.Ytndcmmghgljinaa
open Go.RowKit


theorem u16_in {n : Int} (h : 0 ≤ n ∧ n ≤ 65535) : IntKind.u16.wrap n = n := by
  unfold IntKind.wrap
  simp [IntKind.signed, IntKind.bits]
  omega
theorem few_len {x : Vl} {l : List Int} {f : Nat} {u : Int} {R : List (List Int) × Int} (h : kdErr x.k = 0 ∧ l.length ≤ 20 ∧ Incr l ∧ (f : Int) ≤ u ∧
      ((∃ p, planR x.k l (failsOf x.k (asked x.k [] f).1 f).earliest f u = some p ∧ repRes [x] l f u = (addPlan (List.replicate l.length []) 0 p, 0)) ∨ (planR x.k l (failsOf x.k (asked x.k [] f).1 f).earliest f u = none ∧ repRes [x] l f u = ([], 9)))) (hR : repRes [x] l f u = R) : R.1.length ≤ 20 := by
  obtain ⟨_, hl, _, _, ⟨p, hp, hr⟩ | ⟨_, hr⟩⟩ := h
  · rw [← hR, hr]
    show (addPlan _ 0 p).length ≤ 20
    rw [add_len, List.length_replicate]; exact hl
  · rw [← hR, hr]; exact Nat.zero_le _
theorem few_sum {x : Vl} {l : List Int} {f : Nat} {u : Int} {R : List (List Int) × Int} (h : kdErr x.k = 0 ∧ l.length ≤ 20 ∧ Incr l ∧ (f : Int) ≤ u ∧
      ((∃ p, planR x.k l (failsOf x.k (asked x.k [] f).1 f).earliest f u = some p ∧ repRes [x] l f u = (addPlan (List.replicate l.length []) 0 p, 0)) ∨ (planR x.k l (failsOf x.k (asked x.k [] f).1 f).earliest f u = none ∧ repRes [x] l f u = ([], 9)))) (hR : repRes [x] l f u = R) : sumLen R.1 ≤ 20 := by
  obtain ⟨_, hl, _, _, ⟨p, hp, hr⟩ | ⟨_, hr⟩⟩ := h
  · have hin := plan_in _ hp
    rw [← hR, hr]
    show sumLen (addPlan _ 0 p) ≤ 20
    rw [sum_add (fun y hy => by have := hin y hy; rw [List.length_replicate]; omega)]
    have h0 : sumLen (List.replicate l.length ([] : List Int)) = 0 := by simp [sumLen]
    have := planR_len hp
    omega
  · rw [← hR, hr]; exact Nat.zero_le _


theorem lived_any2 (k : Kd) (a : Option Addr) (c : Nat) (ah av : Option Addr) (nh ch nv cv : Nat) (x : Int) (aw : Option Addr) (cw : Nat) (lw : List Int) (u : Nat) (w : World) (hK : KOk k) (hRw : RdU w aw lw) (hlw : lw.length ≤ 9223372036854775807) (hU : U16 lw) (hu : u ≤ 99998) :
    Calls Try.prog 41 #[.agg #[.int .i64 k.new, .int .i64 k.wear.lo, .int .i64 k.wear.hi, .slice a k.steps.length c], .agg #[.slice ah nh ch, .slice av nv cv, .int .u16 x, .slice aw lw.length cw], .int .i64 (u : Int)] w (fun e w' => ∃ v, e = .returned v ∧ Own int1 1 3 w.heap.size w' v (LL k lw (u + 1)) ∧ Below w.heap.size w w') :=
  (lived_own k a c ah av nh ch nv cv x aw cw lw u w hK hRw hlw hU hu).mono fun e w' ⟨b, c, h1, h2, h3⟩ => ⟨_, h1, h2, h3⟩

set_option maxRecDepth 100000 in
set_option maxHeartbeats 16000000 in
theorem fewest_walk (k : Kd) (a : Option Addr) (c : Nat) (an : Option Addr) (cn : Nat) (ns : List Int) (xf xu : Int) (aw : Option Addr) (cw : Nat) (lw : List Int) (ab : Option Addr) (cb : Nat) (lo : List Bool) (w : World) (hK0 : KdIn w k a) (hRn : RdInts w an ns) (hln : ns.length ≤ 9223372036854775807) (hxf : 0 ≤ xf ∧ xf ≤ 65535) (hxu : 0 ≤ xu ∧ xu ≤ 65535) (hRo : RdB w ab lo) (hlo : lo.length ≤ 9223372036854775807) :
    Calls Try.prog 16 #[.agg #[.int .i64 k.new, .int .i64 k.wear.lo, .int .i64 k.wear.hi, .slice a k.steps.length c], .slice an ns.length cn, .agg #[.int .u16 xf, .int .u16 xu, .slice aw lw.length cw, .slice ab lo.length cb]] w (fun e w' => e = .returned (.bool true) ∧ Below w.heap.size w w') := by
 have HR := hid hK0.2.2; have hN := hK0.1; have hsl := hK0.2.1; clear hK0; have HRn := hid hRn; have HRo := hid hRo; clear hRn hRo; have yf := u16_wrap hxf; have yu := u16_wrap hxu
 obtain ⟨f, hf1, hf2⟩ : ∃ n : Nat, xf.tmod 300 = (n : Int) ∧ n < 300 := by obtain ⟨n, h1, h2, _⟩ := turn_nat (x := xf) (l := 300) hxf.1 (by omega) (by omega); exact ⟨n, h1, h2⟩
 obtain ⟨g, hg1, hg2⟩ : ∃ n : Nat, xu.tmod 600 = (n : Int) ∧ n < 600 := by obtain ⟨n, h1, h2, _⟩ := turn_nat (x := xu) (l := 600) hxu.1 (by omega) (by omega); exact ⟨n, h1, h2⟩
 have wf := IntWalk.i64_in (f : Int) (by omega); have wg := IntWalk.i64_in (g : Int) (by omega); obtain ⟨u, hu⟩ : ∃ u, u = f + g := ⟨_, rfl⟩
 have hfu : f ≤ u := by omega
 have hu9 : u < 900 := by omega
 have wu : IntKind.i64.wrap ((f : Int) + (g : Int)) = (u : Int) := by rw [IntWalk.i64_in _ (by omega)]; omega
 clear hu; obtain ⟨i1, hi1, hz1, hy1, hx1⟩ := info_parts info_bool
 refine enter_F Try.func16 rfl Try.ntmps16 (by simp) ?_
 intro s0 hs; have sl0 : s0 0 = .agg #[.int .i64 k.new, .int .i64 k.wear.lo, .int .i64 k.wear.hi, .slice a k.steps.length c] := hs 0 (by simp); have sl1 : s0 1 = .slice an ns.length cn := hs 1 (by simp); have sl2 : s0 2 = .agg #[.int .u16 xf, .int .u16 xu, .slice aw lw.length cw, .slice ab lo.length cb] := hs 2 (by simp); clear hs; have HB := hid (OldB.refl [] w)
 repeat ((fail_if_success refine stp ?_); with_reducible go_step)
 refine region_F ?_; refine pa (fun w1 B3 hB kb3' hb2 => ?_); have gb3 := HB.out.gB hB; have eb3 := eB hB; clear hB; replace HB := hid (HB.out.below hb2); clear hb2; have kb3 := kb3'; clear kb3'; have qb3 := kb3.1; refine pa (fun w3 B5 hB kb5' hb4 => ?_); have gb5 := HB.out.gB hB; have ob3_b5 := oB qb3 hB; have eb5 := eB hB; clear hB; clear qb3; replace kb3 := kb3.at hb4; replace HB := hid (HB.out.below hb4); clear hb4; have qb3 := kb3.1; have kb5 := kb5'; clear kb5'; have qb5 := kb5.1; refine pl ?_; refine listF_abs (fun s5 z' => ?_); replace sl1 := gs 1 z' sl1; have sl3 := gu 3 z'; have sl5 := gu 5 z'; clear z' sl0 sl2; refine listF_nil ?_
 repeat ((fail_if_success refine stp ?_); with_reducible go_step)
 refine region_F ?_; refine pl ?_; have cb5_0 := kb5.cell 0 rfl; have cb5_1 := kb5.cell 1 rfl; have cb5_2 := kb5.cell 2 rfl; have cb5_3 := kb5.cell 3 rfl
 iterate 4 refine pl ?_
 refine listF_abs (fun s6 z' => ?_); replace sl1 := gs 1 z' sl1; replace sl3 := gs 3 z' sl3; replace sl5 := gs 5 z' sl5; have sl7 := gu 7 z'; clear z'; refine listF_nil ?_
 repeat ((fail_if_success refine stp ?_); with_reducible go_step)
 refine region_F ?_
 iterate 7 refine pl ?_
 refine listF_abs (fun s7 z' => ?_); replace sl1 := gs 1 z' sl1; replace sl3 := gs 3 z' sl3; replace sl5 := gs 5 z' sl5; replace sl7 := gs 7 z' sl7; have sl8 := gu 8 z'; clear z'; refine listF_nil ?_
 repeat ((fail_if_success refine stp ?_); with_reducible go_step)
 refine region_F ?_; have cb3_0 := kb3.cell 0 rfl; have cb3_1 := kb3.cell 1 rfl; have cb3_2 := kb3.cell 2 rfl; have cb3_3 := kb3.cell 3 rfl; refine pl ?_; refine pl ?_; refine pas (fun w8 B31 hB kb31' hb9 => ?_); have gb31 := HB.out.gB hB; have ob3_b31 := oB qb3 hB; have ob5_b31 := oB qb5 hB; have eb31 := eB hB; clear hB; clear cb3_0 cb3_1 cb3_2 cb3_3 cb5_0 cb5_1 cb5_2 cb5_3; clear qb3 qb5; replace kb3 := kb3.at hb9; replace kb5 := kb5.at hb9; replace HB := hid (HB.out.below hb9); clear hb9; have qb3 := kb3.1; have qb5 := kb5.1; have kb31 := kb31'; clear kb31'; have qb31 := kb31.1
 iterate 3 refine pl ?_
 refine listF_step rfl (fun K' hK => ?_); unfold opF; go_simp; refine (qreplace_any (some ⟨B31, 0, none⟩) 1 [(⟨k, a, c, none, 0, []⟩ : Vl)] an cn ns (f : Int) (u : Int) _ ⟨Cells.rd (f := Vl.vs) (m := 5) (l := [(⟨k, a, c, none, 0, []⟩ : Vl)]) (fun _ => rfl) kb31, (by simpa using (Rd.oldB HR.out HB.out (by simp))), (by simp; exact .inl rfl), (by simp [VlIn]; exact ⟨hN, hsl⟩)⟩ (Rd.oldB HRn.out HB.out (by simp)) (by simp) hln).mono ?_; rintro e w10 ⟨ap, xs, cp, rfl, hp, hx, hb11, fp⟩; obtain ⟨R, hR0⟩ : ∃ r, repRes [(⟨k, a, c, none, 0, []⟩ : Vl)] ns f u = r := ⟨_, rfl⟩; rw [hR0] at hx ⊢; have HR0 := hid hR0; have Hx := hid hx; have Hp := hid hp; have HLp := hid (OldB.refl [] w10); clear hR0 hx hp fp; refine ⟨_, rfl, hK _ _ ?_⟩; clear hK K'; clear qb3 qb5 qb31; replace kb3 := kb3.at hb11; replace kb5 := kb5.at hb11; replace kb31 := kb31.at hb11; replace HB := hid (HB.out.below hb11); clear hb11; have qb3 := kb3.1; have qb5 := kb5.1
 have qb31 := kb31.1
 iterate 5 refine pl ?_
 refine listF_abs (fun s12 z' => ?_); replace sl1 := gs 1 z' sl1; replace sl3 := gs 3 z' sl3; replace sl5 := gs 5 z' sl5; replace sl7 := gs 7 z' sl7; replace sl8 := gs 8 z' sl8; have sl9 := gu 9 z'; have sl10 := gu 10 z'; clear z'; refine listF_nil ?_
 repeat ((fail_if_success refine stp ?_); with_reducible go_step)
 by_cases hz : R.2 = 0
 ·skip
  by_cases hE : kdErr k = 0
  ·skip
   rcases Nat.eq_zero_or_pos lo.length with hl0 | hl0
   ·skip
    refine region_F ?_
    iterate 3 refine pl ?_
    refine pn false ?_; refine pn false ?_; refine pl ?_; refine pl ?_; have cb3_0 := kb3.cell 0 rfl; have cb3_1 := kb3.cell 1 rfl; have cb3_2 := kb3.cell 2 rfl; have cb3_3 := kb3.cell 3 rfl; refine py ?_; refine listF_yes rfl rfl (by decide) ?_ (fun K' hK => ?_); (focus (go_simp; done)); unfold opF; go_simp; refine (rcheck_any k a c _ hsl (Rd.oldB HR.out HB.out (by simp))).mono ?_; rintro e w13 ⟨rfl, hb14⟩; refine ⟨_, rfl, hK _ _ ?_⟩; clear hK K'; clear cb3_0 cb3_1 cb3_2 cb3_3; clear qb3 qb5 qb31; replace kb3 := kb3.at hb14; replace kb5 := kb5.at hb14; replace kb31 := kb31.at hb14; replace HLp := hid (HLp.out.below hb14); replace HB := hid (HB.out.below hb14); clear hb14; have qb3 := kb3.1; have qb5 := kb5.1; have qb31 := kb31.1; refine py ?_; refine pl ?_; refine pl ?_; refine py ?_; have cb5_0 := kb5.cell 0 rfl; have cb5_1 := kb5.cell 1 rfl; have cb5_2 := kb5.cell 2 rfl; have cb5_3 := kb5.cell 3 rfl
    iterate 3 refine py ?_
    refine pl ?_; refine listF_abs (fun s15 z' => ?_); replace sl1 := gs 1 z' sl1; replace sl3 := gs 3 z' sl3; replace sl5 := gs 5 z' sl5; replace sl7 := gs 7 z' sl7; replace sl8 := gs 8 z' sl8; replace sl9 := gs 9 z' sl9; replace sl10 := gs 10 z' sl10; have sl54 := gu 54 z'; clear z'; refine listF_nil ?_
    repeat ((fail_if_success refine stp ?_); with_reducible go_step)
    refine cond_t ?_
    repeat ((fail_if_success refine stp ?_); with_reducible go_step)
    refine region_F ?_
    iterate 3 refine pl ?_
    have cb3_0 := kb3.cell 0 rfl; have cb3_1 := kb3.cell 1 rfl; have cb3_2 := kb3.cell 2 rfl; have cb3_3 := kb3.cell 3 rfl; refine py ?_; refine listF_yes rfl rfl (by decide) ?_ (fun K' hK => ?_); (focus (go_simp; done)); unfold opF; go_simp; refine (rcheck_any k a c _ hsl (Rd.oldB HR.out HB.out (by simp))).mono ?_; rintro e w16 ⟨rfl, hb17⟩; refine ⟨_, rfl, hK _ _ ?_⟩; clear hK K'; clear cb3_0 cb3_1 cb3_2 cb3_3 cb5_0 cb5_1 cb5_2 cb5_3; clear qb3 qb5 qb31; replace kb3 := kb3.at hb17; replace kb5 := kb5.at hb17; replace kb31 := kb31.at hb17; replace HLp := hid (HLp.out.below hb17); replace HB := hid (HB.out.below hb17); clear hb17; have qb3 := kb3.1; have qb5 := kb5.1; have qb31 := kb31.1; refine py ?_; refine pl ?_; refine pl ?_; refine listF_yes rfl rfl (by decide) ?_ (fun K' hK => ?_); (focus (go_simp; done)); unfold opF; go_simp; refine (awake_any _).mono ?_; rintro e w18 ⟨rfl, hb19⟩; refine ⟨_, rfl, hK _ _ ?_⟩; clear hK K'; clear qb3 qb5 qb31
    replace kb3 := kb3.at hb19; replace kb5 := kb5.at hb19; replace kb31 := kb31.at hb19; replace HLp := hid (HLp.out.below hb19); replace HB := hid (HB.out.below hb19); clear hb19; have qb3 := kb3.1; have qb5 := kb5.1; have qb31 := kb31.1; refine pl ?_; refine pl ?_; refine listF_abs (fun s20 z' => ?_); have sl6 := gu 6 z'; clear z' sl1 sl3 sl5 sl7 sl8 sl9 sl10 sl54; refine listF_nil ?_
    repeat ((fail_if_success refine stp ?_); with_reducible go_step)
    refine ret_F _ (res_t Try.results16 ((getD_F (by decide)).trans sl6)) ?_; exact ⟨rfl, HB.out.toBelow⟩
   ·skip
    have hlo1 : ¬ (lo.length : Int) = 0 := by omega
    have hlo2 : ¬ lo = [] := fun e => by rw [e] at hl0; exact absurd hl0 (by simp)
    have Hone := hid (rep_one (x := (⟨k, a, c, none, 0, []⟩ : Vl)) (l := ns) (f := f) (u := u) (by omega) rfl (by rw [HR0.out]; first | exact .inl hz | exact .inr ⟨hn, hE⟩)); have HK := hid (kok_of hE); have Hnl := hid (show ns.length ≤ 1000 by have := Hone.out.2.1; omega); have Hxl := hid (show xs.length ≤ 20 by have h1 := congrArg List.length Hx.out; rw [List.length_map] at h1; rw [h1]; exact few_len Hone.out HR0.out); have Hsum := hid (show sumU xs xs.length ≤ 20 by rw [sumU_all, Hx.out]; exact few_sum Hone.out HR0.out); have HE := hid hE; refine region_F ?_
    iterate 3 refine pl ?_
    refine pn false ?_; refine pn false ?_; refine pl ?_; refine pl ?_; have cb3_0 := kb3.cell 0 rfl; have cb3_1 := kb3.cell 1 rfl; have cb3_2 := kb3.cell 2 rfl; have cb3_3 := kb3.cell 3 rfl; refine py ?_; refine listF_yes rfl rfl (by decide) ?_ (fun K' hK => ?_); (focus (go_simp; done)); unfold opF; go_simp; refine (rcheck_any k a c _ hsl (Rd.oldB HR.out HB.out (by simp))).mono ?_; rintro e w21 ⟨rfl, hb22⟩; refine ⟨_, rfl, hK _ _ ?_⟩; clear hK K'; clear cb3_0 cb3_1 cb3_2 cb3_3; clear qb3 qb5 qb31; replace kb3 := kb3.at hb22; replace kb5 := kb5.at hb22; replace kb31 := kb31.at hb22; replace HLp := hid (HLp.out.below hb22); replace HB := hid (HB.out.below hb22); clear hb22; have qb3 := kb3.1; have qb5 := kb5.1; have qb31 := kb31.1; refine py ?_; refine pl ?_; refine pl ?_; refine py ?_; have cb5_0 := kb5.cell 0 rfl; have cb5_1 := kb5.cell 1 rfl; have cb5_2 := kb5.cell 2 rfl; have cb5_3 := kb5.cell 3 rfl
    iterate 3 refine py ?_
    refine pl ?_; refine listF_abs (fun s23 z' => ?_); replace sl1 := gs 1 z' sl1; replace sl3 := gs 3 z' sl3; replace sl5 := gs 5 z' sl5; replace sl7 := gs 7 z' sl7; replace sl8 := gs 8 z' sl8; replace sl9 := gs 9 z' sl9; replace sl10 := gs 10 z' sl10; have sl54 := gu 54 z'; clear z'; refine listF_nil ?_
    repeat ((fail_if_success refine stp ?_); with_reducible go_step)
    refine cond_f ?_
    repeat ((fail_if_success refine stp ?_); with_reducible go_step)
    refine region_F ?_; refine pl ?_; refine listF_abs (fun s24 z' => ?_); replace sl1 := gs 1 z' sl1; replace sl3 := gs 3 z' sl3; replace sl5 := gs 5 z' sl5; replace sl7 := gs 7 z' sl7; replace sl8 := gs 8 z' sl8; replace sl9 := gs 9 z' sl9; replace sl10 := gs 10 z' sl10; have sl11 := gu 11 z'; clear z' sl54; refine listF_nil ?_
    repeat ((fail_if_success refine stp ?_); with_reducible go_step)
    refine region_F ?_; refine pl ?_; refine listF_abs (fun s25 z' => ?_); replace sl1 := gs 1 z' sl1; replace sl3 := gs 3 z' sl3; replace sl5 := gs 5 z' sl5; replace sl7 := gs 7 z' sl7; replace sl8 := gs 8 z' sl8; replace sl9 := gs 9 z' sl9; replace sl10 := gs 10 z' sl10; replace sl11 := gs 11 z' sl11; have sl12 := gu 12 z'; clear z'; refine listF_nil ?_
    repeat ((fail_if_success refine stp ?_); with_reducible go_step)
    clear cb5_0 cb5_1 cb5_2 cb5_3; have hc0_1 := hid sl1; have hc0_3 := hid sl3; have hc0_5 := hid sl5; have hc0_7 := hid sl7; have hc0_8 := hid sl8; have hc0_9 := hid sl9; have hc0_10 := hid sl10; refine loop_F (n := 140) (fun kJ sJ wJ => ∃ (i : Nat), kJ = xs.length - i ∧ sJ 11 = .int .i64 (sumU xs i : Int) ∧ sJ 12 = .int .i64 (i : Int) ∧ sJ 1 = s25 1 ∧ sJ 3 = s25 3 ∧ sJ 5 = s25 5 ∧ sJ 7 = s25 7 ∧ sJ 8 = s25 8 ∧ sJ 9 = s25 9 ∧ sJ 10 = s25 10 ∧ OldB [] w21 wJ ∧ i ≤ xs.length) ⟨0, rfl, (by first | exact sl11 | (rw [sl11]; go_num) | (rw [sl11]; rfl)), (by first | exact sl12 | (rw [sl12]; go_num) | (rw [sl12]; rfl)), rfl, rfl, rfl, rfl, rfl, rfl, rfl, OldB.refl _ _, Nat.zero_le _⟩ ?_; clear sl11 sl12; rintro kJ s26 w27 ⟨i, rfl, sl11, sl12, e1, e3, e5, e7, e8, e9, e10, hb28, hil⟩; replace sl1 := e1.trans sl1; clear e1; replace sl3 := e3.trans sl3; clear e3; replace sl5 := e5.trans sl5; clear e5; replace sl7 := e7.trans sl7; clear e7
    replace sl8 := e8.trans sl8; clear e8; replace sl9 := e9.trans sl9; clear e9; replace sl10 := e10.trans sl10; clear e10; have hoJ := hb28; clear qb3 qb5 qb31; replace kb3 := kb3.oldB hb28 (by first | (simp; done) | (simp; omega)); replace kb5 := kb5.oldB hb28 (by first | (simp; done) | (simp; omega)); replace kb31 := kb31.oldB hb28 (by first | (simp; done) | (simp; omega)); replace HLp := hid (HLp.out.more hb28 (by simp; try omega)); replace HB := hid (HB.out.more hb28 (by simp; try omega)); clear hb28; have qb3 := kb3.1; have qb5 := kb5.1; have qb31 := kb31.1; have HoJ := hid hoJ; clear hoJ; have HL29 := HoJ; clear HoJ
    repeat ((fail_if_success refine stp ?_); with_reducible go_step)
    refine region_F ?_
    iterate 4 refine pl ?_
    refine listF_abs (fun s30 z' => ?_); replace sl1 := gs 1 z' sl1; replace sl3 := gs 3 z' sl3; replace sl5 := gs 5 z' sl5; replace sl7 := gs 7 z' sl7; replace sl8 := gs 8 z' sl8; replace sl9 := gs 9 z' sl9; replace sl10 := gs 10 z' sl10; replace sl11 := gs 11 z' sl11; replace sl12 := gs 12 z' sl12; have sl68 := gu 68 z'; clear z'; refine listF_nil ?_
    repeat ((fail_if_success refine stp ?_); with_reducible go_step)
    refine cond_E sl68 (by decide) ?_ ?_ <;> (clear sl68; intro h68 sl68)
    ·skip
     have hx20 := Hxl.out
     have hix : i < xs.length := by simpa using h68
     have hixi : (i : Int) < xs.length := by omega
     obtain ⟨bp, op, rfl, hbp, c0⟩ := RdSls.ne (RdPlan.oldB Hp.out HLp.out).1 hix; have HsI := hid (show ((sumU xs (i + 1) : Nat) : Int) = (sumU xs i : Int) + (xs[i].l.length : Int) by rw [sumU_succ hix]; omega); have hs1 := sumU_le (xs := xs) (i := i + 1) (by omega); have hs2 := Hsum.out
     have ws_ : IntKind.i64.wrap ((sumU xs i : Int) + (xs[i].l.length : Int)) = (sumU xs i : Int) + (xs[i].l.length : Int) := by rw [← HsI.out]; exact IntWalk.i64_in _ (by omega)
     repeat ((fail_if_success refine stp ?_); with_reducible go_step)
     refine region_F ?_
     iterate 8 refine pl ?_
     refine listF_abs (fun s31 z' => ?_); replace sl1 := gs 1 z' sl1; replace sl3 := gs 3 z' sl3; replace sl5 := gs 5 z' sl5; replace sl7 := gs 7 z' sl7; replace sl8 := gs 8 z' sl8; replace sl9 := gs 9 z' sl9; replace sl10 := gs 10 z' sl10; replace sl11 := gu 11 z'; replace sl12 := gs 12 z' sl12; clear z' sl68; refine listF_nil ?_
     repeat ((fail_if_success refine stp ?_); with_reducible go_step)
     refine region_F ?_
     iterate 3 refine pl ?_
     refine listF_abs (fun s32 z' => ?_); replace sl1 := gs 1 z' sl1; replace sl3 := gs 3 z' sl3; replace sl5 := gs 5 z' sl5; replace sl7 := gs 7 z' sl7; replace sl8 := gs 8 z' sl8; replace sl9 := gs 9 z' sl9; replace sl10 := gs 10 z' sl10; replace sl11 := gs 11 z' sl11; replace sl12 := gu 12 z'; clear z'; refine listF_nil ?_
     repeat ((fail_if_success refine stp ?_); with_reducible go_step)
     refine ⟨_, _, rfl, ?_, i + 1, rfl, (by rw [sl11]; exact congrArg _ HsI.out.symm), (by first | (with_reducible exact sl12) | (rw [sl12]; (with_reducible go_num); done) | (rw [sl12, IntWalk.i64_in] <;> first | ((with_reducible go_num); done) | omega) | (rw [sl12]; go_num; done) | (rw [sl12]; simp; done) | (rw [sl12]; simp; omega)), (sl1.trans hc0_1.out.symm), (sl3.trans hc0_3.out.symm), (sl5.trans hc0_5.out.symm), (sl7.trans hc0_7.out.symm), (sl8.trans hc0_8.out.symm), (sl9.trans hc0_9.out.symm), (sl10.trans hc0_10.out.symm), HL29.out, by omega⟩
     omega
    ·skip
     have hix : i = xs.length := by have h := h68; simp at h; omega
     repeat ((fail_if_success refine stp ?_); with_reducible go_step)
     clear HL29; clear hc0_1 hc0_3 hc0_5 hc0_7 hc0_8 hc0_9 hc0_10; refine region_F ?_; refine pl ?_; refine listF_abs (fun s33 z' => ?_); replace sl1 := gs 1 z' sl1; replace sl3 := gs 3 z' sl3; replace sl5 := gs 5 z' sl5; replace sl7 := gs 7 z' sl7; replace sl8 := gs 8 z' sl8; replace sl10 := gs 10 z' sl10; replace sl11 := gs 11 z' sl11; have sl13 := gu 13 z'; clear z' sl9 sl12 sl68; refine listF_nil ?_
     repeat ((fail_if_success refine stp ?_); with_reducible go_step)
     refine region_F ?_; refine pl ?_; refine listF_abs (fun s34 z' => ?_); replace sl1 := gs 1 z' sl1; replace sl3 := gs 3 z' sl3; replace sl5 := gs 5 z' sl5; replace sl7 := gs 7 z' sl7; replace sl8 := gs 8 z' sl8; replace sl10 := gs 10 z' sl10; replace sl11 := gs 11 z' sl11; replace sl13 := gs 13 z' sl13; have sl14 := gu 14 z'; clear z'; refine listF_nil ?_
     repeat ((fail_if_success refine stp ?_); with_reducible go_step)
     refine region_F ?_; obtain ⟨NB, hNB⟩ : ∃ n, n = w27.heap.size := ⟨_, rfl⟩; have b3NB := oB qb3 hNB; have b5NB := oB qb5 hNB; have b31NB := oB qb31 hNB
     have hNB1 : w27.heap.size ≤ NB := by omega
     have hpR := Nat.le_trans HLp.out.size hNB1
     have hNBw : NB ≤ w27.heap.size := by omega
     clear hNB; refine pl ?_; refine listF_abs (fun s35 z' => ?_); replace sl1 := gs 1 z' sl1; replace sl3 := gs 3 z' sl3; replace sl5 := gs 5 z' sl5; replace sl7 := gs 7 z' sl7; replace sl8 := gs 8 z' sl8; replace sl10 := gs 10 z' sl10; replace sl11 := gs 11 z' sl11; replace sl13 := gs 13 z' sl13; replace sl14 := gs 14 z' sl14; have sl15 := gu 15 z'; clear z'; refine listF_nil ?_
     repeat ((fail_if_success refine stp ?_); with_reducible go_step)
     have hc1_1 := hid sl1; have hc1_3 := hid sl3; have hc1_5 := hid sl5; have hc1_7 := hid sl7; have hc1_8 := hid sl8; have hc1_10 := hid sl10; have hc1_11 := hid sl11; refine loop_F (n := 140) (fun kJ sJ wJ => ∃ (j : Nat) (a13 : Option Addr) (c13 : Nat), kJ = ns.length - j ∧ sJ 13 = .slice a13 j c13 ∧ sJ 14 = .int .i64 (cntB lo ns f j : Int) ∧ sJ 15 = .int .i64 (j : Int) ∧ sJ 1 = s35 1 ∧ sJ 3 = s35 3 ∧ sJ 5 = s35 5 ∧ sJ 7 = s35 7 ∧ sJ 8 = s35 8 ∧ sJ 10 = s35 10 ∧ sJ 11 = s35 11 ∧ OldB [] w27 wJ ∧ j ≤ ns.length ∧ Own boolc 1 4 NB wJ (Value.slice a13 j c13) (WL lo ns f j)) ⟨0, none, 0, rfl, (by first | exact sl13 | (rw [sl13]; go_num) | (rw [sl13]; rfl)), (by first | exact sl14 | (rw [sl14]; go_num) | (rw [sl14]; rfl)), (by first | exact sl15 | (rw [sl15]; go_num) | (rw [sl15]; rfl)), rfl, rfl, rfl, rfl, rfl, rfl, rfl, OldB.refl _ _, Nat.zero_le _, Own.nil _ _ _ _ _⟩ ?_; clear sl13 sl14 sl15; rintro kJ s36 w37 ⟨j, a13, c13, rfl, sl13, sl14, sl15, e1, e3, e5, e7, e8, e10, e11, hb38, hjn, hO13⟩
     replace sl1 := e1.trans sl1; clear e1; replace sl3 := e3.trans sl3; clear e3; replace sl5 := e5.trans sl5; clear e5; replace sl7 := e7.trans sl7; clear e7; replace sl8 := e8.trans sl8; clear e8; replace sl10 := e10.trans sl10; clear e10; replace sl11 := e11.trans sl11; clear e11; have hoJ := hb38; clear qb3 qb5 qb31; replace kb3 := kb3.oldB hb38 (by first | (simp; done) | (simp; omega)); replace kb5 := kb5.oldB hb38 (by first | (simp; done) | (simp; omega)); replace kb31 := kb31.oldB hb38 (by first | (simp; done) | (simp; omega)); replace HLp := hid (HLp.out.more hb38 (by simp; try omega)); replace hNBw := Nat.le_trans hNBw hb38.size; replace HB := hid (HB.out.more hb38 (by simp; try omega)); clear hb38; have qb3 := kb3.1; have qb5 := kb5.1; have qb31 := kb31.1; have HoJ := hid hoJ; clear hoJ; have HL39 := HoJ; clear HoJ
     repeat ((fail_if_success refine stp ?_); with_reducible go_step)
     refine region_F ?_
     iterate 4 refine pl ?_
     refine listF_abs (fun s40 z' => ?_); replace sl1 := gs 1 z' sl1; replace sl3 := gs 3 z' sl3; replace sl5 := gs 5 z' sl5; replace sl7 := gs 7 z' sl7; replace sl8 := gs 8 z' sl8; replace sl10 := gs 10 z' sl10; replace sl11 := gs 11 z' sl11; replace sl13 := gs 13 z' sl13; replace sl14 := gs 14 z' sl14; replace sl15 := gs 15 z' sl15; have sl81 := gu 81 z'; clear z'; refine listF_nil ?_
     repeat ((fail_if_success refine stp ?_); with_reducible go_step)
     refine cond_E sl81 (by decide) ?_ ?_ <;> (clear sl81; intro h81 sl81)
     ·skip
      have hj : j < ns.length := by simpa using h81
      have hjj : (j : Int) < ns.length := by omega
      obtain ⟨q, hq⟩ : ∃ q, j % lo.length = q := ⟨_, rfl⟩
      have jm : q < lo.length := by rw [← hq]; exact Nat.mod_lt _ hl0
      have jt : (j : Int).tmod (lo.length : Int) = (q : Int) := by rw [← hq]; exact (Int.ofNat_tmod _ _).symm
      have jq : q ≤ j := by rw [← hq]; exact Nat.mod_le _ _
      have jn := Hnl.out; have jw : IntKind.i64.wrap (q : Int) = (q : Int) := IntWalk.i64_in _ (by omega); clear jn
      have jmi : (q : Int) < (lo.length : Int) := by omega
      have Hq := hid hq; clear hq; have Hcj := hid (cntB_le (lo := lo) (ns := ns) (f := f) (n := j))
      repeat ((fail_if_success refine stp ?_); with_reducible go_step)
      have hj41_1 := hid sl1; have hj41_3 := hid sl3; have hj41_5 := hid sl5; have hj41_7 := hid sl7; have hj41_8 := hid sl8; have hj41_10 := hid sl10; have hj41_11 := hid sl11; have hj41_13 := hid sl13; have hj41_14 := hid sl14; have hj41_15 := hid sl15; refine cut_any (fun sJ wJ => sJ 16 = .bool (wB lo ns f j) ∧ sJ 1 = s40 1 ∧ sJ 3 = s40 3 ∧ sJ 5 = s40 5 ∧ sJ 7 = s40 7 ∧ sJ 8 = s40 8 ∧ sJ 10 = s40 10 ∧ sJ 11 = s40 11 ∧ sJ 13 = s40 13 ∧ sJ 14 = s40 14 ∧ sJ 15 = s40 15 ∧ OldB [] w37 wJ) ?_ ?_
      ·skip
       have HL42 := hid (OldB.refl [] w37); obtain ⟨y, hy⟩ : ∃ y, lo[q] = y := ⟨_, rfl⟩
       cases y
       ·skip
        obtain ⟨bo, oo, rfl, hbo, cO⟩ := RdB.ne (Rd.oldB HRo.out HB.out (by simp)) jm; rw [hy] at cO; obtain ⟨bn, on, rfl, hbn, cN⟩ := RdInts.ne (Rd.oldB HRn.out HB.out (by simp)) hj; have cb3_0 := kb3.cell 0 rfl; have cb3_1 := kb3.cell 1 rfl; have cb3_2 := kb3.cell 2 rfl; have cb3_3 := kb3.cell 3 rfl; have cb5_0 := kb5.cell 0 rfl; have cb5_1 := kb5.cell 1 rfl; have cb5_2 := kb5.cell 2 rfl; have cb5_3 := kb5.cell 3 rfl; have cb31_0 := kb31.cell 0 rfl; have cb31_1 := kb31.cell 1 rfl; have cb31_2 := kb31.cell 2 rfl; have cb31_3 := kb31.cell 3 rfl; have cb31_4 := kb31.cell 4 rfl; refine regionR_F [] [] [] [.q [], .q [], .q [], .q [], .q [], .q [], .q [], .q [], .q [], .q [], .no, .no, .no, .no, .no, .no, .q []] [?v27_0, ?v27_1, ?v27_2, ?v27_3, ?v27_4, ?v27_5, ?v27_6, ?v27_7, ?v27_8, ?v27_9, fun _ => undef, fun _ => undef, fun _ => undef, fun _ => undef, fun _ => undef, fun _ => undef, ?v27_16] [fun _ => [], fun _ => [], fun _ => [], fun _ => [], fun _ => [], fun _ => [], fun _ => [], fun _ => [], fun _ => [], fun _ => [], fun _ => [], fun _ => [], fun _ => [], fun _ => [], fun _ => [], fun _ => [], fun _ => []] (by kernel_rfl) (by kernel_rfl) (by kernel_rfl) (by kernel_rfl) (by kernel_rfl) (by first | exact List.nodup_nil | exact List.nodup_singleton _ | (simp; done) | (simp; omega)) bc_nil ?walk27 ?dep27
        case walk27 =>
         iterate 10 refine rq ?_
         refine walkR_no (b' := false) (by rfl) (by rfl) (by decide) (fun X hX => ?_) (by rfl) ?_
         · go_simp
         refine walkR_no (b' := false) (by rfl) (by rfl) (by decide) (fun X hX => ?_) (by rfl) ?_
         · go_simp
         refine walkR_no (b' := false) (by rfl) (by rfl) (by decide) (fun X hX => ?_) (by rfl) ?_
         · go_simp
         refine walkR_no (b' := false) (by rfl) (by rfl) (by decide) (fun X hX => ?_) (by rfl) ?_
         · go_simp
         refine walkR_no (b' := false) (by rfl) (by rfl) (by decide) (fun X hX => ?_) (by rfl) ?_
         · go_simp
         refine walkR_no (b' := false) (by rfl) (by rfl) (by decide) (fun X hX => ?_) (by rfl) ?_
         · go_simp
         refine rq ?_; refine walkR_nil (fun X hX w43 hwz hcz => ?_); clear hX hcz
         (try clear X)
         skip; have hb44 := hwz.unDrew; clear hwz; clear cb3_0 cb3_1 cb3_2 cb3_3 cb31_0 cb31_1 cb31_2 cb31_3 cb31_4 cb5_0 cb5_1 cb5_2 cb5_3; clear qb3 qb5 qb31; replace kb3 := kb3.oldB hb44 (by first | (simp; done) | (simp; omega)); replace kb5 := kb5.oldB hb44 (by first | (simp; done) | (simp; omega)); replace kb31 := kb31.oldB hb44 (by first | (simp; done) | (simp; omega)); replace HLp := hid (HLp.out.more hb44 (by simp; try omega)); replace hNBw := Nat.le_trans hNBw hb44.size; replace HL39 := hid (HL39.out.more hb44 (by simp; try omega)); replace HL42 := hid (HL42.out.more hb44 (by simp; try omega)); replace hO13 := Own.oldB hO13 hb44 (fun g hg => by have n0 := (World.ownsRow.lt hO13 g hg).1; first | (simp; done) | (simp; omega)); replace HB := hid (HB.out.more hb44 (by simp; try omega)); clear hb44; have qb3 := kb3.1; have qb5 := kb5.1; have qb31 := kb31.1; refine pl ?_; refine listF_abs (fun s45 z' => ?_); replace sl1 := gs 1 z' sl1; replace sl3 := gs 3 z' sl3; replace sl5 := gs 5 z' sl5; replace sl7 := gs 7 z' sl7; replace sl8 := gs 8 z' sl8; replace sl10 := gs 10 z' sl10
         replace sl11 := gs 11 z' sl11; replace sl13 := gs 13 z' sl13; replace sl14 := gs 14 z' sl14; replace sl15 := gs 15 z' sl15; have sl16 := gu 16 z'; have sl94 := gu 94 z'; have sl95 := gu 95 z'; have sl96 := gu 96 z'; have sl97 := gu 97 z'; have sl98 := gu 98 z'; have sl99 := gu 99 z'; clear z' sl81; refine listF_nil ?_
         repeat ((fail_if_success refine stp ?_); with_reducible go_step)
         exact ⟨rfl, _, rfl, (by rw [sl16]; unfold wB; rw [Hq.out, getD_get jm, hy]; rfl), (sl1.trans hj41_1.out.symm), (sl3.trans hj41_3.out.symm), (sl5.trans hj41_5.out.symm), (sl7.trans hj41_7.out.symm), (sl8.trans hj41_8.out.symm), (sl10.trans hj41_10.out.symm), (sl11.trans hj41_11.out.symm), (sl13.trans hj41_13.out.symm), (sl14.trans hj41_14.out.symm), (sl15.trans hj41_15.out.symm), HL42.out⟩
        case dep27 =>
          iterate 17 refine dR ?_
          exact depR_nil
       ·skip
        obtain ⟨bo, oo, rfl, hbo, cO⟩ := RdB.ne (Rd.oldB HRo.out HB.out (by simp)) jm; rw [hy] at cO; obtain ⟨bn, on, rfl, hbn, cN⟩ := RdInts.ne (Rd.oldB HRn.out HB.out (by simp)) hj; have cb3_0 := kb3.cell 0 rfl; have cb3_1 := kb3.cell 1 rfl; have cb3_2 := kb3.cell 2 rfl; have cb3_3 := kb3.cell 3 rfl; have cb5_0 := kb5.cell 0 rfl; have cb5_1 := kb5.cell 1 rfl; have cb5_2 := kb5.cell 2 rfl; have cb5_3 := kb5.cell 3 rfl; have cb31_0 := kb31.cell 0 rfl; have cb31_1 := kb31.cell 1 rfl; have cb31_2 := kb31.cell 2 rfl; have cb31_3 := kb31.cell 3 rfl; have cb31_4 := kb31.cell 4 rfl; refine regionR_F [] [] [] [.q [], .q [], .q [], .q [], .q [], .q [], .q [], .q [], .q [], .q [], .q [], .q [], .q [], .q [], .q [], .q [], .q []] [?v28_0, ?v28_1, ?v28_2, ?v28_3, ?v28_4, ?v28_5, ?v28_6, ?v28_7, ?v28_8, ?v28_9, ?v28_10, ?v28_11, ?v28_12, ?v28_13, ?v28_14, ?v28_15, ?v28_16] [fun _ => [], fun _ => [], fun _ => [], fun _ => [], fun _ => [], fun _ => [], fun _ => [], fun _ => [], fun _ => [], fun _ => [], fun _ => [], fun _ => [], fun _ => [], fun _ => [], fun _ => [], fun _ => [], fun _ => []] (by kernel_rfl) (by kernel_rfl) (by kernel_rfl) (by kernel_rfl) (by kernel_rfl) (by first | exact List.nodup_nil | exact List.nodup_singleton _ | (simp; done) | (simp; omega)) bc_nil ?walk28 ?dep28
        case walk28 =>
         iterate 10 refine rq ?_
         iterate 6 refine rqy ?_
         refine rq ?_; refine walkR_nil (fun X hX w46 hwz hcz => ?_); clear hX hcz
         (try clear X)
         skip; have hb47 := hwz.unDrew; clear hwz; clear cb3_0 cb3_1 cb3_2 cb3_3 cb31_0 cb31_1 cb31_2 cb31_3 cb31_4 cb5_0 cb5_1 cb5_2 cb5_3; clear qb3 qb5 qb31; replace kb3 := kb3.oldB hb47 (by first | (simp; done) | (simp; omega)); replace kb5 := kb5.oldB hb47 (by first | (simp; done) | (simp; omega)); replace kb31 := kb31.oldB hb47 (by first | (simp; done) | (simp; omega)); replace HLp := hid (HLp.out.more hb47 (by simp; try omega)); replace hNBw := Nat.le_trans hNBw hb47.size; replace HL39 := hid (HL39.out.more hb47 (by simp; try omega)); replace HL42 := hid (HL42.out.more hb47 (by simp; try omega)); replace hO13 := Own.oldB hO13 hb47 (fun g hg => by have n0 := (World.ownsRow.lt hO13 g hg).1; first | (simp; done) | (simp; omega)); replace HB := hid (HB.out.more hb47 (by simp; try omega)); clear hb47; have qb3 := kb3.1; have qb5 := kb5.1; have qb31 := kb31.1; refine pl ?_; refine listF_abs (fun s48 z' => ?_); replace sl1 := gs 1 z' sl1; replace sl3 := gs 3 z' sl3; replace sl5 := gs 5 z' sl5; replace sl7 := gs 7 z' sl7; replace sl8 := gs 8 z' sl8; replace sl10 := gs 10 z' sl10
         replace sl11 := gs 11 z' sl11; replace sl13 := gs 13 z' sl13; replace sl14 := gs 14 z' sl14; replace sl15 := gs 15 z' sl15; have sl16 := gu 16 z'; have sl94 := gu 94 z'; have sl95 := gu 95 z'; have sl96 := gu 96 z'; have sl97 := gu 97 z'; have sl98 := gu 98 z'; have sl99 := gu 99 z'; clear z' sl81; refine listF_nil ?_
         repeat ((fail_if_success refine stp ?_); with_reducible go_step)
         exact ⟨rfl, _, rfl, (by rw [sl16]; unfold wB; rw [Hq.out, getD_get jm, hy, getD_get hj]; simp), (sl1.trans hj41_1.out.symm), (sl3.trans hj41_3.out.symm), (sl5.trans hj41_5.out.symm), (sl7.trans hj41_7.out.symm), (sl8.trans hj41_8.out.symm), (sl10.trans hj41_10.out.symm), (sl11.trans hj41_11.out.symm), (sl13.trans hj41_13.out.symm), (sl14.trans hj41_14.out.symm), (sl15.trans hj41_15.out.symm), HL42.out⟩
        case dep28 =>
          iterate 17 refine dR ?_
          exact depR_nil
      ·skip
       clear sl81; rintro s49 w50 ⟨sl16, e1, e3, e5, e7, e8, e10, e11, e13, e14, e15, hb51⟩; replace sl1 := e1.trans sl1; clear e1 hj41_1; replace sl3 := e3.trans sl3; clear e3 hj41_3; replace sl5 := e5.trans sl5; clear e5 hj41_5; replace sl7 := e7.trans sl7; clear e7 hj41_7; replace sl8 := e8.trans sl8; clear e8 hj41_8; replace sl10 := e10.trans sl10; clear e10 hj41_10; replace sl11 := e11.trans sl11; clear e11 hj41_11; replace sl13 := e13.trans sl13; clear e13 hj41_13; replace sl14 := e14.trans sl14; clear e14 hj41_14; replace sl15 := e15.trans sl15; clear e15 hj41_15; clear qb3 qb5 qb31; replace kb3 := kb3.oldB hb51 (by first | (simp; done) | (simp; omega)); replace kb5 := kb5.oldB hb51 (by first | (simp; done) | (simp; omega)); replace kb31 := kb31.oldB hb51 (by first | (simp; done) | (simp; omega)); replace HLp := hid (HLp.out.more hb51 (by simp; try omega)); replace hNBw := Nat.le_trans hNBw hb51.size; replace HL39 := hid (HL39.out.more hb51 (by simp; try omega))
       replace hO13 := Own.oldB hO13 hb51 (fun g hg => by have n0 := (World.ownsRow.lt hO13 g hg).1; first | (simp; done) | (simp; omega)); replace HB := hid (HB.out.more hb51 (by simp; try omega)); clear hb51; have qb3 := kb3.1; have qb5 := kb5.1; have qb31 := kb31.1
       repeat ((fail_if_success refine stp ?_); with_reducible go_step)
       refine region_F ?_; refine pl ?_; refine pl ?_; refine pas (fun w52 B103 hB kb103' hb53 => ?_); have gb103 := HB.out.gB hB; have lHL39_b103 := HL39.out.gB hB; have ob3_b103 := oB qb3 hB; have ob5_b103 := oB qb5 hB; have ob31_b103 := oB qb31 hB
       have nhO13_b103 : ∀ g, (Value.slice a13 j c13).ownBlock = some g → g < B103 := fun g hg => by have := (World.ownsRow.lt hO13 g hg).2; omega
       have eb103 := eB hB; clear hB; clear qb3 qb5 qb31; replace kb3 := kb3.at hb53; replace kb5 := kb5.at hb53; replace kb31 := kb31.at hb53; replace HLp := hid (HLp.out.below hb53); replace hNBw := Nat.le_trans hNBw hb53.size; replace HL39 := hid (HL39.out.below hb53); replace hO13 := Own.at hO13 hb53; replace HB := hid (HB.out.below hb53); clear hb53; have qb3 := kb3.1; have qb5 := kb5.1; have qb31 := kb31.1; have kb103 := kb103'; clear kb103'; have qb103 := kb103.1
       have ab3 : (Value.slice a13 j c13).ownBlock ≠ some B3 := fun e => by have n0 := (World.ownsRow.lt hO13 B3 e).1; omega
       have ab5 : (Value.slice a13 j c13).ownBlock ≠ some B5 := fun e => by have n0 := (World.ownsRow.lt hO13 B5 e).1; omega
       have ab31 : (Value.slice a13 j c13).ownBlock ≠ some B31 := fun e => by have n0 := (World.ownsRow.lt hO13 B31 e).1; omega
       have ab103 : (Value.slice a13 j c13).ownBlock ≠ some B103 := fun e => by have n0 := (World.ownsRow.lt hO13 B103 e).1; have n9 := nhO13_b103 B103 e; omega
       have hzz := HB.out.size; refine listF_step rfl (fun K' hK => ?_); refine opF_app (d := 104) rfl (by decide) (.tmp 101) (.tmp 103) _ rfl 4 i1 _ 1 Try.underlying88 hi1 hz1 hy1 hx1 rfl (by decide) (fun _ => rfl) bool_one NB (Value.slice a13 j c13) (WL lo ns f j) [(wB lo ns f j)] (some ⟨B103, 0, none⟩) 1 (by go_simp) (by go_simp) hO13 (Cells.rd (f := boolc) (m := 1) (l := [(wB lo ns f j)]) (fun _ => rfl) kb103) (by unfold maxLen; rw [WL_len]; have := Hnl.out; simp; omega) (by rw [WL_len]; have := Hnl.out; simp; omega) (by omega) (fun v104 w54 hO' hG hV => hK _ _ ?_); clear hK K' hzz; clear qb3 qb5 qb31 qb103; replace kb3 := kb3.grown hG ab3; clear ab3; replace kb5 := kb5.grown hG ab5; clear ab5; replace kb31 := kb31.grown hG ab31; clear ab31; replace kb103 := kb103.grown hG ab103; clear ab103; replace HLp := hid (HLp.out.grown hG (fun k hk => .inl (by have := (World.ownsRow.lt hO13 k hk).1; omega))); replace hNBw := Nat.le_trans hNBw hG.size
       replace HL39 := hid (HL39.out.grown hG (fun k hk => .inl (by have := (World.ownsRow.lt hO13 k hk).1; omega))); replace HB := hid (HB.out.grown hG (fun k hk => .inl (by have := (World.ownsRow.lt hO13 k hk).1; omega))); clear hO13; have hO13 := hO'; clear hO' hG hV; clear nhO13_b103; have qb3 := kb3.1; have qb5 := kb5.1; have qb31 := kb31.1; have qb103 := kb103.1; rw [← WL_succ] at hO13; obtain ⟨a13', c13', rfl, hr9, hn9⟩ := Own.slice (f := boolc) (m := 1) (fun _ => rfl) hO13; clear hr9 hn9; rw [WL_len] at hO13 ⊢; refine pl ?_; refine listF_abs (fun s55 z' => ?_); replace sl1 := gs 1 z' sl1; replace sl3 := gs 3 z' sl3; replace sl5 := gs 5 z' sl5; replace sl7 := gs 7 z' sl7; replace sl8 := gs 8 z' sl8; replace sl10 := gs 10 z' sl10; replace sl11 := gs 11 z' sl11; replace sl13 := gu 13 z'; replace sl14 := gs 14 z' sl14; replace sl15 := gs 15 z' sl15; replace sl16 := gs 16 z' sl16; clear z'; refine listF_nil ?_
       repeat ((fail_if_success refine stp ?_); with_reducible go_step)
       refine region_F ?_; refine pl ?_; refine listF_abs (fun s56 z' => ?_); replace sl1 := gs 1 z' sl1; replace sl3 := gs 3 z' sl3; replace sl5 := gs 5 z' sl5; replace sl7 := gs 7 z' sl7; replace sl8 := gs 8 z' sl8; replace sl10 := gs 10 z' sl10; replace sl11 := gs 11 z' sl11; replace sl13 := gs 13 z' sl13; replace sl14 := gs 14 z' sl14; replace sl15 := gs 15 z' sl15; have sl105 := gu 105 z'; clear z' sl16; refine listF_nil ?_
       repeat ((fail_if_success refine stp ?_); with_reducible go_step)
       refine cond_E sl105 (by decide) ?_ ?_ <;> (clear sl105; intro h105 sl105)
       ·skip
        have HcI := hid (show ((cntB lo ns f (j + 1) : Nat) : Int) = (cntB lo ns f j : Int) + 1 by rw [cntB_succ, if_pos (show wB lo ns f j = true from h105)]; rfl); have wc : IntKind.i64.wrap ((cntB lo ns f j : Int) + 1) = (cntB lo ns f j : Int) + 1 := IntWalk.i64_in _ (by have := Hcj.out; have := Hnl.out; omega)
        repeat ((fail_if_success refine stp ?_); with_reducible go_step)
        refine region_F ?_
        iterate 3 refine pl ?_
        refine listF_abs (fun s57 z' => ?_); replace sl1 := gs 1 z' sl1; replace sl3 := gs 3 z' sl3; replace sl5 := gs 5 z' sl5; replace sl7 := gs 7 z' sl7; replace sl8 := gs 8 z' sl8; replace sl10 := gs 10 z' sl10; replace sl11 := gs 11 z' sl11; replace sl13 := gs 13 z' sl13; replace sl14 := gu 14 z'; replace sl15 := gs 15 z' sl15; clear z' sl105; refine listF_nil ?_
        repeat ((fail_if_success refine stp ?_); with_reducible go_step)
        refine region_F ?_
        iterate 3 refine pl ?_
        refine listF_abs (fun s58 z' => ?_); replace sl1 := gs 1 z' sl1; replace sl3 := gs 3 z' sl3; replace sl5 := gs 5 z' sl5; replace sl7 := gs 7 z' sl7; replace sl8 := gs 8 z' sl8; replace sl10 := gs 10 z' sl10; replace sl11 := gs 11 z' sl11; replace sl13 := gs 13 z' sl13; replace sl14 := gs 14 z' sl14; replace sl15 := gu 15 z'; clear z'; refine listF_nil ?_
        repeat ((fail_if_success refine stp ?_); with_reducible go_step)
        refine ⟨_, _, rfl, ?_, j + 1, a13', c13', rfl, (by first | (with_reducible exact sl13) | (rw [sl13]; (with_reducible go_num); done) | (rw [sl13, IntWalk.i64_in] <;> first | ((with_reducible go_num); done) | omega) | (rw [sl13]; go_num; done) | (rw [sl13]; simp; done) | (rw [sl13]; simp; omega)), (by rw [sl14]; exact congrArg _ HcI.out.symm), (by first | (with_reducible exact sl15) | (rw [sl15]; (with_reducible go_num); done) | (rw [sl15, IntWalk.i64_in] <;> first | ((with_reducible go_num); done) | omega) | (rw [sl15]; go_num; done) | (rw [sl15]; simp; done) | (rw [sl15]; simp; omega)), (sl1.trans hc1_1.out.symm), (sl3.trans hc1_3.out.symm), (sl5.trans hc1_5.out.symm), (sl7.trans hc1_7.out.symm), (sl8.trans hc1_8.out.symm), (sl10.trans hc1_10.out.symm), (sl11.trans hc1_11.out.symm), HL39.out, by omega, hO13⟩
        omega
       ·skip
        have HcI := hid (show ((cntB lo ns f (j + 1) : Nat) : Int) = (cntB lo ns f j : Int) by rw [cntB_succ, if_neg (show ¬ wB lo ns f j = true by rw [show wB lo ns f j = false from h105]; decide)]; rfl)
        repeat ((fail_if_success refine stp ?_); with_reducible go_step)
        refine region_F ?_
        iterate 3 refine pl ?_
        refine listF_abs (fun s59 z' => ?_); replace sl1 := gs 1 z' sl1; replace sl3 := gs 3 z' sl3; replace sl5 := gs 5 z' sl5; replace sl7 := gs 7 z' sl7; replace sl8 := gs 8 z' sl8; replace sl10 := gs 10 z' sl10; replace sl11 := gs 11 z' sl11; replace sl13 := gs 13 z' sl13; replace sl14 := gs 14 z' sl14; replace sl15 := gu 15 z'; clear z' sl105; refine listF_nil ?_
        repeat ((fail_if_success refine stp ?_); with_reducible go_step)
        refine ⟨_, _, rfl, ?_, j + 1, a13', c13', rfl, (by first | (with_reducible exact sl13) | (rw [sl13]; (with_reducible go_num); done) | (rw [sl13, IntWalk.i64_in] <;> first | ((with_reducible go_num); done) | omega) | (rw [sl13]; go_num; done) | (rw [sl13]; simp; done) | (rw [sl13]; simp; omega)), (by rw [sl14]; exact congrArg _ HcI.out.symm), (by first | (with_reducible exact sl15) | (rw [sl15]; (with_reducible go_num); done) | (rw [sl15, IntWalk.i64_in] <;> first | ((with_reducible go_num); done) | omega) | (rw [sl15]; go_num; done) | (rw [sl15]; simp; done) | (rw [sl15]; simp; omega)), (sl1.trans hc1_1.out.symm), (sl3.trans hc1_3.out.symm), (sl5.trans hc1_5.out.symm), (sl7.trans hc1_7.out.symm), (sl8.trans hc1_8.out.symm), (sl10.trans hc1_10.out.symm), (sl11.trans hc1_11.out.symm), HL39.out, by omega, hO13⟩
        omega
     ·skip
      have hj : j = ns.length := by have h := h81; simp at h; omega
      obtain ⟨ws, hws⟩ : ∃ l, WL lo ns f ns.length = l := ⟨_, rfl⟩
      have hwl : ws.length = ns.length := by rw [← hws, WL_len]
      have Hwl := hid hwl; rw [hj, hws, ← hwl] at hO13; rw [hj, ← hwl] at sl13; have Hws := hid hws; clear hws hwl
      repeat ((fail_if_success refine stp ?_); with_reducible go_step)
      clear HL39; clear hc1_1 hc1_3 hc1_5 hc1_7 hc1_8 hc1_10 hc1_11; refine region_F ?_
      iterate 3 refine pl ?_
      iterate 3 refine py ?_
      refine pl ?_; refine listF_abs (fun s60 z' => ?_); replace sl1 := gs 1 z' sl1; replace sl3 := gs 3 z' sl3; replace sl7 := gs 7 z' sl7; replace sl8 := gs 8 z' sl8; replace sl13 := gs 13 z' sl13; have sl114 := gu 114 z'; clear z' sl5 sl10 sl11 sl14 sl15 sl81; refine listF_nil ?_
      repeat ((fail_if_success refine stp ?_); with_reducible go_step)
      refine cond_E sl114 (by decide) ?_ ?_ <;> (clear sl114; intro h114 sl114)
      ·skip
       repeat ((fail_if_success refine stp ?_); with_reducible go_step)
       refine region_F ?_; refine listF_step rfl (fun K' hK => ?_); unfold opF; go_simp; refine (awake_any _).mono ?_; rintro e w61 ⟨rfl, hb62⟩; refine ⟨_, rfl, hK _ _ ?_⟩; clear hK K'; clear qb3 qb5 qb31; replace kb3 := kb3.at hb62; replace kb5 := kb5.at hb62; replace kb31 := kb31.at hb62; replace HLp := hid (HLp.out.below hb62); replace hNBw := Nat.le_trans hNBw hb62.size; replace hO13 := Own.at hO13 hb62; replace HB := hid (HB.out.below hb62); clear hb62; have qb3 := kb3.1; have qb5 := kb5.1; have qb31 := kb31.1; refine pl ?_; refine listF_abs (fun s63 z' => ?_); have sl6 := gu 6 z'; clear z' sl1 sl3 sl7 sl8 sl13 sl114; refine listF_nil ?_
       repeat ((fail_if_success refine stp ?_); with_reducible go_step)
       refine ret_F _ (res_t Try.results16 ((getD_F (by decide)).trans sl6)) ?_; exact ⟨rfl, HB.out.toBelow⟩
      ·skip
       have Hfail := hid (show failB k [k.wear.hi - k.wear.lo] ns ws f u (strS k [k.wear.hi - k.wear.lo] f) = true by rw [← Hws.out]; exact few_fail (x := (⟨k, a, c, none, 0, []⟩ : Vl)) (by omega) rfl HE.out (by rw [HR0.out]; refine .inr ⟨hz, ?_⟩; rw [← Hx.out, ← sumU_all]; have h := h114; simp at h; (try rw [hix, hj] at h); omega))
       repeat ((fail_if_success refine stp ?_); with_reducible go_step)
       refine region_F ?_; refine pl ?_; refine pl ?_; have cb3_0 := kb3.cell 0 rfl; have cb3_1 := kb3.cell 1 rfl; have cb3_2 := kb3.cell 2 rfl; have cb3_3 := kb3.cell 3 rfl
       iterate 5 refine pl ?_
       have wz := HK.out.w0; have wz1 := HK.out.w1; have wz2 := HK.out.w2; have w16 : IntKind.u16.wrap (k.wear.hi - k.wear.lo) = k.wear.hi - k.wear.lo := u16_in (by omega); have w64 : IntKind.i64.wrap (k.wear.hi - k.wear.lo) = k.wear.hi - k.wear.lo := IntWalk.i64_in _ (by omega); refine pl ?_; refine pas (fun w64 B124 hB kb124' hb65 => ?_); have gb124 := HB.out.gB hB; have ob3_b124 := oB qb3 hB; have ob5_b124 := oB qb5 hB; have ob31_b124 := oB qb31 hB
       have nhO13_b124 : ∀ g, (Value.slice a13 ws.length c13).ownBlock = some g → g < B124 := fun g hg => by have := (World.ownsRow.lt hO13 g hg).2; omega
       have eb124 := eB hB; clear hB; clear cb3_0 cb3_1 cb3_2 cb3_3; clear qb3 qb5 qb31; replace kb3 := kb3.at hb65; replace kb5 := kb5.at hb65; replace kb31 := kb31.at hb65; replace HLp := hid (HLp.out.below hb65); replace hNBw := Nat.le_trans hNBw hb65.size; replace hO13 := Own.at hO13 hb65; replace HB := hid (HB.out.below hb65); clear hb65; have qb3 := kb3.1; have qb5 := kb5.1; have qb31 := kb31.1; have kb124 := kb124'; clear kb124'; have qb124 := kb124.1; refine pl ?_; refine listF_abs (fun s66 z' => ?_); replace sl1 := gs 1 z' sl1; replace sl3 := gs 3 z' sl3; replace sl7 := gs 7 z' sl7; replace sl8 := gs 8 z' sl8; replace sl13 := gs 13 z' sl13; have sl17 := gu 17 z'; clear z' sl114; refine listF_nil ?_
       repeat ((fail_if_success refine stp ?_); with_reducible go_step)
       clear qb3 qb5 qb31 qb124; have Hbl := hid (Below.refl w64.heap.size w64); have Hk23 := hid (Rd.oldB HR.out HB.out (by simp)); have Hn23 := hid (Rd.oldB HRn.out HB.out (by simp)); have Hb23 := hid (Own.rd' (f := boolc) (m := 1) (fun _ => rfl) hO13 rfl); have Hw23 := hid (Cells.rd (f := u16c) (m := 1) (l := [k.wear.hi - k.wear.lo]) (fun _ => rfl) kb124); have HU := hid (show U16 [k.wear.hi - k.wear.lo] from fun x hx => by rw [List.mem_singleton] at hx; subst hx; have := HK.out.w0; have := HK.out.w1; have := HK.out.w2; omega); refine cut_any (fun sJ wJ => sJ 6 = .bool true ∧ Below w64.heap.size w64 wJ) ?_ ?_
       · refine regionI_F (fun (LJ : Nat → Bool) (sJ : Nat → Value) (wJ : World) => Cells wJ B3 [.int .i64 k.new, .int .i64 k.wear.lo, .int .i64 k.wear.hi, .slice a k.steps.length c] ∧ Below w64.heap.size w64 wJ ∧ w64.heap.size ≤ wJ.heap.size ∧ sJ 1 = .slice an ns.length cn ∧ sJ 7 = .int .i64 (f : Int) ∧ sJ 8 = .int .i64 (u : Int) ∧ sJ 13 = .slice a13 ws.length c13 ∧ sJ 17 = .slice (some ⟨B124, 0, none⟩) 1 1 ∧ sJ 3 = .pointer (some ⟨B3, 0, none⟩) ∧ (LJ 0 = true → sJ 125 = .agg #[.int .i64 k.new, .int .i64 k.wear.lo, .int .i64 k.wear.hi, .slice a k.steps.length c]) ∧ (LJ 1 = true → sJ 126 = .agg #[.int .i64 k.new, .int .i64 k.wear.lo, .int .i64 k.wear.hi, .slice a k.steps.length c]) ∧ (LJ 2 = true → sJ 127 = .slice (some ⟨B124, 0, none⟩) 1 1) ∧ (LJ 3 = true → sJ 128 = .agg #[.slice none 0 0, .slice none 0 0, .int .u16 0, .slice (some ⟨B124, 0, none⟩) 1 1]) ∧ (LJ 4 = true → sJ 129 = .int .i64 (f : Int)) ∧ (LJ 6 = true → sJ 131 = .slice an ns.length cn) ∧ (LJ 7 = true → sJ 132 = .slice a13 ws.length c13) ∧ (LJ 8 = true → sJ 133 = .int .i64 (f : Int)) ∧ (LJ 9 = true → sJ 134 = .int .i64 (u : Int)) ∧ (LJ 10 = true → sJ 135 = .slice (some ⟨B124, 0, none⟩) 1 1) ∧ (LJ 11 = true → sJ 136 = .bool true) ∧ (LJ 12 = true → sJ 137 = .bool true) ∧ (LJ 13 = true → sJ 138 = .bool true) ∧ (LJ 14 = true → sJ 139 = .bool true) ∧ (LJ 15 = true → sJ 6 = .bool true) ∧ (LJ 5 = true → Own int1 1 3 w64.heap.size wJ (sJ 130) (LL k [k.wear.hi - k.wear.lo] (f + 1)))) (by kernel_rfl) (by kernel_rfl) (by kernel_rfl) ?_ ?_ ⟨?_, ?_, ?_, ?_, ?_, ?_, ?_, ?_, ?_, ?_, ?_, ?_, ?_, ?_, ?_, ?_, trivial⟩
         · refine ⟨(by repeat (first | (with_reducible exact kb3) | (with_reducible refine Cells.drew ?_) | (with_reducible refine Cells.up ?_ _) | (with_reducible refine Cells.setFar ?_ (by omega)))), (by repeat (first | (with_reducible exact Hbl.out) | (with_reducible refine bdrewN ?_ _) | (with_reducible refine Below.drew ?_) | (with_reducible refine Below.setCell ?_ (by first | omega | (simp; done) | (simp; omega)) _) | (with_reducible refine Below.alloc ?_ (by first | omega | (simp; done) | (simp; omega)) _))), (by first | omega | (simp; done) | (simp; omega)), ?_, ?_, ?_, ?_, ?_, ?_, (by simp), (by simp), (by simp), (by simp), (by simp), (by simp), (by simp), (by simp), (by simp), (by simp), (by simp), (by simp), (by simp), (by simp), (by simp), (by simp)⟩
           · go_simp
           · go_simp
           · go_simp
           · go_simp
           · go_simp
           · go_simp
         · rintro sJ wJ ⟨kB0, kLow, kSz, hs1, hs7, hs8, hs13, hs17, hs3, hv0, hv1, hv2, hv3, hv4, hv6, hv7, hv8, hv9, hv10, hv11, hv12, hv13, hv14, hv15, kW5⟩
           replace hv0 := hv0 (by simp); replace hv1 := hv1 (by simp); replace hv2 := hv2 (by simp); replace hv3 := hv3 (by simp); replace hv4 := hv4 (by simp); replace hv6 := hv6 (by simp); replace hv7 := hv7 (by simp); replace hv8 := hv8 (by simp); replace hv9 := hv9 (by simp); replace hv10 := hv10 (by simp); replace hv11 := hv11 (by simp); replace hv12 := hv12 (by simp); replace hv13 := hv13 (by simp); replace hv14 := hv14 (by simp); replace hv15 := hv15 (by simp); replace kW5 := kW5 (by simp); exact ⟨rfl, _, rfl, hv15, kLow⟩
         · rintro LJ sJ wJ hL hd ⟨kB0, kLow, kSz, hs1, hs7, hs8, hs13, hs17, hs3, hv0, hv1, hv2, hv3, hv4, hv6, hv7, hv8, hv9, hv10, hv11, hv12, hv13, hv14, hv15, kW5⟩ K hK
           clear hd; rw [if_pos (by rfl)]; unfold opF; have cc0_0 := kB0.cell 0 rfl; have cc0_1 := kB0.cell 1 rfl; have cc0_2 := kB0.cell 2 rfl; have cc0_3 := kB0.cell 3 rfl; have ccs0 := kB0.1; go_simp
           refine hK _ _ ⟨?_, ?_, ?_, ?_, ?_, ?_, ?_, ?_, ?_, ?_, ?_, ?_, ?_, ?_, ?_, ?_, ?_, ?_, ?_, ?_, ?_, ?_, ?_, ?_, ?_⟩ <;> first | assumption | (simp [upd, updS]; done) | (simp [upd, updS]; assumption)
         · rintro LJ sJ wJ hL hd ⟨kB0, kLow, kSz, hs1, hs7, hs8, hs13, hs17, hs3, hv0, hv1, hv2, hv3, hv4, hv6, hv7, hv8, hv9, hv10, hv11, hv12, hv13, hv14, hv15, kW5⟩ K hK
           clear hd; rw [if_pos (by rfl)]; unfold opF; have cc0_0 := kB0.cell 0 rfl; have cc0_1 := kB0.cell 1 rfl; have cc0_2 := kB0.cell 2 rfl; have cc0_3 := kB0.cell 3 rfl; have ccs0 := kB0.1; go_simp
           refine hK _ _ ⟨?_, ?_, ?_, ?_, ?_, ?_, ?_, ?_, ?_, ?_, ?_, ?_, ?_, ?_, ?_, ?_, ?_, ?_, ?_, ?_, ?_, ?_, ?_, ?_, ?_⟩ <;> first | assumption | (simp [upd, updS]; done) | (simp [upd, updS]; assumption)
         · rintro LJ sJ wJ hL hd ⟨kB0, kLow, kSz, hs1, hs7, hs8, hs13, hs17, hs3, hv0, hv1, hv2, hv3, hv4, hv6, hv7, hv8, hv9, hv10, hv11, hv12, hv13, hv14, hv15, kW5⟩ K hK
           clear hd; rw [if_pos (by rfl)]; unfold opF; go_simp
           refine hK _ _ ⟨?_, ?_, ?_, ?_, ?_, ?_, ?_, ?_, ?_, ?_, ?_, ?_, ?_, ?_, ?_, ?_, ?_, ?_, ?_, ?_, ?_, ?_, ?_, ?_, ?_⟩ <;> first | assumption | (simp [upd, updS]; done) | (simp [upd, updS]; assumption)
         · rintro LJ sJ wJ hL hd ⟨kB0, kLow, kSz, hs1, hs7, hs8, hs13, hs17, hs3, hv0, hv1, hv2, hv3, hv4, hv6, hv7, hv8, hv9, hv10, hv11, hv12, hv13, hv14, hv15, kW5⟩ K hK
           have ga2 := hd ⟨2, .data⟩ (by simp) rfl; have gv2 := hv2 ga2; clear hd; rw [if_pos (by rfl)]; unfold opF; go_simp
           refine hK _ _ ⟨?_, ?_, ?_, ?_, ?_, ?_, ?_, ?_, ?_, ?_, ?_, ?_, ?_, ?_, ?_, ?_, ?_, ?_, ?_, ?_, ?_, ?_, ?_, ?_, ?_⟩ <;> first | assumption | (simp [upd, updS]; done) | (simp [upd, updS]; assumption)
         · rintro LJ sJ wJ hL hd ⟨kB0, kLow, kSz, hs1, hs7, hs8, hs13, hs17, hs3, hv0, hv1, hv2, hv3, hv4, hv6, hv7, hv8, hv9, hv10, hv11, hv12, hv13, hv14, hv15, kW5⟩ K hK
           clear hd; rw [if_pos (by rfl)]; unfold opF; go_simp
           refine hK _ _ ⟨?_, ?_, ?_, ?_, ?_, ?_, ?_, ?_, ?_, ?_, ?_, ?_, ?_, ?_, ?_, ?_, ?_, ?_, ?_, ?_, ?_, ?_, ?_, ?_, ?_⟩ <;> first | assumption | (simp [upd, updS]; done) | (simp [upd, updS]; assumption)
         · rintro LJ sJ wJ hL hd ⟨kB0, kLow, kSz, hs1, hs7, hs8, hs13, hs17, hs3, hv0, hv1, hv2, hv3, hv4, hv6, hv7, hv8, hv9, hv10, hv11, hv12, hv13, hv14, hv15, kW5⟩ K hK
           have ga1 := hd ⟨1, .data⟩ (by simp) rfl; have gv1 := hv1 ga1; have ga3 := hd ⟨3, .data⟩ (by simp) rfl; have gv3 := hv3 ga3; have ga4 := hd ⟨4, .data⟩ (by simp) rfl; have gv4 := hv4 ga4; clear hd; rw [if_pos (by rfl)]; unfold opF; go_simp; refine (lived_any2 k a c none none 0 0 0 0 0 (some ⟨B124, 0, none⟩) 1 [k.wear.hi - k.wear.lo] f _ HK.out (Rd.at Hw23.out kLow) (by simp) HU.out (by omega)).mono ?_; rintro e wN ⟨vN, rfl, hO, hbN⟩; have hsN := hbN.size; exact ⟨_, rfl, hK _ _ ⟨(Cells.at (kB0) hbN), (kLow.trans (hbN.mono kSz)), (by first | omega | (simp; done) | (simp; omega) | (have := hG.size; omega)), (by simpa [upd, updS] using hs1), (by simpa [upd, updS] using hs7), (by simpa [upd, updS] using hs8), (by simpa [upd, updS] using hs13), (by simpa [upd, updS] using hs17), (by simpa [upd, updS] using hs3), (by simpa [upd, updS] using hv0), (by simpa [upd, updS] using hv1), (by simpa [upd, updS] using hv2), (by simpa [upd, updS] using hv3), (by simpa [upd, updS] using hv4), (by simpa [upd, updS] using hv6), (by simpa [upd, updS] using hv7), (by simpa [upd, updS] using hv8), (by simpa [upd, updS] using hv9), (by simpa [upd, updS] using hv10), (by simpa [upd, updS] using hv11), (by simpa [upd, updS] using hv12), (by simpa [upd, updS] using hv13), (by simpa [upd, updS] using hv14), (by simpa [upd, updS] using hv15), (fun _ => by first | exact Own.base hO (by omega) | (simp only [updS_some, ↓reduceIte]; exact Own.base hO (by omega)) | (simpa [updS] using Own.base hO (by omega)))⟩⟩
         · rintro LJ sJ wJ hL hd ⟨kB0, kLow, kSz, hs1, hs7, hs8, hs13, hs17, hs3, hv0, hv1, hv2, hv3, hv4, hv6, hv7, hv8, hv9, hv10, hv11, hv12, hv13, hv14, hv15, kW5⟩ K hK
           clear hd; rw [if_pos (by rfl)]; unfold opF; go_simp
           refine hK _ _ ⟨?_, ?_, ?_, ?_, ?_, ?_, ?_, ?_, ?_, ?_, ?_, ?_, ?_, ?_, ?_, ?_, ?_, ?_, ?_, ?_, ?_, ?_, ?_, ?_, ?_⟩ <;> first | assumption | (simp [upd, updS]; done) | (simp [upd, updS]; assumption)
         · rintro LJ sJ wJ hL hd ⟨kB0, kLow, kSz, hs1, hs7, hs8, hs13, hs17, hs3, hv0, hv1, hv2, hv3, hv4, hv6, hv7, hv8, hv9, hv10, hv11, hv12, hv13, hv14, hv15, kW5⟩ K hK
           clear hd; rw [if_pos (by rfl)]; unfold opF; go_simp
           refine hK _ _ ⟨?_, ?_, ?_, ?_, ?_, ?_, ?_, ?_, ?_, ?_, ?_, ?_, ?_, ?_, ?_, ?_, ?_, ?_, ?_, ?_, ?_, ?_, ?_, ?_, ?_⟩ <;> first | assumption | (simp [upd, updS]; done) | (simp [upd, updS]; assumption)
         · rintro LJ sJ wJ hL hd ⟨kB0, kLow, kSz, hs1, hs7, hs8, hs13, hs17, hs3, hv0, hv1, hv2, hv3, hv4, hv6, hv7, hv8, hv9, hv10, hv11, hv12, hv13, hv14, hv15, kW5⟩ K hK
           clear hd; rw [if_pos (by rfl)]; unfold opF; go_simp
           refine hK _ _ ⟨?_, ?_, ?_, ?_, ?_, ?_, ?_, ?_, ?_, ?_, ?_, ?_, ?_, ?_, ?_, ?_, ?_, ?_, ?_, ?_, ?_, ?_, ?_, ?_, ?_⟩ <;> first | assumption | (simp [upd, updS]; done) | (simp [upd, updS]; assumption)
         · rintro LJ sJ wJ hL hd ⟨kB0, kLow, kSz, hs1, hs7, hs8, hs13, hs17, hs3, hv0, hv1, hv2, hv3, hv4, hv6, hv7, hv8, hv9, hv10, hv11, hv12, hv13, hv14, hv15, kW5⟩ K hK
           clear hd; rw [if_pos (by rfl)]; unfold opF; go_simp
           refine hK _ _ ⟨?_, ?_, ?_, ?_, ?_, ?_, ?_, ?_, ?_, ?_, ?_, ?_, ?_, ?_, ?_, ?_, ?_, ?_, ?_, ?_, ?_, ?_, ?_, ?_, ?_⟩ <;> first | assumption | (simp [upd, updS]; done) | (simp [upd, updS]; assumption)
         · rintro LJ sJ wJ hL hd ⟨kB0, kLow, kSz, hs1, hs7, hs8, hs13, hs17, hs3, hv0, hv1, hv2, hv3, hv4, hv6, hv7, hv8, hv9, hv10, hv11, hv12, hv13, hv14, hv15, kW5⟩ K hK
           clear hd; rw [if_pos (by rfl)]; unfold opF; go_simp
           refine hK _ _ ⟨?_, ?_, ?_, ?_, ?_, ?_, ?_, ?_, ?_, ?_, ?_, ?_, ?_, ?_, ?_, ?_, ?_, ?_, ?_, ?_, ?_, ?_, ?_, ?_, ?_⟩ <;> first | assumption | (simp [upd, updS]; done) | (simp [upd, updS]; assumption)
         · rintro LJ sJ wJ hL hd ⟨kB0, kLow, kSz, hs1, hs7, hs8, hs13, hs17, hs3, hv0, hv1, hv2, hv3, hv4, hv6, hv7, hv8, hv9, hv10, hv11, hv12, hv13, hv14, hv15, kW5⟩ K hK
           have ga0 := hd ⟨0, .data⟩ (by simp) rfl; have gv0 := hv0 ga0; have ga5 := hd ⟨5, .data⟩ (by simp) rfl; have ga6 := hd ⟨6, .data⟩ (by simp) rfl; have gv6 := hv6 ga6; have ga7 := hd ⟨7, .data⟩ (by simp) rfl; have gv7 := hv7 ga7; have ga8 := hd ⟨8, .data⟩ (by simp) rfl; have gv8 := hv8 ga8; have ga9 := hd ⟨9, .data⟩ (by simp) rfl; have gv9 := hv9 ga9; have ga10 := hd ⟨10, .data⟩ (by simp) rfl; have gv10 := hv10 ga10; have ga5 := hd ⟨5, .chain⟩ (by simp) rfl; clear hd; rw [if_pos (by rfl)]; have kU5 := kW5 ga5; obtain ⟨au5, cu5, hvu5, hru5, hnu5⟩ := Own.slice (f := int1) (m := 1) (fun _ => rfl) kU5; unfold opF; go_simp; refine (failed_tt k a c au5 cu5 (LL k [k.wear.hi - k.wear.lo] (f + 1)) an cn ns a13 c13 ws f u (some ⟨B124, 0, none⟩) 1 [k.wear.hi - k.wear.lo] (strS k [k.wear.hi - k.wear.lo] f) _ (fun b hb => hb.symm.trans Hfail.out) HK.out (Rd.at Hk23.out kLow) hru5 (by rw [LL_len]; omega) (by rw [List.getD_eq_getElem?_getD, LL_get (by omega)]; rfl) (str_bd HK.out _ _) (Rd.at Hn23.out kLow) Hnl.out (Rd.at Hb23.out kLow) Hwl.out hfu (by omega) (Rd.at Hw23.out kLow) (by simp) HU.out).mono ?_
           rintro e wN ⟨rfl, hbN⟩; have hsN := hbN.size; exact ⟨_, rfl, hK _ _ ⟨(Cells.at (kB0) hbN), (kLow.trans (hbN.mono kSz)), (by first | omega | (simp; done) | (simp; omega) | (have := hG.size; omega)), (by simpa [upd, updS] using hs1), (by simpa [upd, updS] using hs7), (by simpa [upd, updS] using hs8), (by simpa [upd, updS] using hs13), (by simpa [upd, updS] using hs17), (by simpa [upd, updS] using hs3), (by simpa [upd, updS] using hv0), (by simpa [upd, updS] using hv1), (by simpa [upd, updS] using hv2), (by simpa [upd, updS] using hv3), (by simpa [upd, updS] using hv4), (by simpa [upd, updS] using hv6), (by simpa [upd, updS] using hv7), (by simpa [upd, updS] using hv8), (by simpa [upd, updS] using hv9), (by simpa [upd, updS] using hv10), (by simp [upd, updS]), (by simpa [upd, updS] using hv12), (by simpa [upd, updS] using hv13), (by simpa [upd, updS] using hv14), (by simpa [upd, updS] using hv15), (fun h1 => by have h1 := (by simpa [upd] using h1 : LJ 5 = true); simpa [updS] using Own.at (kW5 h1) hbN)⟩⟩
         · rintro LJ sJ wJ hL hd ⟨kB0, kLow, kSz, hs1, hs7, hs8, hs13, hs17, hs3, hv0, hv1, hv2, hv3, hv4, hv6, hv7, hv8, hv9, hv10, hv11, hv12, hv13, hv14, hv15, kW5⟩ K hK
           have ga11 := hd ⟨11, .data⟩ (by simp) rfl; have gv11 := hv11 ga11; have ga11 := hd ⟨11, .chain⟩ (by simp) rfl; have gv11 := hv11 ga11; clear hd; rw [if_pos (by rfl)]; unfold opF; go_simp
           refine hK _ _ ⟨?_, ?_, ?_, ?_, ?_, ?_, ?_, ?_, ?_, ?_, ?_, ?_, ?_, ?_, ?_, ?_, ?_, ?_, ?_, ?_, ?_, ?_, ?_, ?_, ?_⟩ <;> first | assumption | (simp [upd, updS]; done) | (simp [upd, updS]; assumption)
         · rintro LJ sJ wJ hL hd ⟨kB0, kLow, kSz, hs1, hs7, hs8, hs13, hs17, hs3, hv0, hv1, hv2, hv3, hv4, hv6, hv7, hv8, hv9, hv10, hv11, hv12, hv13, hv14, hv15, kW5⟩ K hK
           have ga12 := hd ⟨12, .chain⟩ (by simp) rfl; have gv12 := hv12 ga12; have ga12 := hd ⟨12, .guard⟩ (by simp) rfl; have gv12 := hv12 ga12; clear hd; refine ite_of (Eq.trans (wanted_F (b' := true) rfl rfl (by decide) gv12) rfl) ?_; unfold opF; go_simp; refine (awake_any _).mono ?_; rintro e wN ⟨rfl, hbN⟩; have hsN := hbN.size; exact ⟨_, rfl, hK _ _ ⟨(Cells.at (kB0) hbN), (kLow.trans (hbN.mono kSz)), (by first | omega | (simp; done) | (simp; omega) | (have := hG.size; omega)), (by simpa [upd, updS] using hs1), (by simpa [upd, updS] using hs7), (by simpa [upd, updS] using hs8), (by simpa [upd, updS] using hs13), (by simpa [upd, updS] using hs17), (by simpa [upd, updS] using hs3), (by simpa [upd, updS] using hv0), (by simpa [upd, updS] using hv1), (by simpa [upd, updS] using hv2), (by simpa [upd, updS] using hv3), (by simpa [upd, updS] using hv4), (by simpa [upd, updS] using hv6), (by simpa [upd, updS] using hv7), (by simpa [upd, updS] using hv8), (by simpa [upd, updS] using hv9), (by simpa [upd, updS] using hv10), (by simpa [upd, updS] using hv11), (by simpa [upd, updS] using hv12), (by simp [upd, updS]), (by simpa [upd, updS] using hv14), (by simpa [upd, updS] using hv15), (fun h1 => by have h1 := (by simpa [upd] using h1 : LJ 5 = true); simpa [updS] using Own.at (kW5 h1) hbN)⟩⟩
         · rintro LJ sJ wJ hL hd ⟨kB0, kLow, kSz, hs1, hs7, hs8, hs13, hs17, hs3, hv0, hv1, hv2, hv3, hv4, hv6, hv7, hv8, hv9, hv10, hv11, hv12, hv13, hv14, hv15, kW5⟩ K hK
           have ga12 := hd ⟨12, .data⟩ (by simp) rfl; have gv12 := hv12 ga12; have ga13 := hd ⟨13, .data⟩ (by simp) rfl; have gv13 := hv13 ga13; clear hd; rw [if_pos (by rfl)]; unfold opF; go_simp
           refine hK _ _ ⟨?_, ?_, ?_, ?_, ?_, ?_, ?_, ?_, ?_, ?_, ?_, ?_, ?_, ?_, ?_, ?_, ?_, ?_, ?_, ?_, ?_, ?_, ?_, ?_, ?_⟩ <;> first | assumption | (simp [upd, updS]; done) | (simp [upd, updS]; assumption)
         · rintro LJ sJ wJ hL hd ⟨kB0, kLow, kSz, hs1, hs7, hs8, hs13, hs17, hs3, hv0, hv1, hv2, hv3, hv4, hv6, hv7, hv8, hv9, hv10, hv11, hv12, hv13, hv14, hv15, kW5⟩ K hK
           have ga14 := hd ⟨14, .data⟩ (by simp) rfl; have gv14 := hv14 ga14; have ga13 := hd ⟨13, .chain⟩ (by simp) rfl; have gv13 := hv13 ga13; have ga0 := hd ⟨0, .phase⟩ (by simp) rfl; have gv0 := hv0 ga0; have ga1 := hd ⟨1, .phase⟩ (by simp) rfl; have gv1 := hv1 ga1; have ga2 := hd ⟨2, .phase⟩ (by simp) rfl; have gv2 := hv2 ga2; have ga3 := hd ⟨3, .phase⟩ (by simp) rfl; have gv3 := hv3 ga3; have ga4 := hd ⟨4, .phase⟩ (by simp) rfl; have gv4 := hv4 ga4; have ga5 := hd ⟨5, .phase⟩ (by simp) rfl; have ga6 := hd ⟨6, .phase⟩ (by simp) rfl; have gv6 := hv6 ga6; have ga7 := hd ⟨7, .phase⟩ (by simp) rfl; have gv7 := hv7 ga7; have ga8 := hd ⟨8, .phase⟩ (by simp) rfl; have gv8 := hv8 ga8; have ga9 := hd ⟨9, .phase⟩ (by simp) rfl; have gv9 := hv9 ga9; have ga10 := hd ⟨10, .phase⟩ (by simp) rfl; have gv10 := hv10 ga10; have ga11 := hd ⟨11, .phase⟩ (by simp) rfl; have gv11 := hv11 ga11; have ga12 := hd ⟨12, .phase⟩ (by simp) rfl; have gv12 := hv12 ga12; have ga13 := hd ⟨13, .phase⟩ (by simp) rfl
           have gv13 := hv13 ga13; have ga14 := hd ⟨14, .phase⟩ (by simp) rfl; have gv14 := hv14 ga14; clear hd; rw [if_pos (by rfl)]; unfold opF; go_simp
           refine hK _ _ ⟨?_, ?_, ?_, ?_, ?_, ?_, ?_, ?_, ?_, ?_, ?_, ?_, ?_, ?_, ?_, ?_, ?_, ?_, ?_, ?_, ?_, ?_, ?_, ?_, ?_⟩ <;> first | assumption | (simp [upd, updS]; done) | (simp [upd, updS]; assumption)
       rintro sM23 w67 ⟨sl6', hbM23⟩; clear sl1 sl3 sl7 sl8 sl13 sl17; have sl6 := sl6'; clear sl6'; replace kb3 := kb3.at hbM23; replace kb5 := kb5.at hbM23; replace kb31 := kb31.at hbM23; replace kb124 := kb124.at hbM23; replace HLp := hid (HLp.out.below hbM23); replace hNBw := Nat.le_trans hNBw hbM23.size; replace hO13 := Own.at hO13 hbM23; replace HB := hid (HB.out.below hbM23); clear hbM23 Hbl; have qb3 := kb3.1; have qb5 := kb5.1; have qb31 := kb31.1; have qb124 := kb124.1
       repeat ((fail_if_success refine stp ?_); with_reducible go_step)
       refine ret_F _ (res_t Try.results16 ((getD_F (by decide)).trans sl6)) ?_; exact ⟨rfl, HB.out.toBelow⟩
  ·skip
   exact absurd (rep_one (x := (⟨k, a, c, none, 0, []⟩ : Vl)) (l := ns) (f := f) (u := (u : Int)) (by omega) rfl (.inl (by rw [HR0.out]; exact hz))).1 hE
 ·skip
  have hzb : (R.2 != 0) = true := by simpa using hz
  by_cases hn : R.2 = 9
  ·skip
   by_cases hE : kdErr k = 0
   ·skip
    rcases Nat.eq_zero_or_pos lo.length with hl0 | hl0
    ·skip
     refine region_F ?_
     iterate 3 refine pl ?_
     refine py ?_; refine py ?_; refine pl ?_; refine pl ?_; have cb3_0 := kb3.cell 0 rfl; have cb3_1 := kb3.cell 1 rfl; have cb3_2 := kb3.cell 2 rfl; have cb3_3 := kb3.cell 3 rfl; refine py ?_; refine listF_yes rfl rfl (by decide) ?_ (fun K' hK => ?_); (focus (go_simp; done)); unfold opF; go_simp; refine (rcheck_any k a c _ hsl (Rd.oldB HR.out HB.out (by simp))).mono ?_; rintro e w69 ⟨rfl, hb70⟩; refine ⟨_, rfl, hK _ _ ?_⟩; clear hK K'; clear cb3_0 cb3_1 cb3_2 cb3_3; clear qb3 qb5 qb31; replace kb3 := kb3.at hb70; replace kb5 := kb5.at hb70; replace kb31 := kb31.at hb70; replace HLp := hid (HLp.out.below hb70); replace HB := hid (HB.out.below hb70); clear hb70; have qb3 := kb3.1; have qb5 := kb5.1; have qb31 := kb31.1; refine py ?_; refine pl ?_; refine pl ?_; refine py ?_; have cb5_0 := kb5.cell 0 rfl; have cb5_1 := kb5.cell 1 rfl; have cb5_2 := kb5.cell 2 rfl; have cb5_3 := kb5.cell 3 rfl
     iterate 3 refine py ?_
     refine pl ?_; refine listF_abs (fun s71 z' => ?_); replace sl1 := gs 1 z' sl1; replace sl3 := gs 3 z' sl3; replace sl5 := gs 5 z' sl5; replace sl7 := gs 7 z' sl7; replace sl8 := gs 8 z' sl8; replace sl9 := gs 9 z' sl9; replace sl10 := gs 10 z' sl10; have sl54 := gu 54 z'; clear z'; refine listF_nil ?_
     repeat ((fail_if_success refine stp ?_); with_reducible go_step)
     refine cond_t ?_
     repeat ((fail_if_success refine stp ?_); with_reducible go_step)
     refine region_F ?_
     iterate 3 refine pl ?_
     refine pn true ?_; refine pn true ?_; refine pn true ?_; refine pl ?_; refine pl ?_; refine listF_yes rfl rfl (by decide) ?_ (fun K' hK => ?_); (focus (go_simp; done)); unfold opF; go_simp; refine (awake_any _).mono ?_; rintro e w72 ⟨rfl, hb73⟩; refine ⟨_, rfl, hK _ _ ?_⟩; clear hK K'; clear cb5_0 cb5_1 cb5_2 cb5_3; clear qb3 qb5 qb31; replace kb3 := kb3.at hb73; replace kb5 := kb5.at hb73; replace kb31 := kb31.at hb73; replace HLp := hid (HLp.out.below hb73); replace HB := hid (HB.out.below hb73); clear hb73; have qb3 := kb3.1; have qb5 := kb5.1; have qb31 := kb31.1; refine pl ?_; refine pl ?_; refine listF_abs (fun s74 z' => ?_); have sl6 := gu 6 z'; clear z' sl1 sl3 sl5 sl7 sl8 sl9 sl10 sl54; refine listF_nil ?_
     repeat ((fail_if_success refine stp ?_); with_reducible go_step)
     refine ret_F _ (res_t Try.results16 ((getD_F (by decide)).trans sl6)) ?_; exact ⟨rfl, HB.out.toBelow⟩
    ·skip
     have hlo1 : ¬ (lo.length : Int) = 0 := by omega
     have hlo2 : ¬ lo = [] := fun e => by rw [e] at hl0; exact absurd hl0 (by simp)
     have Hone := hid (rep_one (x := (⟨k, a, c, none, 0, []⟩ : Vl)) (l := ns) (f := f) (u := u) (by omega) rfl (by rw [HR0.out]; first | exact .inl hz | exact .inr ⟨hn, hE⟩)); have HK := hid (kok_of hE); have Hnl := hid (show ns.length ≤ 1000 by have := Hone.out.2.1; omega); have Hxl := hid (show xs.length ≤ 20 by have h1 := congrArg List.length Hx.out; rw [List.length_map] at h1; rw [h1]; exact few_len Hone.out HR0.out); have Hsum := hid (show sumU xs xs.length ≤ 20 by rw [sumU_all, Hx.out]; exact few_sum Hone.out HR0.out); have HE := hid hE; refine region_F ?_
     iterate 3 refine pl ?_
     refine py ?_; refine py ?_; refine pl ?_; refine pl ?_; have cb3_0 := kb3.cell 0 rfl; have cb3_1 := kb3.cell 1 rfl; have cb3_2 := kb3.cell 2 rfl; have cb3_3 := kb3.cell 3 rfl; refine py ?_; refine listF_yes rfl rfl (by decide) ?_ (fun K' hK => ?_); (focus (go_simp; done)); unfold opF; go_simp; refine (rcheck_any k a c _ hsl (Rd.oldB HR.out HB.out (by simp))).mono ?_; rintro e w75 ⟨rfl, hb76⟩; refine ⟨_, rfl, hK _ _ ?_⟩; clear hK K'; clear cb3_0 cb3_1 cb3_2 cb3_3; clear qb3 qb5 qb31; replace kb3 := kb3.at hb76; replace kb5 := kb5.at hb76; replace kb31 := kb31.at hb76; replace HLp := hid (HLp.out.below hb76); replace HB := hid (HB.out.below hb76); clear hb76; have qb3 := kb3.1; have qb5 := kb5.1; have qb31 := kb31.1; refine py ?_; refine pl ?_; refine pl ?_; refine py ?_; have cb5_0 := kb5.cell 0 rfl; have cb5_1 := kb5.cell 1 rfl; have cb5_2 := kb5.cell 2 rfl; have cb5_3 := kb5.cell 3 rfl
     iterate 3 refine py ?_
     refine pl ?_; refine listF_abs (fun s77 z' => ?_); replace sl1 := gs 1 z' sl1; replace sl3 := gs 3 z' sl3; replace sl5 := gs 5 z' sl5; replace sl7 := gs 7 z' sl7; replace sl8 := gs 8 z' sl8; replace sl9 := gs 9 z' sl9; replace sl10 := gs 10 z' sl10; have sl54 := gu 54 z'; clear z'; refine listF_nil ?_
     repeat ((fail_if_success refine stp ?_); with_reducible go_step)
     refine cond_f ?_
     repeat ((fail_if_success refine stp ?_); with_reducible go_step)
     refine region_F ?_; refine pl ?_; refine listF_abs (fun s78 z' => ?_); replace sl1 := gs 1 z' sl1; replace sl3 := gs 3 z' sl3; replace sl5 := gs 5 z' sl5; replace sl7 := gs 7 z' sl7; replace sl8 := gs 8 z' sl8; replace sl9 := gs 9 z' sl9; replace sl10 := gs 10 z' sl10; have sl11 := gu 11 z'; clear z' sl54; refine listF_nil ?_
     repeat ((fail_if_success refine stp ?_); with_reducible go_step)
     refine region_F ?_; refine pl ?_; refine listF_abs (fun s79 z' => ?_); replace sl1 := gs 1 z' sl1; replace sl3 := gs 3 z' sl3; replace sl5 := gs 5 z' sl5; replace sl7 := gs 7 z' sl7; replace sl8 := gs 8 z' sl8; replace sl9 := gs 9 z' sl9; replace sl10 := gs 10 z' sl10; replace sl11 := gs 11 z' sl11; have sl12 := gu 12 z'; clear z'; refine listF_nil ?_
     repeat ((fail_if_success refine stp ?_); with_reducible go_step)
     clear cb5_0 cb5_1 cb5_2 cb5_3; have hc0_1 := hid sl1; have hc0_3 := hid sl3; have hc0_5 := hid sl5; have hc0_7 := hid sl7; have hc0_8 := hid sl8; have hc0_9 := hid sl9; have hc0_10 := hid sl10; refine loop_F (n := 140) (fun kJ sJ wJ => ∃ (i : Nat), kJ = xs.length - i ∧ sJ 11 = .int .i64 (sumU xs i : Int) ∧ sJ 12 = .int .i64 (i : Int) ∧ sJ 1 = s79 1 ∧ sJ 3 = s79 3 ∧ sJ 5 = s79 5 ∧ sJ 7 = s79 7 ∧ sJ 8 = s79 8 ∧ sJ 9 = s79 9 ∧ sJ 10 = s79 10 ∧ OldB [] w75 wJ ∧ i ≤ xs.length) ⟨0, rfl, (by first | exact sl11 | (rw [sl11]; go_num) | (rw [sl11]; rfl)), (by first | exact sl12 | (rw [sl12]; go_num) | (rw [sl12]; rfl)), rfl, rfl, rfl, rfl, rfl, rfl, rfl, OldB.refl _ _, Nat.zero_le _⟩ ?_; clear sl11 sl12; rintro kJ s80 w81 ⟨i, rfl, sl11, sl12, e1, e3, e5, e7, e8, e9, e10, hb82, hil⟩; replace sl1 := e1.trans sl1; clear e1; replace sl3 := e3.trans sl3; clear e3; replace sl5 := e5.trans sl5; clear e5; replace sl7 := e7.trans sl7; clear e7
     replace sl8 := e8.trans sl8; clear e8; replace sl9 := e9.trans sl9; clear e9; replace sl10 := e10.trans sl10; clear e10; have hoJ := hb82; clear qb3 qb5 qb31; replace kb3 := kb3.oldB hb82 (by first | (simp; done) | (simp; omega)); replace kb5 := kb5.oldB hb82 (by first | (simp; done) | (simp; omega)); replace kb31 := kb31.oldB hb82 (by first | (simp; done) | (simp; omega)); replace HLp := hid (HLp.out.more hb82 (by simp; try omega)); replace HB := hid (HB.out.more hb82 (by simp; try omega)); clear hb82; have qb3 := kb3.1; have qb5 := kb5.1; have qb31 := kb31.1; have HoJ := hid hoJ; clear hoJ; have HL83 := HoJ; clear HoJ
     repeat ((fail_if_success refine stp ?_); with_reducible go_step)
     refine region_F ?_
     iterate 4 refine pl ?_
     refine listF_abs (fun s84 z' => ?_); replace sl1 := gs 1 z' sl1; replace sl3 := gs 3 z' sl3; replace sl5 := gs 5 z' sl5; replace sl7 := gs 7 z' sl7; replace sl8 := gs 8 z' sl8; replace sl9 := gs 9 z' sl9; replace sl10 := gs 10 z' sl10; replace sl11 := gs 11 z' sl11; replace sl12 := gs 12 z' sl12; have sl68 := gu 68 z'; clear z'; refine listF_nil ?_
     repeat ((fail_if_success refine stp ?_); with_reducible go_step)
     refine cond_E sl68 (by decide) ?_ ?_ <;> (clear sl68; intro h68 sl68)
     ·skip
      have hx20 := Hxl.out
      have hix : i < xs.length := by simpa using h68
      have hixi : (i : Int) < xs.length := by omega
      obtain ⟨bp, op, rfl, hbp, c0⟩ := RdSls.ne (RdPlan.oldB Hp.out HLp.out).1 hix; have HsI := hid (show ((sumU xs (i + 1) : Nat) : Int) = (sumU xs i : Int) + (xs[i].l.length : Int) by rw [sumU_succ hix]; omega); have hs1 := sumU_le (xs := xs) (i := i + 1) (by omega); have hs2 := Hsum.out
      have ws_ : IntKind.i64.wrap ((sumU xs i : Int) + (xs[i].l.length : Int)) = (sumU xs i : Int) + (xs[i].l.length : Int) := by rw [← HsI.out]; exact IntWalk.i64_in _ (by omega)
      repeat ((fail_if_success refine stp ?_); with_reducible go_step)
      refine region_F ?_
      iterate 8 refine pl ?_
      refine listF_abs (fun s85 z' => ?_); replace sl1 := gs 1 z' sl1; replace sl3 := gs 3 z' sl3; replace sl5 := gs 5 z' sl5; replace sl7 := gs 7 z' sl7; replace sl8 := gs 8 z' sl8; replace sl9 := gs 9 z' sl9; replace sl10 := gs 10 z' sl10; replace sl11 := gu 11 z'; replace sl12 := gs 12 z' sl12; clear z' sl68; refine listF_nil ?_
      repeat ((fail_if_success refine stp ?_); with_reducible go_step)
      refine region_F ?_
      iterate 3 refine pl ?_
      refine listF_abs (fun s86 z' => ?_); replace sl1 := gs 1 z' sl1; replace sl3 := gs 3 z' sl3; replace sl5 := gs 5 z' sl5; replace sl7 := gs 7 z' sl7; replace sl8 := gs 8 z' sl8; replace sl9 := gs 9 z' sl9; replace sl10 := gs 10 z' sl10; replace sl11 := gs 11 z' sl11; replace sl12 := gu 12 z'; clear z'; refine listF_nil ?_
      repeat ((fail_if_success refine stp ?_); with_reducible go_step)
      refine ⟨_, _, rfl, ?_, i + 1, rfl, (by rw [sl11]; exact congrArg _ HsI.out.symm), (by first | (with_reducible exact sl12) | (rw [sl12]; (with_reducible go_num); done) | (rw [sl12, IntWalk.i64_in] <;> first | ((with_reducible go_num); done) | omega) | (rw [sl12]; go_num; done) | (rw [sl12]; simp; done) | (rw [sl12]; simp; omega)), (sl1.trans hc0_1.out.symm), (sl3.trans hc0_3.out.symm), (sl5.trans hc0_5.out.symm), (sl7.trans hc0_7.out.symm), (sl8.trans hc0_8.out.symm), (sl9.trans hc0_9.out.symm), (sl10.trans hc0_10.out.symm), HL83.out, by omega⟩
      omega
     ·skip
      have hix : i = xs.length := by have h := h68; simp at h; omega
      repeat ((fail_if_success refine stp ?_); with_reducible go_step)
      clear HL83; clear hc0_1 hc0_3 hc0_5 hc0_7 hc0_8 hc0_9 hc0_10; refine region_F ?_; refine pl ?_; refine listF_abs (fun s87 z' => ?_); replace sl1 := gs 1 z' sl1; replace sl3 := gs 3 z' sl3; replace sl5 := gs 5 z' sl5; replace sl7 := gs 7 z' sl7; replace sl8 := gs 8 z' sl8; replace sl10 := gs 10 z' sl10; replace sl11 := gs 11 z' sl11; have sl13 := gu 13 z'; clear z' sl9 sl12 sl68; refine listF_nil ?_
      repeat ((fail_if_success refine stp ?_); with_reducible go_step)
      refine region_F ?_; refine pl ?_; refine listF_abs (fun s88 z' => ?_); replace sl1 := gs 1 z' sl1; replace sl3 := gs 3 z' sl3; replace sl5 := gs 5 z' sl5; replace sl7 := gs 7 z' sl7; replace sl8 := gs 8 z' sl8; replace sl10 := gs 10 z' sl10; replace sl11 := gs 11 z' sl11; replace sl13 := gs 13 z' sl13; have sl14 := gu 14 z'; clear z'; refine listF_nil ?_
      repeat ((fail_if_success refine stp ?_); with_reducible go_step)
      refine region_F ?_; obtain ⟨NB, hNB⟩ : ∃ n, n = w81.heap.size := ⟨_, rfl⟩; have b3NB := oB qb3 hNB; have b5NB := oB qb5 hNB; have b31NB := oB qb31 hNB
      have hNB1 : w81.heap.size ≤ NB := by omega
      have hpR := Nat.le_trans HLp.out.size hNB1
      have hNBw : NB ≤ w81.heap.size := by omega
      clear hNB; refine pl ?_; refine listF_abs (fun s89 z' => ?_); replace sl1 := gs 1 z' sl1; replace sl3 := gs 3 z' sl3; replace sl5 := gs 5 z' sl5; replace sl7 := gs 7 z' sl7; replace sl8 := gs 8 z' sl8; replace sl10 := gs 10 z' sl10; replace sl11 := gs 11 z' sl11; replace sl13 := gs 13 z' sl13; replace sl14 := gs 14 z' sl14; have sl15 := gu 15 z'; clear z'; refine listF_nil ?_
      repeat ((fail_if_success refine stp ?_); with_reducible go_step)
      have hc1_1 := hid sl1; have hc1_3 := hid sl3; have hc1_5 := hid sl5; have hc1_7 := hid sl7; have hc1_8 := hid sl8; have hc1_10 := hid sl10; have hc1_11 := hid sl11; refine loop_F (n := 140) (fun kJ sJ wJ => ∃ (j : Nat) (a13 : Option Addr) (c13 : Nat), kJ = ns.length - j ∧ sJ 13 = .slice a13 j c13 ∧ sJ 14 = .int .i64 (cntB lo ns f j : Int) ∧ sJ 15 = .int .i64 (j : Int) ∧ sJ 1 = s89 1 ∧ sJ 3 = s89 3 ∧ sJ 5 = s89 5 ∧ sJ 7 = s89 7 ∧ sJ 8 = s89 8 ∧ sJ 10 = s89 10 ∧ sJ 11 = s89 11 ∧ OldB [] w81 wJ ∧ j ≤ ns.length ∧ Own boolc 1 4 NB wJ (Value.slice a13 j c13) (WL lo ns f j)) ⟨0, none, 0, rfl, (by first | exact sl13 | (rw [sl13]; go_num) | (rw [sl13]; rfl)), (by first | exact sl14 | (rw [sl14]; go_num) | (rw [sl14]; rfl)), (by first | exact sl15 | (rw [sl15]; go_num) | (rw [sl15]; rfl)), rfl, rfl, rfl, rfl, rfl, rfl, rfl, OldB.refl _ _, Nat.zero_le _, Own.nil _ _ _ _ _⟩ ?_; clear sl13 sl14 sl15; rintro kJ s90 w91 ⟨j, a13, c13, rfl, sl13, sl14, sl15, e1, e3, e5, e7, e8, e10, e11, hb92, hjn, hO13⟩
      replace sl1 := e1.trans sl1; clear e1; replace sl3 := e3.trans sl3; clear e3; replace sl5 := e5.trans sl5; clear e5; replace sl7 := e7.trans sl7; clear e7; replace sl8 := e8.trans sl8; clear e8; replace sl10 := e10.trans sl10; clear e10; replace sl11 := e11.trans sl11; clear e11; have hoJ := hb92; clear qb3 qb5 qb31; replace kb3 := kb3.oldB hb92 (by first | (simp; done) | (simp; omega)); replace kb5 := kb5.oldB hb92 (by first | (simp; done) | (simp; omega)); replace kb31 := kb31.oldB hb92 (by first | (simp; done) | (simp; omega)); replace HLp := hid (HLp.out.more hb92 (by simp; try omega)); replace hNBw := Nat.le_trans hNBw hb92.size; replace HB := hid (HB.out.more hb92 (by simp; try omega)); clear hb92; have qb3 := kb3.1; have qb5 := kb5.1; have qb31 := kb31.1; have HoJ := hid hoJ; clear hoJ; have HL93 := HoJ; clear HoJ
      repeat ((fail_if_success refine stp ?_); with_reducible go_step)
      refine region_F ?_
      iterate 4 refine pl ?_
      refine listF_abs (fun s94 z' => ?_); replace sl1 := gs 1 z' sl1; replace sl3 := gs 3 z' sl3; replace sl5 := gs 5 z' sl5; replace sl7 := gs 7 z' sl7; replace sl8 := gs 8 z' sl8; replace sl10 := gs 10 z' sl10; replace sl11 := gs 11 z' sl11; replace sl13 := gs 13 z' sl13; replace sl14 := gs 14 z' sl14; replace sl15 := gs 15 z' sl15; have sl81 := gu 81 z'; clear z'; refine listF_nil ?_
      repeat ((fail_if_success refine stp ?_); with_reducible go_step)
      refine cond_E sl81 (by decide) ?_ ?_ <;> (clear sl81; intro h81 sl81)
      ·skip
       have hj : j < ns.length := by simpa using h81
       have hjj : (j : Int) < ns.length := by omega
       obtain ⟨q, hq⟩ : ∃ q, j % lo.length = q := ⟨_, rfl⟩
       have jm : q < lo.length := by rw [← hq]; exact Nat.mod_lt _ hl0
       have jt : (j : Int).tmod (lo.length : Int) = (q : Int) := by rw [← hq]; exact (Int.ofNat_tmod _ _).symm
       have jq : q ≤ j := by rw [← hq]; exact Nat.mod_le _ _
       have jn := Hnl.out; have jw : IntKind.i64.wrap (q : Int) = (q : Int) := IntWalk.i64_in _ (by omega); clear jn
       have jmi : (q : Int) < (lo.length : Int) := by omega
       have Hq := hid hq; clear hq; have Hcj := hid (cntB_le (lo := lo) (ns := ns) (f := f) (n := j))
       repeat ((fail_if_success refine stp ?_); with_reducible go_step)
       have hj95_1 := hid sl1; have hj95_3 := hid sl3; have hj95_5 := hid sl5; have hj95_7 := hid sl7; have hj95_8 := hid sl8; have hj95_10 := hid sl10; have hj95_11 := hid sl11; have hj95_13 := hid sl13; have hj95_14 := hid sl14; have hj95_15 := hid sl15; refine cut_any (fun sJ wJ => sJ 16 = .bool (wB lo ns f j) ∧ sJ 1 = s94 1 ∧ sJ 3 = s94 3 ∧ sJ 5 = s94 5 ∧ sJ 7 = s94 7 ∧ sJ 8 = s94 8 ∧ sJ 10 = s94 10 ∧ sJ 11 = s94 11 ∧ sJ 13 = s94 13 ∧ sJ 14 = s94 14 ∧ sJ 15 = s94 15 ∧ OldB [] w91 wJ) ?_ ?_
       ·skip
        have HL96 := hid (OldB.refl [] w91); obtain ⟨y, hy⟩ : ∃ y, lo[q] = y := ⟨_, rfl⟩
        cases y
        ·skip
         obtain ⟨bo, oo, rfl, hbo, cO⟩ := RdB.ne (Rd.oldB HRo.out HB.out (by simp)) jm; rw [hy] at cO; obtain ⟨bn, on, rfl, hbn, cN⟩ := RdInts.ne (Rd.oldB HRn.out HB.out (by simp)) hj; have cb3_0 := kb3.cell 0 rfl; have cb3_1 := kb3.cell 1 rfl; have cb3_2 := kb3.cell 2 rfl; have cb3_3 := kb3.cell 3 rfl; have cb5_0 := kb5.cell 0 rfl; have cb5_1 := kb5.cell 1 rfl; have cb5_2 := kb5.cell 2 rfl; have cb5_3 := kb5.cell 3 rfl; have cb31_0 := kb31.cell 0 rfl; have cb31_1 := kb31.cell 1 rfl; have cb31_2 := kb31.cell 2 rfl; have cb31_3 := kb31.cell 3 rfl; have cb31_4 := kb31.cell 4 rfl; refine regionR_F [] [] [] [.q [], .q [], .q [], .q [], .q [], .q [], .q [], .q [], .q [], .q [], .no, .no, .no, .no, .no, .no, .q []] [?v29_0, ?v29_1, ?v29_2, ?v29_3, ?v29_4, ?v29_5, ?v29_6, ?v29_7, ?v29_8, ?v29_9, fun _ => undef, fun _ => undef, fun _ => undef, fun _ => undef, fun _ => undef, fun _ => undef, ?v29_16] [fun _ => [], fun _ => [], fun _ => [], fun _ => [], fun _ => [], fun _ => [], fun _ => [], fun _ => [], fun _ => [], fun _ => [], fun _ => [], fun _ => [], fun _ => [], fun _ => [], fun _ => [], fun _ => [], fun _ => []] (by kernel_rfl) (by kernel_rfl) (by kernel_rfl) (by kernel_rfl) (by kernel_rfl) (by first | exact List.nodup_nil | exact List.nodup_singleton _ | (simp; done) | (simp; omega)) bc_nil ?walk29 ?dep29
         case walk29 =>
          iterate 10 refine rq ?_
          refine walkR_no (b' := false) (by rfl) (by rfl) (by decide) (fun X hX => ?_) (by rfl) ?_
          · go_simp
          refine walkR_no (b' := false) (by rfl) (by rfl) (by decide) (fun X hX => ?_) (by rfl) ?_
          · go_simp
          refine walkR_no (b' := false) (by rfl) (by rfl) (by decide) (fun X hX => ?_) (by rfl) ?_
          · go_simp
          refine walkR_no (b' := false) (by rfl) (by rfl) (by decide) (fun X hX => ?_) (by rfl) ?_
          · go_simp
          refine walkR_no (b' := false) (by rfl) (by rfl) (by decide) (fun X hX => ?_) (by rfl) ?_
          · go_simp
          refine walkR_no (b' := false) (by rfl) (by rfl) (by decide) (fun X hX => ?_) (by rfl) ?_
          · go_simp
          refine rq ?_; refine walkR_nil (fun X hX w97 hwz hcz => ?_); clear hX hcz
          (try clear X)
          skip; have hb98 := hwz.unDrew; clear hwz; clear cb3_0 cb3_1 cb3_2 cb3_3 cb31_0 cb31_1 cb31_2 cb31_3 cb31_4 cb5_0 cb5_1 cb5_2 cb5_3; clear qb3 qb5 qb31; replace kb3 := kb3.oldB hb98 (by first | (simp; done) | (simp; omega)); replace kb5 := kb5.oldB hb98 (by first | (simp; done) | (simp; omega)); replace kb31 := kb31.oldB hb98 (by first | (simp; done) | (simp; omega)); replace HLp := hid (HLp.out.more hb98 (by simp; try omega)); replace hNBw := Nat.le_trans hNBw hb98.size; replace HL93 := hid (HL93.out.more hb98 (by simp; try omega)); replace HL96 := hid (HL96.out.more hb98 (by simp; try omega)); replace hO13 := Own.oldB hO13 hb98 (fun g hg => by have n0 := (World.ownsRow.lt hO13 g hg).1; first | (simp; done) | (simp; omega)); replace HB := hid (HB.out.more hb98 (by simp; try omega)); clear hb98; have qb3 := kb3.1; have qb5 := kb5.1; have qb31 := kb31.1; refine pl ?_; refine listF_abs (fun s99 z' => ?_); replace sl1 := gs 1 z' sl1; replace sl3 := gs 3 z' sl3; replace sl5 := gs 5 z' sl5; replace sl7 := gs 7 z' sl7; replace sl8 := gs 8 z' sl8; replace sl10 := gs 10 z' sl10
          replace sl11 := gs 11 z' sl11; replace sl13 := gs 13 z' sl13; replace sl14 := gs 14 z' sl14; replace sl15 := gs 15 z' sl15; have sl16 := gu 16 z'; have sl94 := gu 94 z'; have sl95 := gu 95 z'; have sl96 := gu 96 z'; have sl97 := gu 97 z'; have sl98 := gu 98 z'; have sl99 := gu 99 z'; clear z' sl81; refine listF_nil ?_
          repeat ((fail_if_success refine stp ?_); with_reducible go_step)
          exact ⟨rfl, _, rfl, (by rw [sl16]; unfold wB; rw [Hq.out, getD_get jm, hy]; rfl), (sl1.trans hj95_1.out.symm), (sl3.trans hj95_3.out.symm), (sl5.trans hj95_5.out.symm), (sl7.trans hj95_7.out.symm), (sl8.trans hj95_8.out.symm), (sl10.trans hj95_10.out.symm), (sl11.trans hj95_11.out.symm), (sl13.trans hj95_13.out.symm), (sl14.trans hj95_14.out.symm), (sl15.trans hj95_15.out.symm), HL96.out⟩
         case dep29 =>
           iterate 17 refine dR ?_
           exact depR_nil
        ·skip
         obtain ⟨bo, oo, rfl, hbo, cO⟩ := RdB.ne (Rd.oldB HRo.out HB.out (by simp)) jm; rw [hy] at cO; obtain ⟨bn, on, rfl, hbn, cN⟩ := RdInts.ne (Rd.oldB HRn.out HB.out (by simp)) hj; have cb3_0 := kb3.cell 0 rfl; have cb3_1 := kb3.cell 1 rfl; have cb3_2 := kb3.cell 2 rfl; have cb3_3 := kb3.cell 3 rfl; have cb5_0 := kb5.cell 0 rfl; have cb5_1 := kb5.cell 1 rfl; have cb5_2 := kb5.cell 2 rfl; have cb5_3 := kb5.cell 3 rfl; have cb31_0 := kb31.cell 0 rfl; have cb31_1 := kb31.cell 1 rfl; have cb31_2 := kb31.cell 2 rfl; have cb31_3 := kb31.cell 3 rfl; have cb31_4 := kb31.cell 4 rfl; refine regionR_F [] [] [] [.q [], .q [], .q [], .q [], .q [], .q [], .q [], .q [], .q [], .q [], .q [], .q [], .q [], .q [], .q [], .q [], .q []] [?v30_0, ?v30_1, ?v30_2, ?v30_3, ?v30_4, ?v30_5, ?v30_6, ?v30_7, ?v30_8, ?v30_9, ?v30_10, ?v30_11, ?v30_12, ?v30_13, ?v30_14, ?v30_15, ?v30_16] [fun _ => [], fun _ => [], fun _ => [], fun _ => [], fun _ => [], fun _ => [], fun _ => [], fun _ => [], fun _ => [], fun _ => [], fun _ => [], fun _ => [], fun _ => [], fun _ => [], fun _ => [], fun _ => [], fun _ => []] (by kernel_rfl) (by kernel_rfl) (by kernel_rfl) (by kernel_rfl) (by kernel_rfl) (by first | exact List.nodup_nil | exact List.nodup_singleton _ | (simp; done) | (simp; omega)) bc_nil ?walk30 ?dep30
         case walk30 =>
          iterate 10 refine rq ?_
          iterate 6 refine rqy ?_
          refine rq ?_; refine walkR_nil (fun X hX w100 hwz hcz => ?_); clear hX hcz
          (try clear X)
          skip; have hb101 := hwz.unDrew; clear hwz; clear cb3_0 cb3_1 cb3_2 cb3_3 cb31_0 cb31_1 cb31_2 cb31_3 cb31_4 cb5_0 cb5_1 cb5_2 cb5_3; clear qb3 qb5 qb31; replace kb3 := kb3.oldB hb101 (by first | (simp; done) | (simp; omega)); replace kb5 := kb5.oldB hb101 (by first | (simp; done) | (simp; omega)); replace kb31 := kb31.oldB hb101 (by first | (simp; done) | (simp; omega)); replace HLp := hid (HLp.out.more hb101 (by simp; try omega)); replace hNBw := Nat.le_trans hNBw hb101.size; replace HL93 := hid (HL93.out.more hb101 (by simp; try omega)); replace HL96 := hid (HL96.out.more hb101 (by simp; try omega)); replace hO13 := Own.oldB hO13 hb101 (fun g hg => by have n0 := (World.ownsRow.lt hO13 g hg).1; first | (simp; done) | (simp; omega)); replace HB := hid (HB.out.more hb101 (by simp; try omega)); clear hb101; have qb3 := kb3.1; have qb5 := kb5.1; have qb31 := kb31.1; refine pl ?_; refine listF_abs (fun s102 z' => ?_); replace sl1 := gs 1 z' sl1; replace sl3 := gs 3 z' sl3; replace sl5 := gs 5 z' sl5; replace sl7 := gs 7 z' sl7; replace sl8 := gs 8 z' sl8; replace sl10 := gs 10 z' sl10
          replace sl11 := gs 11 z' sl11; replace sl13 := gs 13 z' sl13; replace sl14 := gs 14 z' sl14; replace sl15 := gs 15 z' sl15; have sl16 := gu 16 z'; have sl94 := gu 94 z'; have sl95 := gu 95 z'; have sl96 := gu 96 z'; have sl97 := gu 97 z'; have sl98 := gu 98 z'; have sl99 := gu 99 z'; clear z' sl81; refine listF_nil ?_
          repeat ((fail_if_success refine stp ?_); with_reducible go_step)
          exact ⟨rfl, _, rfl, (by rw [sl16]; unfold wB; rw [Hq.out, getD_get jm, hy, getD_get hj]; simp), (sl1.trans hj95_1.out.symm), (sl3.trans hj95_3.out.symm), (sl5.trans hj95_5.out.symm), (sl7.trans hj95_7.out.symm), (sl8.trans hj95_8.out.symm), (sl10.trans hj95_10.out.symm), (sl11.trans hj95_11.out.symm), (sl13.trans hj95_13.out.symm), (sl14.trans hj95_14.out.symm), (sl15.trans hj95_15.out.symm), HL96.out⟩
         case dep30 =>
           iterate 17 refine dR ?_
           exact depR_nil
       ·skip
        clear sl81; rintro s103 w104 ⟨sl16, e1, e3, e5, e7, e8, e10, e11, e13, e14, e15, hb105⟩; replace sl1 := e1.trans sl1; clear e1 hj95_1; replace sl3 := e3.trans sl3; clear e3 hj95_3; replace sl5 := e5.trans sl5; clear e5 hj95_5; replace sl7 := e7.trans sl7; clear e7 hj95_7; replace sl8 := e8.trans sl8; clear e8 hj95_8; replace sl10 := e10.trans sl10; clear e10 hj95_10; replace sl11 := e11.trans sl11; clear e11 hj95_11; replace sl13 := e13.trans sl13; clear e13 hj95_13; replace sl14 := e14.trans sl14; clear e14 hj95_14; replace sl15 := e15.trans sl15; clear e15 hj95_15; clear qb3 qb5 qb31; replace kb3 := kb3.oldB hb105 (by first | (simp; done) | (simp; omega)); replace kb5 := kb5.oldB hb105 (by first | (simp; done) | (simp; omega)); replace kb31 := kb31.oldB hb105 (by first | (simp; done) | (simp; omega)); replace HLp := hid (HLp.out.more hb105 (by simp; try omega)); replace hNBw := Nat.le_trans hNBw hb105.size; replace HL93 := hid (HL93.out.more hb105 (by simp; try omega))
        replace hO13 := Own.oldB hO13 hb105 (fun g hg => by have n0 := (World.ownsRow.lt hO13 g hg).1; first | (simp; done) | (simp; omega)); replace HB := hid (HB.out.more hb105 (by simp; try omega)); clear hb105; have qb3 := kb3.1; have qb5 := kb5.1; have qb31 := kb31.1
        repeat ((fail_if_success refine stp ?_); with_reducible go_step)
        refine region_F ?_; refine pl ?_; refine pl ?_; refine pas (fun w106 B103 hB kb103' hb107 => ?_); have gb103 := HB.out.gB hB; have lHL93_b103 := HL93.out.gB hB; have ob3_b103 := oB qb3 hB; have ob5_b103 := oB qb5 hB; have ob31_b103 := oB qb31 hB
        have nhO13_b103 : ∀ g, (Value.slice a13 j c13).ownBlock = some g → g < B103 := fun g hg => by have := (World.ownsRow.lt hO13 g hg).2; omega
        have eb103 := eB hB; clear hB; clear qb3 qb5 qb31; replace kb3 := kb3.at hb107; replace kb5 := kb5.at hb107; replace kb31 := kb31.at hb107; replace HLp := hid (HLp.out.below hb107); replace hNBw := Nat.le_trans hNBw hb107.size; replace HL93 := hid (HL93.out.below hb107); replace hO13 := Own.at hO13 hb107; replace HB := hid (HB.out.below hb107); clear hb107; have qb3 := kb3.1; have qb5 := kb5.1; have qb31 := kb31.1; have kb103 := kb103'; clear kb103'; have qb103 := kb103.1
        have ab3 : (Value.slice a13 j c13).ownBlock ≠ some B3 := fun e => by have n0 := (World.ownsRow.lt hO13 B3 e).1; omega
        have ab5 : (Value.slice a13 j c13).ownBlock ≠ some B5 := fun e => by have n0 := (World.ownsRow.lt hO13 B5 e).1; omega
        have ab31 : (Value.slice a13 j c13).ownBlock ≠ some B31 := fun e => by have n0 := (World.ownsRow.lt hO13 B31 e).1; omega
        have ab103 : (Value.slice a13 j c13).ownBlock ≠ some B103 := fun e => by have n0 := (World.ownsRow.lt hO13 B103 e).1; have n9 := nhO13_b103 B103 e; omega
        have hzz := HB.out.size; refine listF_step rfl (fun K' hK => ?_); refine opF_app (d := 104) rfl (by decide) (.tmp 101) (.tmp 103) _ rfl 4 i1 _ 1 Try.underlying88 hi1 hz1 hy1 hx1 rfl (by decide) (fun _ => rfl) bool_one NB (Value.slice a13 j c13) (WL lo ns f j) [(wB lo ns f j)] (some ⟨B103, 0, none⟩) 1 (by go_simp) (by go_simp) hO13 (Cells.rd (f := boolc) (m := 1) (l := [(wB lo ns f j)]) (fun _ => rfl) kb103) (by unfold maxLen; rw [WL_len]; have := Hnl.out; simp; omega) (by rw [WL_len]; have := Hnl.out; simp; omega) (by omega) (fun v104 w108 hO' hG hV => hK _ _ ?_); clear hK K' hzz; clear qb3 qb5 qb31 qb103; replace kb3 := kb3.grown hG ab3; clear ab3; replace kb5 := kb5.grown hG ab5; clear ab5; replace kb31 := kb31.grown hG ab31; clear ab31; replace kb103 := kb103.grown hG ab103; clear ab103; replace HLp := hid (HLp.out.grown hG (fun k hk => .inl (by have := (World.ownsRow.lt hO13 k hk).1; omega))); replace hNBw := Nat.le_trans hNBw hG.size
        replace HL93 := hid (HL93.out.grown hG (fun k hk => .inl (by have := (World.ownsRow.lt hO13 k hk).1; omega))); replace HB := hid (HB.out.grown hG (fun k hk => .inl (by have := (World.ownsRow.lt hO13 k hk).1; omega))); clear hO13; have hO13 := hO'; clear hO' hG hV; clear nhO13_b103; have qb3 := kb3.1; have qb5 := kb5.1; have qb31 := kb31.1; have qb103 := kb103.1; rw [← WL_succ] at hO13; obtain ⟨a13', c13', rfl, hr9, hn9⟩ := Own.slice (f := boolc) (m := 1) (fun _ => rfl) hO13; clear hr9 hn9; rw [WL_len] at hO13 ⊢; refine pl ?_; refine listF_abs (fun s109 z' => ?_); replace sl1 := gs 1 z' sl1; replace sl3 := gs 3 z' sl3; replace sl5 := gs 5 z' sl5; replace sl7 := gs 7 z' sl7; replace sl8 := gs 8 z' sl8; replace sl10 := gs 10 z' sl10; replace sl11 := gs 11 z' sl11; replace sl13 := gu 13 z'; replace sl14 := gs 14 z' sl14; replace sl15 := gs 15 z' sl15; replace sl16 := gs 16 z' sl16; clear z'; refine listF_nil ?_
        repeat ((fail_if_success refine stp ?_); with_reducible go_step)
        refine region_F ?_; refine pl ?_; refine listF_abs (fun s110 z' => ?_); replace sl1 := gs 1 z' sl1; replace sl3 := gs 3 z' sl3; replace sl5 := gs 5 z' sl5; replace sl7 := gs 7 z' sl7; replace sl8 := gs 8 z' sl8; replace sl10 := gs 10 z' sl10; replace sl11 := gs 11 z' sl11; replace sl13 := gs 13 z' sl13; replace sl14 := gs 14 z' sl14; replace sl15 := gs 15 z' sl15; have sl105 := gu 105 z'; clear z' sl16; refine listF_nil ?_
        repeat ((fail_if_success refine stp ?_); with_reducible go_step)
        refine cond_E sl105 (by decide) ?_ ?_ <;> (clear sl105; intro h105 sl105)
        ·skip
         have HcI := hid (show ((cntB lo ns f (j + 1) : Nat) : Int) = (cntB lo ns f j : Int) + 1 by rw [cntB_succ, if_pos (show wB lo ns f j = true from h105)]; rfl); have wc : IntKind.i64.wrap ((cntB lo ns f j : Int) + 1) = (cntB lo ns f j : Int) + 1 := IntWalk.i64_in _ (by have := Hcj.out; have := Hnl.out; omega)
         repeat ((fail_if_success refine stp ?_); with_reducible go_step)
         refine region_F ?_
         iterate 3 refine pl ?_
         refine listF_abs (fun s111 z' => ?_); replace sl1 := gs 1 z' sl1; replace sl3 := gs 3 z' sl3; replace sl5 := gs 5 z' sl5; replace sl7 := gs 7 z' sl7; replace sl8 := gs 8 z' sl8; replace sl10 := gs 10 z' sl10; replace sl11 := gs 11 z' sl11; replace sl13 := gs 13 z' sl13; replace sl14 := gu 14 z'; replace sl15 := gs 15 z' sl15; clear z' sl105; refine listF_nil ?_
         repeat ((fail_if_success refine stp ?_); with_reducible go_step)
         refine region_F ?_
         iterate 3 refine pl ?_
         refine listF_abs (fun s112 z' => ?_); replace sl1 := gs 1 z' sl1; replace sl3 := gs 3 z' sl3; replace sl5 := gs 5 z' sl5; replace sl7 := gs 7 z' sl7; replace sl8 := gs 8 z' sl8; replace sl10 := gs 10 z' sl10; replace sl11 := gs 11 z' sl11; replace sl13 := gs 13 z' sl13; replace sl14 := gs 14 z' sl14; replace sl15 := gu 15 z'; clear z'; refine listF_nil ?_
         repeat ((fail_if_success refine stp ?_); with_reducible go_step)
         refine ⟨_, _, rfl, ?_, j + 1, a13', c13', rfl, (by first | (with_reducible exact sl13) | (rw [sl13]; (with_reducible go_num); done) | (rw [sl13, IntWalk.i64_in] <;> first | ((with_reducible go_num); done) | omega) | (rw [sl13]; go_num; done) | (rw [sl13]; simp; done) | (rw [sl13]; simp; omega)), (by rw [sl14]; exact congrArg _ HcI.out.symm), (by first | (with_reducible exact sl15) | (rw [sl15]; (with_reducible go_num); done) | (rw [sl15, IntWalk.i64_in] <;> first | ((with_reducible go_num); done) | omega) | (rw [sl15]; go_num; done) | (rw [sl15]; simp; done) | (rw [sl15]; simp; omega)), (sl1.trans hc1_1.out.symm), (sl3.trans hc1_3.out.symm), (sl5.trans hc1_5.out.symm), (sl7.trans hc1_7.out.symm), (sl8.trans hc1_8.out.symm), (sl10.trans hc1_10.out.symm), (sl11.trans hc1_11.out.symm), HL93.out, by omega, hO13⟩
         omega
        ·skip
         have HcI := hid (show ((cntB lo ns f (j + 1) : Nat) : Int) = (cntB lo ns f j : Int) by rw [cntB_succ, if_neg (show ¬ wB lo ns f j = true by rw [show wB lo ns f j = false from h105]; decide)]; rfl)
         repeat ((fail_if_success refine stp ?_); with_reducible go_step)
         refine region_F ?_
         iterate 3 refine pl ?_
         refine listF_abs (fun s113 z' => ?_); replace sl1 := gs 1 z' sl1; replace sl3 := gs 3 z' sl3; replace sl5 := gs 5 z' sl5; replace sl7 := gs 7 z' sl7; replace sl8 := gs 8 z' sl8; replace sl10 := gs 10 z' sl10; replace sl11 := gs 11 z' sl11; replace sl13 := gs 13 z' sl13; replace sl14 := gs 14 z' sl14; replace sl15 := gu 15 z'; clear z' sl105; refine listF_nil ?_
         repeat ((fail_if_success refine stp ?_); with_reducible go_step)
         refine ⟨_, _, rfl, ?_, j + 1, a13', c13', rfl, (by first | (with_reducible exact sl13) | (rw [sl13]; (with_reducible go_num); done) | (rw [sl13, IntWalk.i64_in] <;> first | ((with_reducible go_num); done) | omega) | (rw [sl13]; go_num; done) | (rw [sl13]; simp; done) | (rw [sl13]; simp; omega)), (by rw [sl14]; exact congrArg _ HcI.out.symm), (by first | (with_reducible exact sl15) | (rw [sl15]; (with_reducible go_num); done) | (rw [sl15, IntWalk.i64_in] <;> first | ((with_reducible go_num); done) | omega) | (rw [sl15]; go_num; done) | (rw [sl15]; simp; done) | (rw [sl15]; simp; omega)), (sl1.trans hc1_1.out.symm), (sl3.trans hc1_3.out.symm), (sl5.trans hc1_5.out.symm), (sl7.trans hc1_7.out.symm), (sl8.trans hc1_8.out.symm), (sl10.trans hc1_10.out.symm), (sl11.trans hc1_11.out.symm), HL93.out, by omega, hO13⟩
         omega
      ·skip
       have hj : j = ns.length := by have h := h81; simp at h; omega
       obtain ⟨ws, hws⟩ : ∃ l, WL lo ns f ns.length = l := ⟨_, rfl⟩
       have hwl : ws.length = ns.length := by rw [← hws, WL_len]
       have Hwl := hid hwl; rw [hj, hws, ← hwl] at hO13; rw [hj, ← hwl] at sl13; have Hws := hid hws; clear hws hwl
       repeat ((fail_if_success refine stp ?_); with_reducible go_step)
       clear HL93; clear hc1_1 hc1_3 hc1_5 hc1_7 hc1_8 hc1_10 hc1_11; refine region_F ?_
       iterate 3 refine pl ?_
       refine pn false ?_; refine pn false ?_; refine pn false ?_; refine pl ?_; refine listF_abs (fun s114 z' => ?_); replace sl1 := gs 1 z' sl1; replace sl3 := gs 3 z' sl3; replace sl7 := gs 7 z' sl7; replace sl8 := gs 8 z' sl8; replace sl13 := gs 13 z' sl13; have sl114 := gu 114 z'; clear z' sl5 sl10 sl11 sl14 sl15 sl81; refine listF_nil ?_
       repeat ((fail_if_success refine stp ?_); with_reducible go_step)
       refine cond_f ?_
       repeat ((fail_if_success refine stp ?_); with_reducible go_step)
       refine region_F ?_; have Hfail := hid (show failB k [k.wear.hi - k.wear.lo] ns ws f u (strS k [k.wear.hi - k.wear.lo] f) = true by rw [← Hws.out]; exact few_fail (x := (⟨k, a, c, none, 0, []⟩ : Vl)) (by omega) rfl HE.out (by rw [HR0.out]; exact .inl hn)); refine pl ?_; refine pl ?_; have cb3_0 := kb3.cell 0 rfl; have cb3_1 := kb3.cell 1 rfl; have cb3_2 := kb3.cell 2 rfl; have cb3_3 := kb3.cell 3 rfl
       iterate 5 refine pl ?_
       have wz := HK.out.w0; have wz1 := HK.out.w1; have wz2 := HK.out.w2; have w16 : IntKind.u16.wrap (k.wear.hi - k.wear.lo) = k.wear.hi - k.wear.lo := u16_in (by omega); have w64 : IntKind.i64.wrap (k.wear.hi - k.wear.lo) = k.wear.hi - k.wear.lo := IntWalk.i64_in _ (by omega); refine pl ?_; refine pas (fun w115 B124 hB kb124' hb116 => ?_); have gb124 := HB.out.gB hB; have ob3_b124 := oB qb3 hB; have ob5_b124 := oB qb5 hB; have ob31_b124 := oB qb31 hB
       have nhO13_b124 : ∀ g, (Value.slice a13 ws.length c13).ownBlock = some g → g < B124 := fun g hg => by have := (World.ownsRow.lt hO13 g hg).2; omega
       have eb124 := eB hB; clear hB; clear cb3_0 cb3_1 cb3_2 cb3_3; clear qb3 qb5 qb31; replace kb3 := kb3.at hb116; replace kb5 := kb5.at hb116; replace kb31 := kb31.at hb116; replace HLp := hid (HLp.out.below hb116); replace hNBw := Nat.le_trans hNBw hb116.size; replace hO13 := Own.at hO13 hb116; replace HB := hid (HB.out.below hb116); clear hb116; have qb3 := kb3.1; have qb5 := kb5.1; have qb31 := kb31.1; have kb124 := kb124'; clear kb124'; have qb124 := kb124.1; refine pl ?_; refine listF_abs (fun s117 z' => ?_); replace sl1 := gs 1 z' sl1; replace sl3 := gs 3 z' sl3; replace sl7 := gs 7 z' sl7; replace sl8 := gs 8 z' sl8; replace sl13 := gs 13 z' sl13; have sl17 := gu 17 z'; clear z' sl114; refine listF_nil ?_
       repeat ((fail_if_success refine stp ?_); with_reducible go_step)
       clear qb3 qb5 qb31 qb124; have Hbl := hid (Below.refl w115.heap.size w115); have Hk23 := hid (Rd.oldB HR.out HB.out (by simp)); have Hn23 := hid (Rd.oldB HRn.out HB.out (by simp)); have Hb23 := hid (Own.rd' (f := boolc) (m := 1) (fun _ => rfl) hO13 rfl); have Hw23 := hid (Cells.rd (f := u16c) (m := 1) (l := [k.wear.hi - k.wear.lo]) (fun _ => rfl) kb124); have HU := hid (show U16 [k.wear.hi - k.wear.lo] from fun x hx => by rw [List.mem_singleton] at hx; subst hx; have := HK.out.w0; have := HK.out.w1; have := HK.out.w2; omega); refine cut_any (fun sJ wJ => sJ 6 = .bool true ∧ Below w115.heap.size w115 wJ) ?_ ?_
       · refine regionI_F (fun (LJ : Nat → Bool) (sJ : Nat → Value) (wJ : World) => Cells wJ B3 [.int .i64 k.new, .int .i64 k.wear.lo, .int .i64 k.wear.hi, .slice a k.steps.length c] ∧ Below w115.heap.size w115 wJ ∧ w115.heap.size ≤ wJ.heap.size ∧ sJ 1 = .slice an ns.length cn ∧ sJ 7 = .int .i64 (f : Int) ∧ sJ 8 = .int .i64 (u : Int) ∧ sJ 13 = .slice a13 ws.length c13 ∧ sJ 17 = .slice (some ⟨B124, 0, none⟩) 1 1 ∧ sJ 3 = .pointer (some ⟨B3, 0, none⟩) ∧ (LJ 0 = true → sJ 125 = .agg #[.int .i64 k.new, .int .i64 k.wear.lo, .int .i64 k.wear.hi, .slice a k.steps.length c]) ∧ (LJ 1 = true → sJ 126 = .agg #[.int .i64 k.new, .int .i64 k.wear.lo, .int .i64 k.wear.hi, .slice a k.steps.length c]) ∧ (LJ 2 = true → sJ 127 = .slice (some ⟨B124, 0, none⟩) 1 1) ∧ (LJ 3 = true → sJ 128 = .agg #[.slice none 0 0, .slice none 0 0, .int .u16 0, .slice (some ⟨B124, 0, none⟩) 1 1]) ∧ (LJ 4 = true → sJ 129 = .int .i64 (f : Int)) ∧ (LJ 6 = true → sJ 131 = .slice an ns.length cn) ∧ (LJ 7 = true → sJ 132 = .slice a13 ws.length c13) ∧ (LJ 8 = true → sJ 133 = .int .i64 (f : Int)) ∧ (LJ 9 = true → sJ 134 = .int .i64 (u : Int)) ∧ (LJ 10 = true → sJ 135 = .slice (some ⟨B124, 0, none⟩) 1 1) ∧ (LJ 11 = true → sJ 136 = .bool true) ∧ (LJ 12 = true → sJ 137 = .bool true) ∧ (LJ 13 = true → sJ 138 = .bool true) ∧ (LJ 14 = true → sJ 139 = .bool true) ∧ (LJ 15 = true → sJ 6 = .bool true) ∧ (LJ 5 = true → Own int1 1 3 w115.heap.size wJ (sJ 130) (LL k [k.wear.hi - k.wear.lo] (f + 1)))) (by kernel_rfl) (by kernel_rfl) (by kernel_rfl) ?_ ?_ ⟨?_, ?_, ?_, ?_, ?_, ?_, ?_, ?_, ?_, ?_, ?_, ?_, ?_, ?_, ?_, ?_, trivial⟩
         · refine ⟨(by repeat (first | (with_reducible exact kb3) | (with_reducible refine Cells.drew ?_) | (with_reducible refine Cells.up ?_ _) | (with_reducible refine Cells.setFar ?_ (by omega)))), (by repeat (first | (with_reducible exact Hbl.out) | (with_reducible refine bdrewN ?_ _) | (with_reducible refine Below.drew ?_) | (with_reducible refine Below.setCell ?_ (by first | omega | (simp; done) | (simp; omega)) _) | (with_reducible refine Below.alloc ?_ (by first | omega | (simp; done) | (simp; omega)) _))), (by first | omega | (simp; done) | (simp; omega)), ?_, ?_, ?_, ?_, ?_, ?_, (by simp), (by simp), (by simp), (by simp), (by simp), (by simp), (by simp), (by simp), (by simp), (by simp), (by simp), (by simp), (by simp), (by simp), (by simp), (by simp)⟩
           · go_simp
           · go_simp
           · go_simp
           · go_simp
           · go_simp
           · go_simp
         · rintro sJ wJ ⟨kB0, kLow, kSz, hs1, hs7, hs8, hs13, hs17, hs3, hv0, hv1, hv2, hv3, hv4, hv6, hv7, hv8, hv9, hv10, hv11, hv12, hv13, hv14, hv15, kW5⟩
           replace hv0 := hv0 (by simp); replace hv1 := hv1 (by simp); replace hv2 := hv2 (by simp); replace hv3 := hv3 (by simp); replace hv4 := hv4 (by simp); replace hv6 := hv6 (by simp); replace hv7 := hv7 (by simp); replace hv8 := hv8 (by simp); replace hv9 := hv9 (by simp); replace hv10 := hv10 (by simp); replace hv11 := hv11 (by simp); replace hv12 := hv12 (by simp); replace hv13 := hv13 (by simp); replace hv14 := hv14 (by simp); replace hv15 := hv15 (by simp); replace kW5 := kW5 (by simp); exact ⟨rfl, _, rfl, hv15, kLow⟩
         · rintro LJ sJ wJ hL hd ⟨kB0, kLow, kSz, hs1, hs7, hs8, hs13, hs17, hs3, hv0, hv1, hv2, hv3, hv4, hv6, hv7, hv8, hv9, hv10, hv11, hv12, hv13, hv14, hv15, kW5⟩ K hK
           clear hd; rw [if_pos (by rfl)]; unfold opF; have cc0_0 := kB0.cell 0 rfl; have cc0_1 := kB0.cell 1 rfl; have cc0_2 := kB0.cell 2 rfl; have cc0_3 := kB0.cell 3 rfl; have ccs0 := kB0.1; go_simp
           refine hK _ _ ⟨?_, ?_, ?_, ?_, ?_, ?_, ?_, ?_, ?_, ?_, ?_, ?_, ?_, ?_, ?_, ?_, ?_, ?_, ?_, ?_, ?_, ?_, ?_, ?_, ?_⟩ <;> first | assumption | (simp [upd, updS]; done) | (simp [upd, updS]; assumption)
         · rintro LJ sJ wJ hL hd ⟨kB0, kLow, kSz, hs1, hs7, hs8, hs13, hs17, hs3, hv0, hv1, hv2, hv3, hv4, hv6, hv7, hv8, hv9, hv10, hv11, hv12, hv13, hv14, hv15, kW5⟩ K hK
           clear hd; rw [if_pos (by rfl)]; unfold opF; have cc0_0 := kB0.cell 0 rfl; have cc0_1 := kB0.cell 1 rfl; have cc0_2 := kB0.cell 2 rfl; have cc0_3 := kB0.cell 3 rfl; have ccs0 := kB0.1; go_simp
           refine hK _ _ ⟨?_, ?_, ?_, ?_, ?_, ?_, ?_, ?_, ?_, ?_, ?_, ?_, ?_, ?_, ?_, ?_, ?_, ?_, ?_, ?_, ?_, ?_, ?_, ?_, ?_⟩ <;> first | assumption | (simp [upd, updS]; done) | (simp [upd, updS]; assumption)
         · rintro LJ sJ wJ hL hd ⟨kB0, kLow, kSz, hs1, hs7, hs8, hs13, hs17, hs3, hv0, hv1, hv2, hv3, hv4, hv6, hv7, hv8, hv9, hv10, hv11, hv12, hv13, hv14, hv15, kW5⟩ K hK
           clear hd; rw [if_pos (by rfl)]; unfold opF; go_simp
           refine hK _ _ ⟨?_, ?_, ?_, ?_, ?_, ?_, ?_, ?_, ?_, ?_, ?_, ?_, ?_, ?_, ?_, ?_, ?_, ?_, ?_, ?_, ?_, ?_, ?_, ?_, ?_⟩ <;> first | assumption | (simp [upd, updS]; done) | (simp [upd, updS]; assumption)
         · rintro LJ sJ wJ hL hd ⟨kB0, kLow, kSz, hs1, hs7, hs8, hs13, hs17, hs3, hv0, hv1, hv2, hv3, hv4, hv6, hv7, hv8, hv9, hv10, hv11, hv12, hv13, hv14, hv15, kW5⟩ K hK
           have ga2 := hd ⟨2, .data⟩ (by simp) rfl; have gv2 := hv2 ga2; clear hd; rw [if_pos (by rfl)]; unfold opF; go_simp
           refine hK _ _ ⟨?_, ?_, ?_, ?_, ?_, ?_, ?_, ?_, ?_, ?_, ?_, ?_, ?_, ?_, ?_, ?_, ?_, ?_, ?_, ?_, ?_, ?_, ?_, ?_, ?_⟩ <;> first | assumption | (simp [upd, updS]; done) | (simp [upd, updS]; assumption)
         · rintro LJ sJ wJ hL hd ⟨kB0, kLow, kSz, hs1, hs7, hs8, hs13, hs17, hs3, hv0, hv1, hv2, hv3, hv4, hv6, hv7, hv8, hv9, hv10, hv11, hv12, hv13, hv14, hv15, kW5⟩ K hK
           clear hd; rw [if_pos (by rfl)]; unfold opF; go_simp
           refine hK _ _ ⟨?_, ?_, ?_, ?_, ?_, ?_, ?_, ?_, ?_, ?_, ?_, ?_, ?_, ?_, ?_, ?_, ?_, ?_, ?_, ?_, ?_, ?_, ?_, ?_, ?_⟩ <;> first | assumption | (simp [upd, updS]; done) | (simp [upd, updS]; assumption)
         · rintro LJ sJ wJ hL hd ⟨kB0, kLow, kSz, hs1, hs7, hs8, hs13, hs17, hs3, hv0, hv1, hv2, hv3, hv4, hv6, hv7, hv8, hv9, hv10, hv11, hv12, hv13, hv14, hv15, kW5⟩ K hK
           have ga1 := hd ⟨1, .data⟩ (by simp) rfl; have gv1 := hv1 ga1; have ga3 := hd ⟨3, .data⟩ (by simp) rfl; have gv3 := hv3 ga3; have ga4 := hd ⟨4, .data⟩ (by simp) rfl; have gv4 := hv4 ga4; clear hd; rw [if_pos (by rfl)]; unfold opF; go_simp; refine (lived_any2 k a c none none 0 0 0 0 0 (some ⟨B124, 0, none⟩) 1 [k.wear.hi - k.wear.lo] f _ HK.out (Rd.at Hw23.out kLow) (by simp) HU.out (by omega)).mono ?_; rintro e wN ⟨vN, rfl, hO, hbN⟩; have hsN := hbN.size; exact ⟨_, rfl, hK _ _ ⟨(Cells.at (kB0) hbN), (kLow.trans (hbN.mono kSz)), (by first | omega | (simp; done) | (simp; omega) | (have := hG.size; omega)), (by simpa [upd, updS] using hs1), (by simpa [upd, updS] using hs7), (by simpa [upd, updS] using hs8), (by simpa [upd, updS] using hs13), (by simpa [upd, updS] using hs17), (by simpa [upd, updS] using hs3), (by simpa [upd, updS] using hv0), (by simpa [upd, updS] using hv1), (by simpa [upd, updS] using hv2), (by simpa [upd, updS] using hv3), (by simpa [upd, updS] using hv4), (by simpa [upd, updS] using hv6), (by simpa [upd, updS] using hv7), (by simpa [upd, updS] using hv8), (by simpa [upd, updS] using hv9), (by simpa [upd, updS] using hv10), (by simpa [upd, updS] using hv11), (by simpa [upd, updS] using hv12), (by simpa [upd, updS] using hv13), (by simpa [upd, updS] using hv14), (by simpa [upd, updS] using hv15), (fun _ => by first | exact Own.base hO (by omega) | (simp only [updS_some, ↓reduceIte]; exact Own.base hO (by omega)) | (simpa [updS] using Own.base hO (by omega)))⟩⟩
         · rintro LJ sJ wJ hL hd ⟨kB0, kLow, kSz, hs1, hs7, hs8, hs13, hs17, hs3, hv0, hv1, hv2, hv3, hv4, hv6, hv7, hv8, hv9, hv10, hv11, hv12, hv13, hv14, hv15, kW5⟩ K hK
           clear hd; rw [if_pos (by rfl)]; unfold opF; go_simp
           refine hK _ _ ⟨?_, ?_, ?_, ?_, ?_, ?_, ?_, ?_, ?_, ?_, ?_, ?_, ?_, ?_, ?_, ?_, ?_, ?_, ?_, ?_, ?_, ?_, ?_, ?_, ?_⟩ <;> first | assumption | (simp [upd, updS]; done) | (simp [upd, updS]; assumption)
         · rintro LJ sJ wJ hL hd ⟨kB0, kLow, kSz, hs1, hs7, hs8, hs13, hs17, hs3, hv0, hv1, hv2, hv3, hv4, hv6, hv7, hv8, hv9, hv10, hv11, hv12, hv13, hv14, hv15, kW5⟩ K hK
           clear hd; rw [if_pos (by rfl)]; unfold opF; go_simp
           refine hK _ _ ⟨?_, ?_, ?_, ?_, ?_, ?_, ?_, ?_, ?_, ?_, ?_, ?_, ?_, ?_, ?_, ?_, ?_, ?_, ?_, ?_, ?_, ?_, ?_, ?_, ?_⟩ <;> first | assumption | (simp [upd, updS]; done) | (simp [upd, updS]; assumption)
         · rintro LJ sJ wJ hL hd ⟨kB0, kLow, kSz, hs1, hs7, hs8, hs13, hs17, hs3, hv0, hv1, hv2, hv3, hv4, hv6, hv7, hv8, hv9, hv10, hv11, hv12, hv13, hv14, hv15, kW5⟩ K hK
           clear hd; rw [if_pos (by rfl)]; unfold opF; go_simp
           refine hK _ _ ⟨?_, ?_, ?_, ?_, ?_, ?_, ?_, ?_, ?_, ?_, ?_, ?_, ?_, ?_, ?_, ?_, ?_, ?_, ?_, ?_, ?_, ?_, ?_, ?_, ?_⟩ <;> first | assumption | (simp [upd, updS]; done) | (simp [upd, updS]; assumption)
         · rintro LJ sJ wJ hL hd ⟨kB0, kLow, kSz, hs1, hs7, hs8, hs13, hs17, hs3, hv0, hv1, hv2, hv3, hv4, hv6, hv7, hv8, hv9, hv10, hv11, hv12, hv13, hv14, hv15, kW5⟩ K hK
           clear hd; rw [if_pos (by rfl)]; unfold opF; go_simp
           refine hK _ _ ⟨?_, ?_, ?_, ?_, ?_, ?_, ?_, ?_, ?_, ?_, ?_, ?_, ?_, ?_, ?_, ?_, ?_, ?_, ?_, ?_, ?_, ?_, ?_, ?_, ?_⟩ <;> first | assumption | (simp [upd, updS]; done) | (simp [upd, updS]; assumption)
         · rintro LJ sJ wJ hL hd ⟨kB0, kLow, kSz, hs1, hs7, hs8, hs13, hs17, hs3, hv0, hv1, hv2, hv3, hv4, hv6, hv7, hv8, hv9, hv10, hv11, hv12, hv13, hv14, hv15, kW5⟩ K hK
           clear hd; rw [if_pos (by rfl)]; unfold opF; go_simp
           refine hK _ _ ⟨?_, ?_, ?_, ?_, ?_, ?_, ?_, ?_, ?_, ?_, ?_, ?_, ?_, ?_, ?_, ?_, ?_, ?_, ?_, ?_, ?_, ?_, ?_, ?_, ?_⟩ <;> first | assumption | (simp [upd, updS]; done) | (simp [upd, updS]; assumption)
         · rintro LJ sJ wJ hL hd ⟨kB0, kLow, kSz, hs1, hs7, hs8, hs13, hs17, hs3, hv0, hv1, hv2, hv3, hv4, hv6, hv7, hv8, hv9, hv10, hv11, hv12, hv13, hv14, hv15, kW5⟩ K hK
           have ga0 := hd ⟨0, .data⟩ (by simp) rfl; have gv0 := hv0 ga0; have ga5 := hd ⟨5, .data⟩ (by simp) rfl; have ga6 := hd ⟨6, .data⟩ (by simp) rfl; have gv6 := hv6 ga6; have ga7 := hd ⟨7, .data⟩ (by simp) rfl; have gv7 := hv7 ga7; have ga8 := hd ⟨8, .data⟩ (by simp) rfl; have gv8 := hv8 ga8; have ga9 := hd ⟨9, .data⟩ (by simp) rfl; have gv9 := hv9 ga9; have ga10 := hd ⟨10, .data⟩ (by simp) rfl; have gv10 := hv10 ga10; have ga5 := hd ⟨5, .chain⟩ (by simp) rfl; clear hd; rw [if_pos (by rfl)]; have kU5 := kW5 ga5; obtain ⟨au5, cu5, hvu5, hru5, hnu5⟩ := Own.slice (f := int1) (m := 1) (fun _ => rfl) kU5; unfold opF; go_simp; refine (failed_tt k a c au5 cu5 (LL k [k.wear.hi - k.wear.lo] (f + 1)) an cn ns a13 c13 ws f u (some ⟨B124, 0, none⟩) 1 [k.wear.hi - k.wear.lo] (strS k [k.wear.hi - k.wear.lo] f) _ (fun b hb => hb.symm.trans Hfail.out) HK.out (Rd.at Hk23.out kLow) hru5 (by rw [LL_len]; omega) (by rw [List.getD_eq_getElem?_getD, LL_get (by omega)]; rfl) (str_bd HK.out _ _) (Rd.at Hn23.out kLow) Hnl.out (Rd.at Hb23.out kLow) Hwl.out hfu (by omega) (Rd.at Hw23.out kLow) (by simp) HU.out).mono ?_
           rintro e wN ⟨rfl, hbN⟩; have hsN := hbN.size; exact ⟨_, rfl, hK _ _ ⟨(Cells.at (kB0) hbN), (kLow.trans (hbN.mono kSz)), (by first | omega | (simp; done) | (simp; omega) | (have := hG.size; omega)), (by simpa [upd, updS] using hs1), (by simpa [upd, updS] using hs7), (by simpa [upd, updS] using hs8), (by simpa [upd, updS] using hs13), (by simpa [upd, updS] using hs17), (by simpa [upd, updS] using hs3), (by simpa [upd, updS] using hv0), (by simpa [upd, updS] using hv1), (by simpa [upd, updS] using hv2), (by simpa [upd, updS] using hv3), (by simpa [upd, updS] using hv4), (by simpa [upd, updS] using hv6), (by simpa [upd, updS] using hv7), (by simpa [upd, updS] using hv8), (by simpa [upd, updS] using hv9), (by simpa [upd, updS] using hv10), (by simp [upd, updS]), (by simpa [upd, updS] using hv12), (by simpa [upd, updS] using hv13), (by simpa [upd, updS] using hv14), (by simpa [upd, updS] using hv15), (fun h1 => by have h1 := (by simpa [upd] using h1 : LJ 5 = true); simpa [updS] using Own.at (kW5 h1) hbN)⟩⟩
         · rintro LJ sJ wJ hL hd ⟨kB0, kLow, kSz, hs1, hs7, hs8, hs13, hs17, hs3, hv0, hv1, hv2, hv3, hv4, hv6, hv7, hv8, hv9, hv10, hv11, hv12, hv13, hv14, hv15, kW5⟩ K hK
           have ga11 := hd ⟨11, .data⟩ (by simp) rfl; have gv11 := hv11 ga11; have ga11 := hd ⟨11, .chain⟩ (by simp) rfl; have gv11 := hv11 ga11; clear hd; rw [if_pos (by rfl)]; unfold opF; go_simp
           refine hK _ _ ⟨?_, ?_, ?_, ?_, ?_, ?_, ?_, ?_, ?_, ?_, ?_, ?_, ?_, ?_, ?_, ?_, ?_, ?_, ?_, ?_, ?_, ?_, ?_, ?_, ?_⟩ <;> first | assumption | (simp [upd, updS]; done) | (simp [upd, updS]; assumption)
         · rintro LJ sJ wJ hL hd ⟨kB0, kLow, kSz, hs1, hs7, hs8, hs13, hs17, hs3, hv0, hv1, hv2, hv3, hv4, hv6, hv7, hv8, hv9, hv10, hv11, hv12, hv13, hv14, hv15, kW5⟩ K hK
           have ga12 := hd ⟨12, .chain⟩ (by simp) rfl; have gv12 := hv12 ga12; have ga12 := hd ⟨12, .guard⟩ (by simp) rfl; have gv12 := hv12 ga12; clear hd; refine ite_of (Eq.trans (wanted_F (b' := true) rfl rfl (by decide) gv12) rfl) ?_; unfold opF; go_simp; refine (awake_any _).mono ?_; rintro e wN ⟨rfl, hbN⟩; have hsN := hbN.size; exact ⟨_, rfl, hK _ _ ⟨(Cells.at (kB0) hbN), (kLow.trans (hbN.mono kSz)), (by first | omega | (simp; done) | (simp; omega) | (have := hG.size; omega)), (by simpa [upd, updS] using hs1), (by simpa [upd, updS] using hs7), (by simpa [upd, updS] using hs8), (by simpa [upd, updS] using hs13), (by simpa [upd, updS] using hs17), (by simpa [upd, updS] using hs3), (by simpa [upd, updS] using hv0), (by simpa [upd, updS] using hv1), (by simpa [upd, updS] using hv2), (by simpa [upd, updS] using hv3), (by simpa [upd, updS] using hv4), (by simpa [upd, updS] using hv6), (by simpa [upd, updS] using hv7), (by simpa [upd, updS] using hv8), (by simpa [upd, updS] using hv9), (by simpa [upd, updS] using hv10), (by simpa [upd, updS] using hv11), (by simpa [upd, updS] using hv12), (by simp [upd, updS]), (by simpa [upd, updS] using hv14), (by simpa [upd, updS] using hv15), (fun h1 => by have h1 := (by simpa [upd] using h1 : LJ 5 = true); simpa [updS] using Own.at (kW5 h1) hbN)⟩⟩
         · rintro LJ sJ wJ hL hd ⟨kB0, kLow, kSz, hs1, hs7, hs8, hs13, hs17, hs3, hv0, hv1, hv2, hv3, hv4, hv6, hv7, hv8, hv9, hv10, hv11, hv12, hv13, hv14, hv15, kW5⟩ K hK
           have ga12 := hd ⟨12, .data⟩ (by simp) rfl; have gv12 := hv12 ga12; have ga13 := hd ⟨13, .data⟩ (by simp) rfl; have gv13 := hv13 ga13; clear hd; rw [if_pos (by rfl)]; unfold opF; go_simp
           refine hK _ _ ⟨?_, ?_, ?_, ?_, ?_, ?_, ?_, ?_, ?_, ?_, ?_, ?_, ?_, ?_, ?_, ?_, ?_, ?_, ?_, ?_, ?_, ?_, ?_, ?_, ?_⟩ <;> first | assumption | (simp [upd, updS]; done) | (simp [upd, updS]; assumption)
         · rintro LJ sJ wJ hL hd ⟨kB0, kLow, kSz, hs1, hs7, hs8, hs13, hs17, hs3, hv0, hv1, hv2, hv3, hv4, hv6, hv7, hv8, hv9, hv10, hv11, hv12, hv13, hv14, hv15, kW5⟩ K hK
           have ga14 := hd ⟨14, .data⟩ (by simp) rfl; have gv14 := hv14 ga14; have ga13 := hd ⟨13, .chain⟩ (by simp) rfl; have gv13 := hv13 ga13; have ga0 := hd ⟨0, .phase⟩ (by simp) rfl; have gv0 := hv0 ga0; have ga1 := hd ⟨1, .phase⟩ (by simp) rfl; have gv1 := hv1 ga1; have ga2 := hd ⟨2, .phase⟩ (by simp) rfl; have gv2 := hv2 ga2; have ga3 := hd ⟨3, .phase⟩ (by simp) rfl; have gv3 := hv3 ga3; have ga4 := hd ⟨4, .phase⟩ (by simp) rfl; have gv4 := hv4 ga4; have ga5 := hd ⟨5, .phase⟩ (by simp) rfl; have ga6 := hd ⟨6, .phase⟩ (by simp) rfl; have gv6 := hv6 ga6; have ga7 := hd ⟨7, .phase⟩ (by simp) rfl; have gv7 := hv7 ga7; have ga8 := hd ⟨8, .phase⟩ (by simp) rfl; have gv8 := hv8 ga8; have ga9 := hd ⟨9, .phase⟩ (by simp) rfl; have gv9 := hv9 ga9; have ga10 := hd ⟨10, .phase⟩ (by simp) rfl; have gv10 := hv10 ga10; have ga11 := hd ⟨11, .phase⟩ (by simp) rfl; have gv11 := hv11 ga11; have ga12 := hd ⟨12, .phase⟩ (by simp) rfl; have gv12 := hv12 ga12; have ga13 := hd ⟨13, .phase⟩ (by simp) rfl
           have gv13 := hv13 ga13; have ga14 := hd ⟨14, .phase⟩ (by simp) rfl; have gv14 := hv14 ga14; clear hd; rw [if_pos (by rfl)]; unfold opF; go_simp
           refine hK _ _ ⟨?_, ?_, ?_, ?_, ?_, ?_, ?_, ?_, ?_, ?_, ?_, ?_, ?_, ?_, ?_, ?_, ?_, ?_, ?_, ?_, ?_, ?_, ?_, ?_, ?_⟩ <;> first | assumption | (simp [upd, updS]; done) | (simp [upd, updS]; assumption)
       rintro sM23 w118 ⟨sl6', hbM23⟩; clear sl1 sl3 sl7 sl8 sl13 sl17; have sl6 := sl6'; clear sl6'; replace kb3 := kb3.at hbM23; replace kb5 := kb5.at hbM23; replace kb31 := kb31.at hbM23; replace kb124 := kb124.at hbM23; replace HLp := hid (HLp.out.below hbM23); replace hNBw := Nat.le_trans hNBw hbM23.size; replace hO13 := Own.at hO13 hbM23; replace HB := hid (HB.out.below hbM23); clear hbM23 Hbl; have qb3 := kb3.1; have qb5 := kb5.1; have qb31 := kb31.1; have qb124 := kb124.1
       repeat ((fail_if_success refine stp ?_); with_reducible go_step)
       refine ret_F _ (res_t Try.results16 ((getD_F (by decide)).trans sl6)) ?_; exact ⟨rfl, HB.out.toBelow⟩
   ·skip
    have hE1 : (kdErr k != 0) = true := by simpa using hE
    refine region_F ?_
    iterate 3 refine pl ?_
    refine py ?_; refine py ?_; refine pl ?_; refine pl ?_; have cb3_0 := kb3.cell 0 rfl; have cb3_1 := kb3.cell 1 rfl; have cb3_2 := kb3.cell 2 rfl; have cb3_3 := kb3.cell 3 rfl; refine py ?_; refine listF_yes rfl rfl (by decide) ?_ (fun K' hK => ?_); (focus (go_simp; done)); unfold opF; go_simp; refine (rcheck_any k a c _ hsl (Rd.oldB HR.out HB.out (by simp))).mono ?_; rintro e w120 ⟨rfl, hb121⟩; refine ⟨_, rfl, hK _ _ ?_⟩; clear hK K'; clear cb3_0 cb3_1 cb3_2 cb3_3; clear qb3 qb5 qb31; replace kb3 := kb3.at hb121; replace kb5 := kb5.at hb121; replace kb31 := kb31.at hb121; replace HLp := hid (HLp.out.below hb121); replace HB := hid (HB.out.below hb121); clear hb121; have qb3 := kb3.1; have qb5 := kb5.1; have qb31 := kb31.1; refine py ?_; refine pl ?_; refine pl ?_
    refine pn true ?_
    refine pn true ?_; refine pn true ?_; refine pn true ?_; refine pl ?_; refine listF_abs (fun s122 z' => ?_); replace sl1 := gs 1 z' sl1; replace sl3 := gs 3 z' sl3; replace sl5 := gs 5 z' sl5; replace sl7 := gs 7 z' sl7; replace sl8 := gs 8 z' sl8; replace sl9 := gs 9 z' sl9; replace sl10 := gs 10 z' sl10; have sl54 := gu 54 z'; clear z'; refine listF_nil ?_
    repeat ((fail_if_success refine stp ?_); with_reducible go_step)
    refine cond_t ?_
    repeat ((fail_if_success refine stp ?_); with_reducible go_step)
    refine region_F ?_
    iterate 3 refine pl ?_
    refine pn true ?_; refine pn true ?_; refine pn true ?_; refine pl ?_; refine pl ?_; refine listF_yes rfl rfl (by decide) ?_ (fun K' hK => ?_); (focus (go_simp; done)); unfold opF; go_simp; refine (awake_any _).mono ?_; rintro e w123 ⟨rfl, hb124⟩; refine ⟨_, rfl, hK _ _ ?_⟩; clear hK K'; clear qb3 qb5 qb31; replace kb3 := kb3.at hb124; replace kb5 := kb5.at hb124; replace kb31 := kb31.at hb124; replace HLp := hid (HLp.out.below hb124); replace HB := hid (HB.out.below hb124); clear hb124; have qb3 := kb3.1; have qb5 := kb5.1; have qb31 := kb31.1; refine pl ?_; refine pl ?_; refine listF_abs (fun s125 z' => ?_); have sl6 := gu 6 z'; clear z' sl1 sl3 sl5 sl7 sl8 sl9 sl10 sl54; refine listF_nil ?_
    repeat ((fail_if_success refine stp ?_); with_reducible go_step)
    refine ret_F _ (res_t Try.results16 ((getD_F (by decide)).trans sl6)) ?_; exact ⟨rfl, HB.out.toBelow⟩
  ·skip
   have hnb : (R.2 != 9) = true := by simpa using hn
   refine region_F ?_
   iterate 3 refine pl ?_
   refine py ?_; refine py ?_; refine pl ?_; refine pl ?_
   refine pn true ?_; refine pn true ?_; refine pn true ?_; refine pl ?_; refine pl ?_
   refine pn true ?_
   refine pn true ?_; refine pn true ?_; refine pn true ?_; refine pl ?_; refine listF_abs (fun s126 z' => ?_); replace sl1 := gs 1 z' sl1; replace sl3 := gs 3 z' sl3; replace sl5 := gs 5 z' sl5; replace sl7 := gs 7 z' sl7; replace sl8 := gs 8 z' sl8; replace sl9 := gs 9 z' sl9; replace sl10 := gs 10 z' sl10; have sl54 := gu 54 z'; clear z'; refine listF_nil ?_
   repeat ((fail_if_success refine stp ?_); with_reducible go_step)
   refine cond_t ?_
   repeat ((fail_if_success refine stp ?_); with_reducible go_step)
   refine region_F ?_
   iterate 3 refine pl ?_
   refine pn true ?_; refine pn true ?_; refine pn true ?_; refine pl ?_; refine pl ?_; refine listF_yes rfl rfl (by decide) ?_ (fun K' hK => ?_); (focus (go_simp; done)); unfold opF; go_simp; refine (awake_any _).mono ?_; rintro e w127 ⟨rfl, hb128⟩; refine ⟨_, rfl, hK _ _ ?_⟩; clear hK K'; clear qb3 qb5 qb31; replace kb3 := kb3.at hb128; replace kb5 := kb5.at hb128; replace kb31 := kb31.at hb128; replace HLp := hid (HLp.out.below hb128); replace HB := hid (HB.out.below hb128); clear hb128; have qb3 := kb3.1; have qb5 := kb5.1; have qb31 := kb31.1; refine pl ?_; refine pl ?_; refine listF_abs (fun s129 z' => ?_); have sl6 := gu 6 z'; clear z' sl1 sl3 sl5 sl7 sl8 sl9 sl10 sl54; refine listF_nil ?_
   repeat ((fail_if_success refine stp ?_); with_reducible go_step)
   refine ret_F _ (res_t Try.results16 ((getD_F (by decide)).trans sl6)) ?_; exact ⟨rfl, HB.out.toBelow⟩

end Go.Proofs.Ytndcmmghgljinaa
