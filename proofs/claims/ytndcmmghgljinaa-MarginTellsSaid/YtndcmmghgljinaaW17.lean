/- Next. -/
import Derived.Test.YtndcmmghgljinaaW15
set_option linter.all false
namespace Go.Proofs.Ytndcmmghgljinaa
open Go.RowKit


def nbV (k : Kd) (s : Span) (i : Nat) : Int := if i = 0 then 0 else bestUpto k s (i - 1)
def nbW (k : Kd) (s : Span) (i : Nat) : Int := if i = 0 then 1000001 else widthAt k s (bestUpto k s (i - 1))
def nextRes (k : Kd) (cs : List MCk) (h : Int) : Int × Int × Int := if (asked k cs h).2 = 0 then (best k (asked k cs h).1, widthAt k (asked k cs h).1 (best k (asked k cs h).1), 0) else (0, 0, (asked k cs h).2)
theorem width_bd {k : Kd} (hK : KOk k) {s : Span} (hs : spanOk s) (hl : s.lo ≤ s.hi) (h0 : 0 ≤ s.lo) {v : Int} (hv : voltOk k v = true) : 0 ≤ widthAt k s v ∧ widthAt k s v ≤ 1000000 := by
  obtain ⟨⟨h1, h2⟩, h3, h4⟩ := hs; have := needed_bd hK hv; unfold widthAt agreed Span.width
  simp only [if_true, Bool.false_eq_true, if_false]
  omega
theorem nb_succ {k : Kd} (hK : KOk k) {s : Span} (hs : spanOk s) (hl : s.lo ≤ s.hi) (h0 : 0 ≤ s.lo) {i : Nat} (hi : i < k.steps.length) :
    (widthAt k s k.steps[i].volt < nbW k s i → nbV k s (i + 1) = k.steps[i].volt ∧ nbW k s (i + 1) = widthAt k s k.steps[i].volt) ∧ (¬ widthAt k s k.steps[i].volt < nbW k s i → nbV k s (i + 1) = nbV k s i ∧ nbW k s (i + 1) = nbW k s i) := by
  unfold nbV nbW; rw [if_neg (show ¬ i + 1 = 0 by omega), if_neg (show ¬ i + 1 = 0 by omega), Nat.add_sub_cancel]
  cases i with
  | zero =>
    have hb : bestUpto k s 0 = k.steps[0].volt := by unfold bestUpto; rw [getD_get hi]
    have := width_bd hK hs hl h0 (needed_at hK hi).1; rw [hb]
    simp only [if_true]
    constructor
    · intro _; simp
    · intro h; exfalso; omega
  | succ i =>
    rw [if_neg (show ¬ i + 1 = 0 by omega), if_neg (show ¬ i + 1 = 0 by omega), Nat.add_sub_cancel]
    have hb : bestUpto k s (i + 1) = if widthAt k s k.steps[i + 1].volt < widthAt k s (bestUpto k s i) then k.steps[i + 1].volt else bestUpto k s i := by
      show (if widthAt k s (k.steps.getD (i + 1) Stp.zero).volt < _ then _ else _) = _
      rw [getD_get hi]
    constructor
    · intro h; rw [hb, if_pos h]; exact ⟨rfl, rfl⟩
    · intro h; rw [hb, if_neg h]; exact ⟨rfl, rfl⟩
theorem nb_end {k : Kd} (hK : KOk k) {s : Span} : nbV k s k.steps.length = best k s ∧ nbW k s k.steps.length = widthAt k s (best k s) := by
  have := hK.l0; unfold nbV nbW best; rw [if_neg (by omega), if_neg (by omega)]; exact ⟨rfl, rfl⟩
/-- the greatest width after j results -/
def wst (k : Kd) (s : Span) (v : Int) (j : Nat) : Int := if j = 0 then -1 else if j = 1 then max (-1) (agreed k s v true).width else max (max (-1) (agreed k s v true).width) (agreed k s v false).width
theorem wst_2 {k : Kd} (hK : KOk k) {s : Span} (hs : spanOk s) (hl : s.lo ≤ s.hi) (h0 : 0 ≤ s.lo) {v : Int} (hv : voltOk k v = true) : wst k s v 2 = widthAt k s v := by
  have h := width_bd hK hs hl h0 hv; unfold wst widthAt at *
  simp only [Nat.reduceEqDiff, if_false]
  simp
  omega
theorem width_in {k : Kd} (hK : KOk k) {s : Span} (hs : spanOk s) {v : Int} (hv : voltOk k v = true) (p : Bool) : -2000000 ≤ (agreed k s v p).hi - (agreed k s v p).lo ∧ (agreed k s v p).hi - (agreed k s v p).lo ≤ 2000000 := by
  obtain ⟨⟨h1, h2⟩, h3, h4⟩ := agreed_ok (p := p) hK hs hv
  omega

set_option maxRecDepth 100000 in
set_option maxHeartbeats 1000000 in
theorem qnext_any (k : Kd) (a : Option Addr) (c : Nat) (ac : Option Addr) (cc : Nat) (cs : List MCk) (h : Int) (w : World) (hN : -9223372036854775808 ≤ k.new ∧ k.new ≤ 9223372036854775807) (hsl : k.steps.length ≤ 9223372036854775807) (hR : RdSteps w a k.steps) (hRc : RdCks w ac cs) (hlc : cs.length ≤ 9223372036854775807) :
    Calls Try.prog 27 #[.agg #[.int .i64 k.new, .int .i64 k.wear.lo, .int .i64 k.wear.hi, .slice a k.steps.length c], .slice ac cs.length cc, .int .i64 h] w (fun e w' => e = .returned (.tuple #[.int .i64 (nextRes k cs h).1, .int .i64 (nextRes k cs h).2.1, .int .i64 (nextRes k cs h).2.2]) ∧ Below w.heap.size w w') := by
 have HR := hid hR; have HN := hid hN; have HRc := hid hRc; clear hR hN hRc
 refine enter_F Try.func27 rfl Try.ntmps27 (by simp) ?_
 intro s0 hs; have sl0 : s0 0 = .agg #[.int .i64 k.new, .int .i64 k.wear.lo, .int .i64 k.wear.hi, .slice a k.steps.length c] := hs 0 (by simp); have sl1 : s0 1 = .slice ac cs.length cc := hs 1 (by simp); have sl2 : s0 2 = .int .i64 h := hs 2 (by simp); clear hs; have HB := hid (OldB.refl [] w)
 repeat ((fail_if_success refine stp ?_); with_reducible go_step)
 refine region_F ?_; refine pa (fun w1 B3 hB kb3' hb2 => ?_); have gb3 := HB.out.gB hB; have eb3 := eB hB; clear hB; replace HB := hid (HB.out.below hb2); clear hb2; have kb3 := kb3'; clear kb3'; have qb3 := kb3.1
 iterate 3 refine pl ?_
 refine listF_abs (fun s3 z' => ?_); replace sl1 := gs 1 z' sl1; replace sl2 := gs 2 z' sl2; have sl3 := gu 3 z'; have sl6 := gu 6 z'; clear z' sl0; refine listF_nil ?_
 repeat ((fail_if_success refine stp ?_); with_reducible go_step)
 refine region_F ?_; have cb3_0 := kb3.cell 0 rfl; have cb3_1 := kb3.cell 1 rfl; have cb3_2 := kb3.cell 2 rfl; have cb3_3 := kb3.cell 3 rfl
 iterate 3 refine pl ?_
 by_cases ha : (asked k cs h).2 = 0
 ·skip
  obtain ⟨hK, _, hsp, hlh, hh1, hh2, hlo0, hhi0⟩ := asked_in ha; have HK := hid hK; have Hsp := hid hsp; have Ha := hid ha; clear ha hK hsp; refine listF_step rfl (fun K' hK => ?_); unfold opF; go_simp; refine (look_ok k a c ac cc cs h _ HN.out hsl (Rd.oldB HR.out HB.out (by simp)) (Rd.oldB HRc.out HB.out (by simp)) hlc Ha.out).mono ?_; rintro e w4 ⟨V, rfl, gV', hV', hb5⟩
  have gV : w.heap.size ≤ V := by have := HB.out.size; omega
  have ob3_V : B3 < V := by have := gV'; omega
  refine ⟨_, rfl, hK _ _ ?_⟩; clear hK K'; clear cb3_0 cb3_1 cb3_2 cb3_3; clear qb3; replace kb3 := kb3.at hb5; replace HB := hid (HB.out.below hb5); clear hb5; have qb3 := kb3.1; have kV := hV'; clear hV'; have qV := kV.1
  iterate 5 refine pl ?_
  refine listF_abs (fun s6 z' => ?_); replace sl3 := gs 3 z' sl3; replace sl6 := gs 6 z' sl6; have sl8 := gu 8 z'; have sl9 := gu 9 z'; clear z' sl1 sl2; refine listF_nil ?_
  repeat ((fail_if_success refine stp ?_); with_reducible go_step)
  refine region_F ?_; refine pl ?_; refine pl ?_; refine listF_abs (fun s7 z' => ?_); replace sl3 := gs 3 z' sl3; replace sl6 := gs 6 z' sl6; replace sl8 := gs 8 z' sl8; replace sl9 := gs 9 z' sl9; have sl24 := gu 24 z'; clear z'; refine listF_nil ?_
  repeat ((fail_if_success refine stp ?_); with_reducible go_step)
  refine cond_f ?_
  repeat ((fail_if_success refine stp ?_); with_reducible go_step)
  refine region_F ?_; refine pl ?_; refine listF_abs (fun s8 z' => ?_); replace sl3 := gs 3 z' sl3; replace sl6 := gs 6 z' sl6; have sl7 := gu 7 z'; replace sl9 := gs 9 z' sl9; clear z' sl8 sl24; refine listF_nil ?_
  repeat ((fail_if_success refine stp ?_); with_reducible go_step)
  refine region_F ?_; refine pl ?_; have hsl8 := HK.out.l1; have cb3_0 := kb3.cell 0 rfl; have cb3_1 := kb3.cell 1 rfl; have cb3_2 := kb3.cell 2 rfl; have cb3_3 := kb3.cell 3 rfl
  iterate 3 refine pl ?_
  refine listF_abs (fun s9 z' => ?_); replace sl6 := gs 6 z' sl6; replace sl7 := gs 7 z' sl7; replace sl9 := gs 9 z' sl9; have sl27 := gu 27 z'; have sl28 := gu 28 z'; have sl29 := gu 29 z'; clear z' sl3; refine listF_nil ?_
  repeat ((fail_if_success refine stp ?_); with_reducible go_step)
  clear cb3_0 cb3_1 cb3_2 cb3_3; have hc0_9 := hid sl9; have hc0_27 := hid sl27; have hc0_28 := hid sl28; refine loop_F (n := 61) (fun kJ sJ wJ => ∃ (i : Nat), kJ = k.steps.length - i ∧ sJ 6 = .int .i64 (nbV k (asked k cs h).1 i) ∧ sJ 7 = .int .i64 (nbW k (asked k cs h).1 i) ∧ sJ 29 = .int .i64 (i : Int) ∧ sJ 9 = s9 9 ∧ sJ 27 = s9 27 ∧ sJ 28 = s9 28 ∧ OldB [] w4 wJ ∧ i ≤ k.steps.length) ⟨0, rfl, (by first | exact sl6 | (rw [sl6]; go_num) | (rw [sl6]; rfl)), (by first | exact sl7 | (rw [sl7]; go_num) | (rw [sl7]; rfl)), (by first | exact sl29 | (rw [sl29]; go_num) | (rw [sl29]; rfl)), rfl, rfl, rfl, OldB.refl _ _, Nat.zero_le _⟩ ?_; clear sl6 sl7 sl29; rintro kJ s10 w11 ⟨i, rfl, sl6, sl7, sl29, e9, e27, e28, hb12, hil⟩; replace sl9 := e9.trans sl9; clear e9; replace sl27 := e27.trans sl27; clear e27; replace sl28 := e28.trans sl28; clear e28; have hoJ := hb12; clear qb3 qV; replace kb3 := kb3.oldB hb12 (by first | (simp; done) | (simp; omega))
  replace kV := kV.oldB hb12 (by first | (simp; done) | (simp; omega)); replace HB := hid (HB.out.more hb12 (by simp; try omega)); clear hb12; have qb3 := kb3.1; have qV := kV.1; have HoJ := hid hoJ; clear hoJ; have HL13 := HoJ; clear HoJ
  repeat ((fail_if_success refine stp ?_); with_reducible go_step)
  refine region_F ?_; refine pl ?_; refine listF_abs (fun s14 z' => ?_); replace sl6 := gs 6 z' sl6; replace sl7 := gs 7 z' sl7; replace sl9 := gs 9 z' sl9; replace sl27 := gs 27 z' sl27; replace sl28 := gs 28 z' sl28; replace sl29 := gs 29 z' sl29; have sl30 := gu 30 z'; clear z'; refine listF_nil ?_
  repeat ((fail_if_success refine stp ?_); with_reducible go_step)
  refine cond_E sl30 (by decide) ?_ ?_ <;> (clear sl30; intro h30 sl30)
  ·skip
   have hlt : i < k.steps.length := by simpa using h30
   obtain ⟨b, off, rfl, hbs, c0, c1⟩ := RdSteps.ne (Rd.oldB HR.out HB.out (by simp)) hlt; have Hvo := hid (needed_at HK.out hlt).1; obtain ⟨hnb1, hnb2⟩ := nb_succ HK.out Hsp.out hlh hlo0 hlt; have Hnb1 := hid hnb1; have Hnb2 := hid hnb2; clear hnb1 hnb2
   repeat ((fail_if_success refine stp ?_); with_reducible go_step)
   refine region_F ?_; refine pl ?_; refine pl ?_; refine pa (fun w15 B11 hB kb11' hb16 => ?_); have gb11 := HB.out.gB hB; have lHL13_b11 := HL13.out.gB hB; have ob3_b11 := oB qb3 hB; have oV_b11 := oB qV hB; have eb11 := eB hB; clear hB; clear qb3 qV; replace kb3 := kb3.at hb16; replace kV := kV.at hb16; replace HL13 := hid (HL13.out.below hb16); replace HB := hid (HB.out.below hb16); clear hb16; have qb3 := kb3.1; have qV := kV.1; have kb11 := kb11'; clear kb11'; have qb11 := kb11.1; have cb11_0 := kb11.cell 0 rfl; have cb11_1 := kb11.cell 1 rfl; have zb11 := kb11.2.2; refine pl ?_; refine listF_absw (fun w17 hw' => ?_); have kb11' := cells_of hw' (Cells.set (i := 1) (Cells.set (i := 0) (kb11)))
   (try simp only [vC, List.set_cons_zero, List.set_cons_succ] at kb11')
   have hb18 : OldB [B11] w15 w17 := oldset hw'; clear hw'; clear cb11_0 cb11_1 zb11; clear qb3 qV qb11; replace kb11 := kb11'; replace kb3 := kb3.oldB hb18 (by first | (simp; done) | (simp; omega)); replace kV := kV.oldB hb18 (by first | (simp; done) | (simp; omega)); replace HL13 := hid (HL13.out.more hb18 (by simp; try omega)); replace HB := hid (HB.out.more hb18 (by simp; try omega)); clear hb18; have qb3 := kb3.1; have qV := kV.1; have qb11 := kb11.1; clear kb11'; refine listF_abs (fun s19 z' => ?_); replace sl6 := gs 6 z' sl6; replace sl7 := gs 7 z' sl7; replace sl9 := gs 9 z' sl9; have sl11 := gu 11 z'; replace sl27 := gs 27 z' sl27; replace sl28 := gs 28 z' sl28; replace sl29 := gs 29 z' sl29; clear z' sl30; refine listF_nil ?_
   repeat ((fail_if_success refine stp ?_); with_reducible go_step)
   refine region_F ?_; refine pl ?_; refine listF_abs (fun s20 z' => ?_); replace sl6 := gs 6 z' sl6; replace sl7 := gs 7 z' sl7; replace sl9 := gs 9 z' sl9; replace sl11 := gs 11 z' sl11; have sl12 := gu 12 z'; replace sl27 := gs 27 z' sl27; replace sl28 := gs 28 z' sl28; replace sl29 := gs 29 z' sl29; clear z'; refine listF_nil ?_
   repeat ((fail_if_success refine stp ?_); with_reducible go_step)
   refine region_F ?_; refine pas (fun w21 B33 hB kb33' hb22 => ?_); have gb33 := HB.out.gB hB; have lHL13_b33 := HL13.out.gB hB; have ob3_b33 := oB qb3 hB; have oV_b33 := oB qV hB; have ob11_b33 := oB qb11 hB; have eb33 := eB hB; clear hB; clear qb3 qV qb11; replace kb3 := kb3.at hb22; replace kV := kV.at hb22; replace kb11 := kb11.at hb22; replace HL13 := hid (HL13.out.below hb22); replace HB := hid (HB.out.below hb22); clear hb22; have qb3 := kb3.1; have qV := kV.1; have qb11 := kb11.1; have kb33 := kb33'; clear kb33'; have qb33 := kb33.1; refine pl ?_; refine pl ?_; refine listF_abs (fun s23 z' => ?_); replace sl6 := gs 6 z' sl6; replace sl7 := gs 7 z' sl7; replace sl9 := gs 9 z' sl9; replace sl11 := gs 11 z' sl11; replace sl12 := gs 12 z' sl12; replace sl27 := gs 27 z' sl27; replace sl28 := gs 28 z' sl28; replace sl29 := gs 29 z' sl29; have sl33 := gu 33 z'; have sl34 := gu 34 z'; have sl35 := gu 35 z'; clear z'; refine listF_nil ?_
   repeat ((fail_if_success refine stp ?_); with_reducible go_step)
   have hc1_6 := hid sl6; have hc1_7 := hid sl7; have hc1_9 := hid sl9; have hc1_11 := hid sl11; have hc1_27 := hid sl27; have hc1_28 := hid sl28; have hc1_29 := hid sl29; have hc1_33 := hid sl33; have hc1_34 := hid sl34; refine loop_F (n := 61) (fun kJ sJ wJ => ∃ (j : Nat), kJ = 2 - j ∧ sJ 12 = .int .i64 (wst k (asked k cs h).1 k.steps[i].volt j) ∧ sJ 35 = .int .i64 (j : Int) ∧ sJ 6 = s23 6 ∧ sJ 7 = s23 7 ∧ sJ 9 = s23 9 ∧ sJ 11 = s23 11 ∧ sJ 27 = s23 27 ∧ sJ 28 = s23 28 ∧ sJ 29 = s23 29 ∧ sJ 33 = s23 33 ∧ sJ 34 = s23 34 ∧ OldB [] w21 wJ ∧ j ≤ 2) ⟨0, rfl, (by first | exact sl12 | (rw [sl12]; go_num) | (rw [sl12]; rfl)), (by first | exact sl35 | (rw [sl35]; go_num) | (rw [sl35]; rfl)), rfl, rfl, rfl, rfl, rfl, rfl, rfl, rfl, rfl, OldB.refl _ _, by omega⟩ ?_; clear sl12 sl35; rintro kJ s24 w25 ⟨j, rfl, sl12, sl35, e6, e7, e9, e11, e27, e28, e29, e33, e34, hb26, hj2⟩; replace sl6 := e6.trans sl6; clear e6; replace sl7 := e7.trans sl7; clear e7
   replace sl9 := e9.trans sl9; clear e9; replace sl11 := e11.trans sl11; clear e11; replace sl27 := e27.trans sl27; clear e27; replace sl28 := e28.trans sl28; clear e28; replace sl29 := e29.trans sl29; clear e29; replace sl33 := e33.trans sl33; clear e33; replace sl34 := e34.trans sl34; clear e34; have hoJ := hb26; clear qb3 qV qb11 qb33; replace kb3 := kb3.oldB hb26 (by first | (simp; done) | (simp; omega)); replace kV := kV.oldB hb26 (by first | (simp; done) | (simp; omega)); replace kb11 := kb11.oldB hb26 (by first | (simp; done) | (simp; omega)); replace kb33 := kb33.oldB hb26 (by first | (simp; done) | (simp; omega)); replace HL13 := hid (HL13.out.more hb26 (by simp; try omega)); replace HB := hid (HB.out.more hb26 (by simp; try omega)); clear hb26; have qb3 := kb3.1; have qV := kV.1; have qb11 := kb11.1; have qb33 := kb33.1; have HoJ := hid hoJ; clear hoJ; have HL27 := HoJ; clear HoJ
   repeat ((fail_if_success refine stp ?_); with_reducible go_step)
   refine region_F ?_; refine pl ?_; refine listF_abs (fun s28 z' => ?_); replace sl6 := gs 6 z' sl6; replace sl7 := gs 7 z' sl7; replace sl9 := gs 9 z' sl9; replace sl11 := gs 11 z' sl11; replace sl12 := gs 12 z' sl12; replace sl27 := gs 27 z' sl27; replace sl28 := gs 28 z' sl28; replace sl29 := gs 29 z' sl29; replace sl33 := gs 33 z' sl33; replace sl34 := gs 34 z' sl34; replace sl35 := gs 35 z' sl35; have sl36 := gu 36 z'; clear z'; refine listF_nil ?_
   repeat ((fail_if_success refine stp ?_); with_reducible go_step)
   refine cond_E sl36 (by decide) ?_ ?_ <;> (clear sl36; intro h36 sl36)
   ·skip
    have hj : j < 2 := by simp at h36; omega
    repeat ((fail_if_success refine stp ?_); with_reducible go_step)
    obtain rfl | rfl : j = 0 ∨ j = 1 := by omega
    ·skip
     refine region_F ?_; refine pl ?_; have u33_0 := kb33.cell 0 rfl; have u33_1 := kb33.cell 1 rfl; refine pl ?_; refine pl ?_; refine listF_abs (fun s29 z' => ?_); replace sl6 := gs 6 z' sl6; replace sl7 := gs 7 z' sl7; replace sl9 := gs 9 z' sl9; replace sl11 := gs 11 z' sl11; replace sl12 := gs 12 z' sl12; have sl14 := gu 14 z'; replace sl27 := gs 27 z' sl27; replace sl28 := gs 28 z' sl28; replace sl29 := gs 29 z' sl29; replace sl33 := gs 33 z' sl33; replace sl34 := gs 34 z' sl34; replace sl35 := gs 35 z' sl35; clear z' sl36; refine listF_nil ?_
     repeat ((fail_if_success refine stp ?_); with_reducible go_step)
     refine region_F ?_; refine pl ?_; refine pl ?_; have cb11_0 := kb11.cell 0 rfl; have cb11_1 := kb11.cell 1 rfl; refine pl ?_; refine pl ?_; refine listF_step rfl (fun K' hK => ?_); unfold opF; go_simp; refine (result_any V k _ c (asked k cs h).1 h k.steps[i].volt true _ kV (Rd.oldB HR.out HB.out (by simp)) HK.out Hvo.out).mono ?_; rintro e w30 ⟨rfl, hb31⟩; refine ⟨_, rfl, hK _ _ ?_⟩; clear hK K'; clear cb11_0 cb11_1; clear qb3 qV qb11 qb33; replace kb3 := kb3.at hb31; replace kV := kV.at hb31; replace kb11 := kb11.at hb31; replace kb33 := kb33.at hb31; replace HL13 := hid (HL13.out.below hb31); replace HL27 := hid (HL27.out.below hb31); replace HB := hid (HB.out.below hb31); clear hb31; have qb3 := kb3.1; have qV := kV.1; have qb11 := kb11.1; have qb33 := kb33.1; refine pa (fun w32 B15 hB kb15' hb33 => ?_); have gb15 := HB.out.gB hB; have lHL13_b15 := HL13.out.gB hB; have lHL27_b15 := HL27.out.gB hB; have ob3_b15 := oB qb3 hB; have oV_b15 := oB qV hB
     have ob11_b15 := oB qb11 hB; have ob33_b15 := oB qb33 hB; have eb15 := eB hB; clear hB; clear qb3 qV qb11 qb33; replace kb3 := kb3.at hb33; replace kV := kV.at hb33; replace kb11 := kb11.at hb33; replace kb33 := kb33.at hb33; replace HL13 := hid (HL13.out.below hb33); replace HL27 := hid (HL27.out.below hb33); replace HB := hid (HB.out.below hb33); clear hb33; have qb3 := kb3.1; have qV := kV.1; have qb11 := kb11.1; have qb33 := kb33.1; have kb15 := kb15'; clear kb15'; have qb15 := kb15.1; have cb15_0 := kb15.cell 0 rfl; have cb15_1 := kb15.cell 1 rfl; have zb15 := kb15.2.2; refine pl ?_; refine listF_absw (fun w34 hw' => ?_); have kb15' := cells_of hw' (Cells.set (i := 1) (Cells.set (i := 0) (kb15)))
     (try simp only [vC, List.set_cons_zero, List.set_cons_succ] at kb15')
     have hb35 : OldB [B15] w32 w34 := oldset hw'; clear hw'; clear cb15_0 cb15_1 zb15; clear qb3 qV qb11 qb33 qb15; replace kb15 := kb15'; replace kb3 := kb3.oldB hb35 (by first | (simp; done) | (simp; omega)); replace kV := kV.oldB hb35 (by first | (simp; done) | (simp; omega)); replace kb11 := kb11.oldB hb35 (by first | (simp; done) | (simp; omega)); replace kb33 := kb33.oldB hb35 (by first | (simp; done) | (simp; omega)); replace HL13 := hid (HL13.out.more hb35 (by simp; try omega)); replace HL27 := hid (HL27.out.more hb35 (by simp; try omega)); replace HB := hid (HB.out.more hb35 (by simp; try omega)); clear hb35; have qb3 := kb3.1; have qV := kV.1; have qb11 := kb11.1; have qb33 := kb33.1; have qb15 := kb15.1; clear kb15'; refine listF_abs (fun s36 z' => ?_); replace sl6 := gs 6 z' sl6; replace sl7 := gs 7 z' sl7; replace sl9 := gs 9 z' sl9; replace sl11 := gs 11 z' sl11; replace sl12 := gs 12 z' sl12; have sl15 := gu 15 z'
     replace sl27 := gs 27 z' sl27; replace sl28 := gs 28 z' sl28; replace sl29 := gs 29 z' sl29; replace sl33 := gs 33 z' sl33; replace sl34 := gs 34 z' sl34; replace sl35 := gs 35 z' sl35; clear z' sl14; refine listF_nil ?_
     repeat ((fail_if_success refine stp ?_); with_reducible go_step)
     refine region_F ?_; refine pl ?_; refine pl ?_; have cb15_0 := kb15.cell 0 rfl; have cb15_1 := kb15.cell 1 rfl
     iterate 3 refine pl ?_
     have hwi := width_in HK.out Hsp.out Hvo.out true; have wwi : IntKind.i64.wrap (_ - _) = _ := IntWalk.i64_in _ (show -9223372036854775808 ≤ (agreed k (asked k cs h).1 k.steps[i].volt true).hi - (agreed k (asked k cs h).1 k.steps[i].volt true).lo ∧ (agreed k (asked k cs h).1 k.steps[i].volt true).hi - (agreed k (asked k cs h).1 k.steps[i].volt true).lo ≤ 9223372036854775807 by omega)
     iterate 3 refine pl ?_
     refine listF_abs (fun s37 z' => ?_); replace sl6 := gs 6 z' sl6; replace sl7 := gs 7 z' sl7; replace sl9 := gs 9 z' sl9; replace sl11 := gs 11 z' sl11; replace sl12 := gu 12 z'; replace sl27 := gs 27 z' sl27; replace sl28 := gs 28 z' sl28; replace sl29 := gs 29 z' sl29; replace sl33 := gs 33 z' sl33; replace sl34 := gs 34 z' sl34; replace sl35 := gs 35 z' sl35; clear z' sl15; refine listF_nil ?_
     repeat ((fail_if_success refine stp ?_); with_reducible go_step)
     refine region_F ?_; refine pl ?_; refine pl ?_; refine listF_abs (fun s38 z' => ?_); replace sl6 := gs 6 z' sl6; replace sl7 := gs 7 z' sl7; replace sl9 := gs 9 z' sl9; replace sl11 := gs 11 z' sl11; replace sl12 := gs 12 z' sl12; replace sl27 := gs 27 z' sl27; replace sl28 := gs 28 z' sl28; replace sl29 := gs 29 z' sl29; replace sl33 := gs 33 z' sl33; replace sl34 := gs 34 z' sl34; replace sl35 := gu 35 z'; clear z'; refine listF_nil ?_
     repeat ((fail_if_success refine stp ?_); with_reducible go_step)
     clear cb15_0 cb15_1; refine ⟨_, _, rfl, ?_, 1, rfl, (by rw [sl12]; congr 1; unfold wst Span.width; simp; omega), (by first | (with_reducible exact sl35) | (rw [sl35]; (with_reducible go_num); done) | (rw [sl35, IntWalk.i64_in] <;> first | ((with_reducible go_num); done) | omega) | (rw [sl35]; go_num; done) | (rw [sl35]; simp; done) | (rw [sl35]; simp; omega)), (sl6.trans hc1_6.out.symm), (sl7.trans hc1_7.out.symm), (sl9.trans hc1_9.out.symm), (sl11.trans hc1_11.out.symm), (sl27.trans hc1_27.out.symm), (sl28.trans hc1_28.out.symm), (sl29.trans hc1_29.out.symm), (sl33.trans hc1_33.out.symm), (sl34.trans hc1_34.out.symm), HL27.out, by omega⟩
     omega
    ·skip
     refine region_F ?_; refine pl ?_; have u33_0 := kb33.cell 0 rfl; have u33_1 := kb33.cell 1 rfl; refine pl ?_; refine pl ?_; refine listF_abs (fun s39 z' => ?_); replace sl6 := gs 6 z' sl6; replace sl7 := gs 7 z' sl7; replace sl9 := gs 9 z' sl9; replace sl11 := gs 11 z' sl11; replace sl12 := gs 12 z' sl12; have sl14 := gu 14 z'; replace sl27 := gs 27 z' sl27; replace sl28 := gs 28 z' sl28; replace sl29 := gs 29 z' sl29; replace sl33 := gs 33 z' sl33; replace sl34 := gs 34 z' sl34; replace sl35 := gs 35 z' sl35; clear z' sl36; refine listF_nil ?_
     repeat ((fail_if_success refine stp ?_); with_reducible go_step)
     refine region_F ?_; refine pl ?_; refine pl ?_; have cb11_0 := kb11.cell 0 rfl; have cb11_1 := kb11.cell 1 rfl; refine pl ?_; refine pl ?_; refine listF_step rfl (fun K' hK => ?_); unfold opF; go_simp; refine (result_any V k _ c (asked k cs h).1 h k.steps[i].volt false _ kV (Rd.oldB HR.out HB.out (by simp)) HK.out Hvo.out).mono ?_; rintro e w40 ⟨rfl, hb41⟩; refine ⟨_, rfl, hK _ _ ?_⟩; clear hK K'; clear cb11_0 cb11_1; clear qb3 qV qb11 qb33; replace kb3 := kb3.at hb41; replace kV := kV.at hb41; replace kb11 := kb11.at hb41; replace kb33 := kb33.at hb41; replace HL13 := hid (HL13.out.below hb41); replace HL27 := hid (HL27.out.below hb41); replace HB := hid (HB.out.below hb41); clear hb41; have qb3 := kb3.1; have qV := kV.1; have qb11 := kb11.1; have qb33 := kb33.1; refine pa (fun w42 B15 hB kb15' hb43 => ?_); have gb15 := HB.out.gB hB; have lHL13_b15 := HL13.out.gB hB; have lHL27_b15 := HL27.out.gB hB; have ob3_b15 := oB qb3 hB; have oV_b15 := oB qV hB
     have ob11_b15 := oB qb11 hB; have ob33_b15 := oB qb33 hB; have eb15 := eB hB; clear hB; clear qb3 qV qb11 qb33; replace kb3 := kb3.at hb43; replace kV := kV.at hb43; replace kb11 := kb11.at hb43; replace kb33 := kb33.at hb43; replace HL13 := hid (HL13.out.below hb43); replace HL27 := hid (HL27.out.below hb43); replace HB := hid (HB.out.below hb43); clear hb43; have qb3 := kb3.1; have qV := kV.1; have qb11 := kb11.1; have qb33 := kb33.1; have kb15 := kb15'; clear kb15'; have qb15 := kb15.1; have cb15_0 := kb15.cell 0 rfl; have cb15_1 := kb15.cell 1 rfl; have zb15 := kb15.2.2; refine pl ?_; refine listF_absw (fun w44 hw' => ?_); have kb15' := cells_of hw' (Cells.set (i := 1) (Cells.set (i := 0) (kb15)))
     (try simp only [vC, List.set_cons_zero, List.set_cons_succ] at kb15')
     have hb45 : OldB [B15] w42 w44 := oldset hw'; clear hw'; clear cb15_0 cb15_1 zb15; clear qb3 qV qb11 qb33 qb15; replace kb15 := kb15'; replace kb3 := kb3.oldB hb45 (by first | (simp; done) | (simp; omega)); replace kV := kV.oldB hb45 (by first | (simp; done) | (simp; omega)); replace kb11 := kb11.oldB hb45 (by first | (simp; done) | (simp; omega)); replace kb33 := kb33.oldB hb45 (by first | (simp; done) | (simp; omega)); replace HL13 := hid (HL13.out.more hb45 (by simp; try omega)); replace HL27 := hid (HL27.out.more hb45 (by simp; try omega)); replace HB := hid (HB.out.more hb45 (by simp; try omega)); clear hb45; have qb3 := kb3.1; have qV := kV.1; have qb11 := kb11.1; have qb33 := kb33.1; have qb15 := kb15.1; clear kb15'; refine listF_abs (fun s46 z' => ?_); replace sl6 := gs 6 z' sl6; replace sl7 := gs 7 z' sl7; replace sl9 := gs 9 z' sl9; replace sl11 := gs 11 z' sl11; replace sl12 := gs 12 z' sl12; have sl15 := gu 15 z'
     replace sl27 := gs 27 z' sl27; replace sl28 := gs 28 z' sl28; replace sl29 := gs 29 z' sl29; replace sl33 := gs 33 z' sl33; replace sl34 := gs 34 z' sl34; replace sl35 := gs 35 z' sl35; clear z' sl14; refine listF_nil ?_
     repeat ((fail_if_success refine stp ?_); with_reducible go_step)
     refine region_F ?_; refine pl ?_; refine pl ?_; have cb15_0 := kb15.cell 0 rfl; have cb15_1 := kb15.cell 1 rfl
     iterate 3 refine pl ?_
     have hwi := width_in HK.out Hsp.out Hvo.out false; have wwi : IntKind.i64.wrap (_ - _) = _ := IntWalk.i64_in _ (show -9223372036854775808 ≤ (agreed k (asked k cs h).1 k.steps[i].volt false).hi - (agreed k (asked k cs h).1 k.steps[i].volt false).lo ∧ (agreed k (asked k cs h).1 k.steps[i].volt false).hi - (agreed k (asked k cs h).1 k.steps[i].volt false).lo ≤ 9223372036854775807 by omega)
     iterate 3 refine pl ?_
     refine listF_abs (fun s47 z' => ?_); replace sl6 := gs 6 z' sl6; replace sl7 := gs 7 z' sl7; replace sl9 := gs 9 z' sl9; replace sl11 := gs 11 z' sl11; replace sl12 := gu 12 z'; replace sl27 := gs 27 z' sl27; replace sl28 := gs 28 z' sl28; replace sl29 := gs 29 z' sl29; replace sl33 := gs 33 z' sl33; replace sl34 := gs 34 z' sl34; replace sl35 := gs 35 z' sl35; clear z' sl15; refine listF_nil ?_
     repeat ((fail_if_success refine stp ?_); with_reducible go_step)
     refine region_F ?_; refine pl ?_; refine pl ?_; refine listF_abs (fun s48 z' => ?_); replace sl6 := gs 6 z' sl6; replace sl7 := gs 7 z' sl7; replace sl9 := gs 9 z' sl9; replace sl11 := gs 11 z' sl11; replace sl12 := gs 12 z' sl12; replace sl27 := gs 27 z' sl27; replace sl28 := gs 28 z' sl28; replace sl29 := gs 29 z' sl29; replace sl33 := gs 33 z' sl33; replace sl34 := gs 34 z' sl34; replace sl35 := gu 35 z'; clear z'; refine listF_nil ?_
     repeat ((fail_if_success refine stp ?_); with_reducible go_step)
     clear cb15_0 cb15_1; refine ⟨_, _, rfl, ?_, 2, rfl, (by rw [sl12]; congr 1; unfold wst Span.width; simp; omega), (by first | (with_reducible exact sl35) | (rw [sl35]; (with_reducible go_num); done) | (rw [sl35, IntWalk.i64_in] <;> first | ((with_reducible go_num); done) | omega) | (rw [sl35]; go_num; done) | (rw [sl35]; simp; done) | (rw [sl35]; simp; omega)), (sl6.trans hc1_6.out.symm), (sl7.trans hc1_7.out.symm), (sl9.trans hc1_9.out.symm), (sl11.trans hc1_11.out.symm), (sl27.trans hc1_27.out.symm), (sl28.trans hc1_28.out.symm), (sl29.trans hc1_29.out.symm), (sl33.trans hc1_33.out.symm), (sl34.trans hc1_34.out.symm), HL27.out, by omega⟩
     omega
   ·skip
    have hj : ¬ j < 2 := by simp at h36; omega
    obtain rfl : 2 = j := by omega
    have Hw2 := hid (wst_2 HK.out Hsp.out hlh hlo0 Hvo.out); rw [Hw2.out] at sl12
    repeat ((fail_if_success refine stp ?_); with_reducible go_step)
    clear HL27; clear hc1_6 hc1_7 hc1_9 hc1_11 hc1_27 hc1_28 hc1_29 hc1_33 hc1_34; refine region_F ?_
    iterate 3 refine pl ?_
    refine listF_abs (fun s49 z' => ?_); replace sl6 := gs 6 z' sl6; replace sl7 := gs 7 z' sl7; replace sl9 := gs 9 z' sl9; replace sl11 := gs 11 z' sl11; replace sl12 := gs 12 z' sl12; replace sl27 := gs 27 z' sl27; replace sl28 := gs 28 z' sl28; replace sl29 := gs 29 z' sl29; have sl54 := gu 54 z'; clear z' sl33 sl34 sl35 sl36; refine listF_nil ?_
    repeat ((fail_if_success refine stp ?_); with_reducible go_step)
    refine cond_E sl54 (by decide) ?_ ?_ <;> (clear sl54; intro h54 sl54)
    ·skip
     have h54' : widthAt k (asked k cs h).1 k.steps[i].volt < nbW k (asked k cs h).1 i := by simpa using h54
     obtain ⟨hv1, hv2⟩ := Hnb1.out h54'; have Hv1 := hid hv1; have Hv2 := hid hv2; clear hv1 hv2
     repeat ((fail_if_success refine stp ?_); with_reducible go_step)
     refine region_F ?_; refine pl ?_; have cb11_0 := kb11.cell 0 rfl; have cb11_1 := kb11.cell 1 rfl
     iterate 4 refine pl ?_
     refine listF_abs (fun s50 z' => ?_); replace sl6 := gu 6 z'; replace sl7 := gu 7 z'; replace sl9 := gs 9 z' sl9; replace sl27 := gs 27 z' sl27; replace sl28 := gs 28 z' sl28; replace sl29 := gs 29 z' sl29; clear z' sl11 sl12 sl54; refine listF_nil ?_
     repeat ((fail_if_success refine stp ?_); with_reducible go_step)
     refine region_F ?_; refine pl ?_; refine pl ?_; refine listF_abs (fun s51 z' => ?_); replace sl6 := gs 6 z' sl6; replace sl7 := gs 7 z' sl7; replace sl9 := gs 9 z' sl9; replace sl27 := gs 27 z' sl27; replace sl28 := gs 28 z' sl28; replace sl29 := gu 29 z'; clear z'; refine listF_nil ?_
     repeat ((fail_if_success refine stp ?_); with_reducible go_step)
     clear cb11_0 cb11_1; refine ⟨_, _, rfl, ?_, i + 1, rfl, (by rw [sl6, Hv1.out]), (by rw [sl7, Hv2.out]), (by first | (with_reducible exact sl29) | (rw [sl29]; (with_reducible go_num); done) | (rw [sl29, IntWalk.i64_in] <;> first | ((with_reducible go_num); done) | omega) | (rw [sl29]; go_num; done) | (rw [sl29]; simp; done) | (rw [sl29]; simp; omega)), (sl9.trans hc0_9.out.symm), (sl27.trans hc0_27.out.symm), (sl28.trans hc0_28.out.symm), HL13.out, by omega⟩
     omega
    ·skip
     have h54' : ¬ widthAt k (asked k cs h).1 k.steps[i].volt < nbW k (asked k cs h).1 i := by simpa using h54
     obtain ⟨hv1, hv2⟩ := Hnb2.out h54'; have Hv1 := hid hv1; have Hv2 := hid hv2; clear hv1 hv2
     repeat ((fail_if_success refine stp ?_); with_reducible go_step)
     refine region_F ?_; refine pl ?_; refine pl ?_; refine listF_abs (fun s52 z' => ?_); replace sl6 := gs 6 z' sl6; replace sl7 := gs 7 z' sl7; replace sl9 := gs 9 z' sl9; replace sl27 := gs 27 z' sl27; replace sl28 := gs 28 z' sl28; replace sl29 := gu 29 z'; clear z' sl11 sl12 sl54; refine listF_nil ?_
     repeat ((fail_if_success refine stp ?_); with_reducible go_step)
     refine ⟨_, _, rfl, ?_, i + 1, rfl, (by rw [sl6, Hv1.out]), (by rw [sl7, Hv2.out]), (by first | (with_reducible exact sl29) | (rw [sl29]; (with_reducible go_num); done) | (rw [sl29, IntWalk.i64_in] <;> first | ((with_reducible go_num); done) | omega) | (rw [sl29]; go_num; done) | (rw [sl29]; simp; done) | (rw [sl29]; simp; omega)), (sl9.trans hc0_9.out.symm), (sl27.trans hc0_27.out.symm), (sl28.trans hc0_28.out.symm), HL13.out, by omega⟩
     omega
  ·skip
   have hge : ¬ i < k.steps.length := by simpa using h30
   have Hie := hid (show i = k.steps.length by omega); obtain ⟨he1, he2⟩ := nb_end HK.out (s := (asked k cs h).1); have He1 := hid he1; have He2 := hid he2; clear he1 he2
   repeat ((fail_if_success refine stp ?_); with_reducible go_step)
   clear HL13; clear hc0_9 hc0_27 hc0_28; refine region_F ?_
   iterate 5 refine pl ?_
   refine listF_abs (fun s53 z' => ?_); replace sl6 := gu 6 z'; replace sl7 := gu 7 z'; have sl8 := gu 8 z'; clear z' sl9 sl27 sl28 sl29 sl30; refine listF_nil ?_
   repeat ((fail_if_success refine stp ?_); with_reducible go_step)
   refine ret_F _ (res_ttt Try.results27 ((getD_F (by decide)).trans sl6) ((getD_F (by decide)).trans sl7) ((getD_F (by decide)).trans sl8)) ?_; refine ⟨?_, HB.out.toBelow⟩; unfold nextRes; rw [if_pos Ha.out, Hie.out, He1.out, He2.out]
 ·skip
  have Ha := hid ha
  have ha1 : ((asked k cs h).2 != 0) = true := by simpa using ha
  have Hz := hid (asked_zero ha); clear ha; refine listF_step rfl (fun K' hK => ?_); unfold opF; go_simp; refine (look_bad k a c ac cc cs h _ HN.out hsl (Rd.oldB HR.out HB.out (by simp)) (Rd.oldB HRc.out HB.out (by simp)) hlc Ha.out).mono ?_; rintro e w54 ⟨rfl, hb55⟩; refine ⟨_, rfl, hK _ _ ?_⟩; clear hK K'; clear cb3_0 cb3_1 cb3_2 cb3_3; clear qb3; replace kb3 := kb3.at hb55; replace HB := hid (HB.out.below hb55); clear hb55; have qb3 := kb3.1
  iterate 5 refine pl ?_
  refine listF_abs (fun s56 z' => ?_); replace sl3 := gs 3 z' sl3; replace sl6 := gs 6 z' sl6; have sl8 := gu 8 z'; have sl9 := gu 9 z'; clear z' sl1 sl2; refine listF_nil ?_
  repeat ((fail_if_success refine stp ?_); with_reducible go_step)
  refine region_F ?_; refine pl ?_; refine pl ?_; refine listF_abs (fun s57 z' => ?_); replace sl3 := gs 3 z' sl3; replace sl6 := gs 6 z' sl6; replace sl8 := gs 8 z' sl8; replace sl9 := gs 9 z' sl9; have sl24 := gu 24 z'; clear z'; refine listF_nil ?_
  repeat ((fail_if_success refine stp ?_); with_reducible go_step)
  refine cond_t ?_
  repeat ((fail_if_success refine stp ?_); with_reducible go_step)
  refine region_F ?_
  iterate 4 refine pl ?_
  refine listF_abs (fun s58 z' => ?_); replace sl6 := gu 6 z'; have sl7 := gu 7 z'; replace sl8 := gu 8 z'; clear z' sl3 sl9 sl24; refine listF_nil ?_
  repeat ((fail_if_success refine stp ?_); with_reducible go_step)
  refine ret_F _ (res_ttt Try.results27 ((getD_F (by decide)).trans sl6) ((getD_F (by decide)).trans sl7) ((getD_F (by decide)).trans sl8)) ?_; exact ⟨by unfold nextRes; rw [if_neg Ha.out], HB.out.toBelow⟩

end Go.Proofs.Ytndcmmghgljinaa
