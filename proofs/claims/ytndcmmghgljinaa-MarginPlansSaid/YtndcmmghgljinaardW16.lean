/- Life. -/
import Derived.Test.YtndcmmghgljinaardW18
set_option linter.all false
namespace Go.Proofs.Ytndcmmghgljinaa

section
open Go.RowKit


def nbV (k : Kd) (s : Span) (i : Nat) : Int := if i = 0 then 0 else bestUpto k s (i - 1)
def nbW (k : Kd) (s : Span) (i : Nat) : Int := if i = 0 then 1000001 else widthAt k s (bestUpto k s (i - 1))
def nextRes (k : Kd) (cs : List MCk) (h : Int) : Int × Int × Int := if (asked k cs h).2 = 0 then (best k (asked k cs h).1, widthAt k (asked k cs h).1 (best k (asked k cs h).1), 0) else (0, 0, (asked k cs h).2)
theorem width_bd {k : Kd} (hK : KOk k) {s : Span} (hs : spanOk s) (hl : s.lo ≤ s.hi) (h0 : 0 ≤ s.lo) {v : Int} (hv : voltOk k v = true) : 0 ≤ widthAt k s v ∧ widthAt k s v ≤ 1000000 := by
  obtain ⟨⟨h1, h2⟩, h3, h4⟩ := hs; have := needed_bd hK hv; unfold widthAt agreed Span.width
  simp only [if_true, Bool.false_eq_true, if_false]
  omega
theorem nb_succ {k : Kd} (hK : KOk k) {s : Span} (hs : spanOk s) (hl : s.lo ≤ s.hi) (h0 : 0 ≤ s.lo) {i : Nat} (hi : i < k.steps.length) :
    (widthAt k s k.steps[i].volt < nbW k s i → nbV k s (i + 1) = k.steps[i].volt ∧ nbW k s (i + 1) = widthAt k s k.steps[i].volt) ∧ (¬ widthAt k s k.steps[i].volt < nbW k s i → nbV k s (i + 1) = nbV k s i ∧ nbW k s (i + 1) = nbW k s i) := by
  unfold nbV nbW; rw [if_neg (show ¬ i + 1 = 0 by omega), if_neg (show ¬ i + 1 = 0 by omega), Nat.add_sub_cancel]
  cases i with
  | zero =>
    have hb : bestUpto k s 0 = k.steps[0].volt := by unfold bestUpto; rw [getD_get hi]
    have := width_bd hK hs hl h0 (needed_at hK hi).1; rw [hb]
    simp only [if_true]
    constructor
    · intro _; simp
    · intro h; exfalso; omega
  | succ i =>
    rw [if_neg (show ¬ i + 1 = 0 by omega), if_neg (show ¬ i + 1 = 0 by omega), Nat.add_sub_cancel]
    have hb : bestUpto k s (i + 1) = if widthAt k s k.steps[i + 1].volt < widthAt k s (bestUpto k s i) then k.steps[i + 1].volt else bestUpto k s i := by
      show (if widthAt k s (k.steps.getD (i + 1) Stp.zero).volt < _ then _ else _) = _
      rw [getD_get hi]
    constructor
    · intro h; rw [hb, if_pos h]; exact ⟨rfl, rfl⟩
    · intro h; rw [hb, if_neg h]; exact ⟨rfl, rfl⟩
theorem nb_end {k : Kd} (hK : KOk k) {s : Span} : nbV k s k.steps.length = best k s ∧ nbW k s k.steps.length = widthAt k s (best k s) := by
  have := hK.l0; unfold nbV nbW best; rw [if_neg (by omega), if_neg (by omega)]; exact ⟨rfl, rfl⟩
/-- the greatest width after j results -/
def wst (k : Kd) (s : Span) (v : Int) (j : Nat) : Int := if j = 0 then -1 else if j = 1 then max (-1) (agreed k s v true).width else max (max (-1) (agreed k s v true).width) (agreed k s v false).width
theorem wst_2 {k : Kd} (hK : KOk k) {s : Span} (hs : spanOk s) (hl : s.lo ≤ s.hi) (h0 : 0 ≤ s.lo) {v : Int} (hv : voltOk k v = true) : wst k s v 2 = widthAt k s v := by
  have h := width_bd hK hs hl h0 hv; unfold wst widthAt at *
  simp only [Nat.reduceEqDiff, if_false]
  simp
  omega
theorem width_in {k : Kd} (hK : KOk k) {s : Span} (hs : spanOk s) {v : Int} (hv : voltOk k v = true) (p : Bool) : -2000000 ≤ (agreed k s v p).hi - (agreed k s v p).lo ∧ (agreed k s v p).hi - (agreed k s v p).lo ≤ 2000000 := by
  obtain ⟨⟨h1, h2⟩, h3, h4⟩ := agreed_ok (p := p) hK hs hv
  omega

set_option maxRecDepth 100000 in
set_option maxHeartbeats 1000000 in
theorem qnext_any (k : Kd) (a : Option Addr) (c : Nat) (ac : Option Addr) (cc : Nat) (cs : List MCk) (h : Int) (w : World) (hN : -9223372036854775808 ≤ k.new ∧ k.new ≤ 9223372036854775807) (hsl : k.steps.length ≤ 9223372036854775807) (hR : RdSteps w a k.steps) (hRc : RdCks w ac cs) (hlc : cs.length ≤ 9223372036854775807) :
    Calls Try.prog 27 #[.agg #[.int .i64 k.new, .int .i64 k.wear.lo, .int .i64 k.wear.hi, .slice a k.steps.length c], .slice ac cs.length cc, .int .i64 h] w (fun e w' => e = .returned (.tuple #[.int .i64 (nextRes k cs h).1, .int .i64 (nextRes k cs h).2.1, .int .i64 (nextRes k cs h).2.2]) ∧ Below w.heap.size w w') := by
 have HR := hid hR; have HN := hid hN; have HRc := hid hRc; clear hR hN hRc
 refine enter_F Try.func27 rfl Try.ntmps27 (by simp) ?_
 intro s0 hs; have sl0 : s0 0 = .agg #[.int .i64 k.new, .int .i64 k.wear.lo, .int .i64 k.wear.hi, .slice a k.steps.length c] := hs 0 (by simp); have sl1 : s0 1 = .slice ac cs.length cc := hs 1 (by simp); have sl2 : s0 2 = .int .i64 h := hs 2 (by simp); clear hs; have HB := hid (OldB.refl [] w)
 repeat ((fail_if_success refine stp ?_); with_reducible go_step)
 refine region_F ?_; refine pa (fun w1 B3 hB kb3' hb2 => ?_); have gb3 := HB.out.gB hB; have eb3 := eB hB; clear hB; replace HB := hid (HB.out.below hb2); clear hb2; have kb3 := kb3'; clear kb3'; have qb3 := kb3.1
 iterate 3 refine pl ?_
 refine listF_abs (fun s3 z' => ?_); replace sl1 := gs 1 z' sl1; replace sl2 := gs 2 z' sl2; have sl3 := gu 3 z'; have sl6 := gu 6 z'; clear z' sl0; refine listF_nil ?_
 repeat ((fail_if_success refine stp ?_); with_reducible go_step)
 refine region_F ?_; have cb3_0 := kb3.cell 0 rfl; have cb3_1 := kb3.cell 1 rfl; have cb3_2 := kb3.cell 2 rfl; have cb3_3 := kb3.cell 3 rfl
 iterate 3 refine pl ?_
 by_cases ha : (asked k cs h).2 = 0
 ·skip
  obtain ⟨hK, _, hsp, hlh, hh1, hh2, hlo0, hhi0⟩ := asked_in ha; have HK := hid hK; have Hsp := hid hsp; have Ha := hid ha; clear ha hK hsp; refine listF_step rfl (fun K' hK => ?_); unfold opF; go_simp; refine (look_ok k a c ac cc cs h _ HN.out hsl (Rd.oldB HR.out HB.out (by simp)) (Rd.oldB HRc.out HB.out (by simp)) hlc Ha.out).mono ?_; rintro e w4 ⟨V, rfl, gV', hV', hb5⟩
  have gV : w.heap.size ≤ V := by have := HB.out.size; omega
  have ob3_V : B3 < V := by have := gV'; omega
  refine ⟨_, rfl, hK _ _ ?_⟩; clear hK K'; clear cb3_0 cb3_1 cb3_2 cb3_3; clear qb3; replace kb3 := kb3.at hb5; replace HB := hid (HB.out.below hb5); clear hb5; have qb3 := kb3.1; have kV := hV'; clear hV'; have qV := kV.1
  iterate 5 refine pl ?_
  refine listF_abs (fun s6 z' => ?_); replace sl3 := gs 3 z' sl3; replace sl6 := gs 6 z' sl6; have sl8 := gu 8 z'; have sl9 := gu 9 z'; clear z' sl1 sl2; refine listF_nil ?_
  repeat ((fail_if_success refine stp ?_); with_reducible go_step)
  refine region_F ?_; refine pl ?_; refine pl ?_; refine listF_abs (fun s7 z' => ?_); replace sl3 := gs 3 z' sl3; replace sl6 := gs 6 z' sl6; replace sl8 := gs 8 z' sl8; replace sl9 := gs 9 z' sl9; have sl24 := gu 24 z'; clear z'; refine listF_nil ?_
  repeat ((fail_if_success refine stp ?_); with_reducible go_step)
  refine cond_f ?_
  repeat ((fail_if_success refine stp ?_); with_reducible go_step)
  refine region_F ?_; refine pl ?_; refine listF_abs (fun s8 z' => ?_); replace sl3 := gs 3 z' sl3; replace sl6 := gs 6 z' sl6; have sl7 := gu 7 z'; replace sl9 := gs 9 z' sl9; clear z' sl8 sl24; refine listF_nil ?_
  repeat ((fail_if_success refine stp ?_); with_reducible go_step)
  refine region_F ?_; refine pl ?_; have hsl8 := HK.out.l1; have cb3_0 := kb3.cell 0 rfl; have cb3_1 := kb3.cell 1 rfl; have cb3_2 := kb3.cell 2 rfl; have cb3_3 := kb3.cell 3 rfl
  iterate 3 refine pl ?_
  refine listF_abs (fun s9 z' => ?_); replace sl6 := gs 6 z' sl6; replace sl7 := gs 7 z' sl7; replace sl9 := gs 9 z' sl9; have sl27 := gu 27 z'; have sl28 := gu 28 z'; have sl29 := gu 29 z'; clear z' sl3; refine listF_nil ?_
  repeat ((fail_if_success refine stp ?_); with_reducible go_step)
  clear cb3_0 cb3_1 cb3_2 cb3_3; have hc0_9 := hid sl9; have hc0_27 := hid sl27; have hc0_28 := hid sl28; refine loop_F (n := 61) (fun kJ sJ wJ => ∃ (i : Nat), kJ = k.steps.length - i ∧ sJ 6 = .int .i64 (nbV k (asked k cs h).1 i) ∧ sJ 7 = .int .i64 (nbW k (asked k cs h).1 i) ∧ sJ 29 = .int .i64 (i : Int) ∧ sJ 9 = s9 9 ∧ sJ 27 = s9 27 ∧ sJ 28 = s9 28 ∧ OldB [] w4 wJ ∧ i ≤ k.steps.length) ⟨0, rfl, (by first | exact sl6 | (rw [sl6]; go_num) | (rw [sl6]; rfl)), (by first | exact sl7 | (rw [sl7]; go_num) | (rw [sl7]; rfl)), (by first | exact sl29 | (rw [sl29]; go_num) | (rw [sl29]; rfl)), rfl, rfl, rfl, OldB.refl _ _, Nat.zero_le _⟩ ?_; clear sl6 sl7 sl29; rintro kJ s10 w11 ⟨i, rfl, sl6, sl7, sl29, e9, e27, e28, hb12, hil⟩; replace sl9 := e9.trans sl9; clear e9; replace sl27 := e27.trans sl27; clear e27; replace sl28 := e28.trans sl28; clear e28; have hoJ := hb12; clear qb3 qV; replace kb3 := kb3.oldB hb12 (by first | (simp; done) | (simp; omega))
  replace kV := kV.oldB hb12 (by first | (simp; done) | (simp; omega)); replace HB := hid (HB.out.more hb12 (by simp; try omega)); clear hb12; have qb3 := kb3.1; have qV := kV.1; have HoJ := hid hoJ; clear hoJ; have HL13 := HoJ; clear HoJ
  repeat ((fail_if_success refine stp ?_); with_reducible go_step)
  refine region_F ?_; refine pl ?_; refine listF_abs (fun s14 z' => ?_); replace sl6 := gs 6 z' sl6; replace sl7 := gs 7 z' sl7; replace sl9 := gs 9 z' sl9; replace sl27 := gs 27 z' sl27; replace sl28 := gs 28 z' sl28; replace sl29 := gs 29 z' sl29; have sl30 := gu 30 z'; clear z'; refine listF_nil ?_
  repeat ((fail_if_success refine stp ?_); with_reducible go_step)
  refine cond_E sl30 (by decide) ?_ ?_ <;> (clear sl30; intro h30 sl30)
  ·skip
   have hlt : i < k.steps.length := by simpa using h30
   obtain ⟨b, off, rfl, hbs, c0, c1⟩ := RdSteps.ne (Rd.oldB HR.out HB.out (by simp)) hlt; have Hvo := hid (needed_at HK.out hlt).1; obtain ⟨hnb1, hnb2⟩ := nb_succ HK.out Hsp.out hlh hlo0 hlt; have Hnb1 := hid hnb1; have Hnb2 := hid hnb2; clear hnb1 hnb2
   repeat ((fail_if_success refine stp ?_); with_reducible go_step)
   refine region_F ?_; refine pl ?_; refine pl ?_; refine pa (fun w15 B11 hB kb11' hb16 => ?_); have gb11 := HB.out.gB hB; have lHL13_b11 := HL13.out.gB hB; have ob3_b11 := oB qb3 hB; have oV_b11 := oB qV hB; have eb11 := eB hB; clear hB; clear qb3 qV; replace kb3 := kb3.at hb16; replace kV := kV.at hb16; replace HL13 := hid (HL13.out.below hb16); replace HB := hid (HB.out.below hb16); clear hb16; have qb3 := kb3.1; have qV := kV.1; have kb11 := kb11'; clear kb11'; have qb11 := kb11.1; have cb11_0 := kb11.cell 0 rfl; have cb11_1 := kb11.cell 1 rfl; have zb11 := kb11.2.2; refine pl ?_; refine listF_absw (fun w17 hw' => ?_); have kb11' := cells_of hw' (Cells.set (i := 1) (Cells.set (i := 0) (kb11)))
   (try simp only [vC, List.set_cons_zero, List.set_cons_succ] at kb11')
   have hb18 : OldB [B11] w15 w17 := oldset hw'; clear hw'; clear cb11_0 cb11_1 zb11; clear qb3 qV qb11; replace kb11 := kb11'; replace kb3 := kb3.oldB hb18 (by first | (simp; done) | (simp; omega)); replace kV := kV.oldB hb18 (by first | (simp; done) | (simp; omega)); replace HL13 := hid (HL13.out.more hb18 (by simp; try omega)); replace HB := hid (HB.out.more hb18 (by simp; try omega)); clear hb18; have qb3 := kb3.1; have qV := kV.1; have qb11 := kb11.1; clear kb11'; refine listF_abs (fun s19 z' => ?_); replace sl6 := gs 6 z' sl6; replace sl7 := gs 7 z' sl7; replace sl9 := gs 9 z' sl9; have sl11 := gu 11 z'; replace sl27 := gs 27 z' sl27; replace sl28 := gs 28 z' sl28; replace sl29 := gs 29 z' sl29; clear z' sl30; refine listF_nil ?_
   repeat ((fail_if_success refine stp ?_); with_reducible go_step)
   refine region_F ?_; refine pl ?_; refine listF_abs (fun s20 z' => ?_); replace sl6 := gs 6 z' sl6; replace sl7 := gs 7 z' sl7; replace sl9 := gs 9 z' sl9; replace sl11 := gs 11 z' sl11; have sl12 := gu 12 z'; replace sl27 := gs 27 z' sl27; replace sl28 := gs 28 z' sl28; replace sl29 := gs 29 z' sl29; clear z'; refine listF_nil ?_
   repeat ((fail_if_success refine stp ?_); with_reducible go_step)
   refine region_F ?_; refine pas (fun w21 B33 hB kb33' hb22 => ?_); have gb33 := HB.out.gB hB; have lHL13_b33 := HL13.out.gB hB; have ob3_b33 := oB qb3 hB; have oV_b33 := oB qV hB; have ob11_b33 := oB qb11 hB; have eb33 := eB hB; clear hB; clear qb3 qV qb11; replace kb3 := kb3.at hb22; replace kV := kV.at hb22; replace kb11 := kb11.at hb22; replace HL13 := hid (HL13.out.below hb22); replace HB := hid (HB.out.below hb22); clear hb22; have qb3 := kb3.1; have qV := kV.1; have qb11 := kb11.1; have kb33 := kb33'; clear kb33'; have qb33 := kb33.1; refine pl ?_; refine pl ?_; refine listF_abs (fun s23 z' => ?_); replace sl6 := gs 6 z' sl6; replace sl7 := gs 7 z' sl7; replace sl9 := gs 9 z' sl9; replace sl11 := gs 11 z' sl11; replace sl12 := gs 12 z' sl12; replace sl27 := gs 27 z' sl27; replace sl28 := gs 28 z' sl28; replace sl29 := gs 29 z' sl29; have sl33 := gu 33 z'; have sl34 := gu 34 z'; have sl35 := gu 35 z'; clear z'; refine listF_nil ?_
   repeat ((fail_if_success refine stp ?_); with_reducible go_step)
   have hc1_6 := hid sl6; have hc1_7 := hid sl7; have hc1_9 := hid sl9; have hc1_11 := hid sl11; have hc1_27 := hid sl27; have hc1_28 := hid sl28; have hc1_29 := hid sl29; have hc1_33 := hid sl33; have hc1_34 := hid sl34; refine loop_F (n := 61) (fun kJ sJ wJ => ∃ (j : Nat), kJ = 2 - j ∧ sJ 12 = .int .i64 (wst k (asked k cs h).1 k.steps[i].volt j) ∧ sJ 35 = .int .i64 (j : Int) ∧ sJ 6 = s23 6 ∧ sJ 7 = s23 7 ∧ sJ 9 = s23 9 ∧ sJ 11 = s23 11 ∧ sJ 27 = s23 27 ∧ sJ 28 = s23 28 ∧ sJ 29 = s23 29 ∧ sJ 33 = s23 33 ∧ sJ 34 = s23 34 ∧ OldB [] w21 wJ ∧ j ≤ 2) ⟨0, rfl, (by first | exact sl12 | (rw [sl12]; go_num) | (rw [sl12]; rfl)), (by first | exact sl35 | (rw [sl35]; go_num) | (rw [sl35]; rfl)), rfl, rfl, rfl, rfl, rfl, rfl, rfl, rfl, rfl, OldB.refl _ _, by omega⟩ ?_; clear sl12 sl35; rintro kJ s24 w25 ⟨j, rfl, sl12, sl35, e6, e7, e9, e11, e27, e28, e29, e33, e34, hb26, hj2⟩; replace sl6 := e6.trans sl6; clear e6; replace sl7 := e7.trans sl7; clear e7
   replace sl9 := e9.trans sl9; clear e9; replace sl11 := e11.trans sl11; clear e11; replace sl27 := e27.trans sl27; clear e27; replace sl28 := e28.trans sl28; clear e28; replace sl29 := e29.trans sl29; clear e29; replace sl33 := e33.trans sl33; clear e33; replace sl34 := e34.trans sl34; clear e34; have hoJ := hb26; clear qb3 qV qb11 qb33; replace kb3 := kb3.oldB hb26 (by first | (simp; done) | (simp; omega)); replace kV := kV.oldB hb26 (by first | (simp; done) | (simp; omega)); replace kb11 := kb11.oldB hb26 (by first | (simp; done) | (simp; omega)); replace kb33 := kb33.oldB hb26 (by first | (simp; done) | (simp; omega)); replace HL13 := hid (HL13.out.more hb26 (by simp; try omega)); replace HB := hid (HB.out.more hb26 (by simp; try omega)); clear hb26; have qb3 := kb3.1; have qV := kV.1; have qb11 := kb11.1; have qb33 := kb33.1; have HoJ := hid hoJ; clear hoJ; have HL27 := HoJ; clear HoJ
   repeat ((fail_if_success refine stp ?_); with_reducible go_step)
   refine region_F ?_; refine pl ?_; refine listF_abs (fun s28 z' => ?_); replace sl6 := gs 6 z' sl6; replace sl7 := gs 7 z' sl7; replace sl9 := gs 9 z' sl9; replace sl11 := gs 11 z' sl11; replace sl12 := gs 12 z' sl12; replace sl27 := gs 27 z' sl27; replace sl28 := gs 28 z' sl28; replace sl29 := gs 29 z' sl29; replace sl33 := gs 33 z' sl33; replace sl34 := gs 34 z' sl34; replace sl35 := gs 35 z' sl35; have sl36 := gu 36 z'; clear z'; refine listF_nil ?_
   repeat ((fail_if_success refine stp ?_); with_reducible go_step)
   refine cond_E sl36 (by decide) ?_ ?_ <;> (clear sl36; intro h36 sl36)
   ·skip
    have hj : j < 2 := by simp at h36; omega
    repeat ((fail_if_success refine stp ?_); with_reducible go_step)
    obtain rfl | rfl : j = 0 ∨ j = 1 := by omega
    ·skip
     refine region_F ?_; refine pl ?_; have u33_0 := kb33.cell 0 rfl; have u33_1 := kb33.cell 1 rfl; refine pl ?_; refine pl ?_; refine listF_abs (fun s29 z' => ?_); replace sl6 := gs 6 z' sl6; replace sl7 := gs 7 z' sl7; replace sl9 := gs 9 z' sl9; replace sl11 := gs 11 z' sl11; replace sl12 := gs 12 z' sl12; have sl14 := gu 14 z'; replace sl27 := gs 27 z' sl27; replace sl28 := gs 28 z' sl28; replace sl29 := gs 29 z' sl29; replace sl33 := gs 33 z' sl33; replace sl34 := gs 34 z' sl34; replace sl35 := gs 35 z' sl35; clear z' sl36; refine listF_nil ?_
     repeat ((fail_if_success refine stp ?_); with_reducible go_step)
     refine region_F ?_; refine pl ?_; refine pl ?_; have cb11_0 := kb11.cell 0 rfl; have cb11_1 := kb11.cell 1 rfl; refine pl ?_; refine pl ?_; refine listF_step rfl (fun K' hK => ?_); unfold opF; go_simp; refine (result_any V k _ c (asked k cs h).1 h k.steps[i].volt true _ kV (Rd.oldB HR.out HB.out (by simp)) HK.out Hvo.out).mono ?_; rintro e w30 ⟨rfl, hb31⟩; refine ⟨_, rfl, hK _ _ ?_⟩; clear hK K'; clear cb11_0 cb11_1; clear qb3 qV qb11 qb33; replace kb3 := kb3.at hb31; replace kV := kV.at hb31; replace kb11 := kb11.at hb31; replace kb33 := kb33.at hb31; replace HL13 := hid (HL13.out.below hb31); replace HL27 := hid (HL27.out.below hb31); replace HB := hid (HB.out.below hb31); clear hb31; have qb3 := kb3.1; have qV := kV.1; have qb11 := kb11.1; have qb33 := kb33.1; refine pa (fun w32 B15 hB kb15' hb33 => ?_); have gb15 := HB.out.gB hB; have lHL13_b15 := HL13.out.gB hB; have lHL27_b15 := HL27.out.gB hB; have ob3_b15 := oB qb3 hB; have oV_b15 := oB qV hB
     have ob11_b15 := oB qb11 hB; have ob33_b15 := oB qb33 hB; have eb15 := eB hB; clear hB; clear qb3 qV qb11 qb33; replace kb3 := kb3.at hb33; replace kV := kV.at hb33; replace kb11 := kb11.at hb33; replace kb33 := kb33.at hb33; replace HL13 := hid (HL13.out.below hb33); replace HL27 := hid (HL27.out.below hb33); replace HB := hid (HB.out.below hb33); clear hb33; have qb3 := kb3.1; have qV := kV.1; have qb11 := kb11.1; have qb33 := kb33.1; have kb15 := kb15'; clear kb15'; have qb15 := kb15.1; have cb15_0 := kb15.cell 0 rfl; have cb15_1 := kb15.cell 1 rfl; have zb15 := kb15.2.2; refine pl ?_; refine listF_absw (fun w34 hw' => ?_); have kb15' := cells_of hw' (Cells.set (i := 1) (Cells.set (i := 0) (kb15)))
     (try simp only [vC, List.set_cons_zero, List.set_cons_succ] at kb15')
     have hb35 : OldB [B15] w32 w34 := oldset hw'; clear hw'; clear cb15_0 cb15_1 zb15; clear qb3 qV qb11 qb33 qb15; replace kb15 := kb15'; replace kb3 := kb3.oldB hb35 (by first | (simp; done) | (simp; omega)); replace kV := kV.oldB hb35 (by first | (simp; done) | (simp; omega)); replace kb11 := kb11.oldB hb35 (by first | (simp; done) | (simp; omega)); replace kb33 := kb33.oldB hb35 (by first | (simp; done) | (simp; omega)); replace HL13 := hid (HL13.out.more hb35 (by simp; try omega)); replace HL27 := hid (HL27.out.more hb35 (by simp; try omega)); replace HB := hid (HB.out.more hb35 (by simp; try omega)); clear hb35; have qb3 := kb3.1; have qV := kV.1; have qb11 := kb11.1; have qb33 := kb33.1; have qb15 := kb15.1; clear kb15'; refine listF_abs (fun s36 z' => ?_); replace sl6 := gs 6 z' sl6; replace sl7 := gs 7 z' sl7; replace sl9 := gs 9 z' sl9; replace sl11 := gs 11 z' sl11; replace sl12 := gs 12 z' sl12; have sl15 := gu 15 z'
     replace sl27 := gs 27 z' sl27; replace sl28 := gs 28 z' sl28; replace sl29 := gs 29 z' sl29; replace sl33 := gs 33 z' sl33; replace sl34 := gs 34 z' sl34; replace sl35 := gs 35 z' sl35; clear z' sl14; refine listF_nil ?_
     repeat ((fail_if_success refine stp ?_); with_reducible go_step)
     refine region_F ?_; refine pl ?_; refine pl ?_; have cb15_0 := kb15.cell 0 rfl; have cb15_1 := kb15.cell 1 rfl
     iterate 3 refine pl ?_
     have hwi := width_in HK.out Hsp.out Hvo.out true; have wwi : IntKind.i64.wrap (_ - _) = _ := IntWalk.i64_in _ (show -9223372036854775808 ≤ (agreed k (asked k cs h).1 k.steps[i].volt true).hi - (agreed k (asked k cs h).1 k.steps[i].volt true).lo ∧ (agreed k (asked k cs h).1 k.steps[i].volt true).hi - (agreed k (asked k cs h).1 k.steps[i].volt true).lo ≤ 9223372036854775807 by omega)
     iterate 3 refine pl ?_
     refine listF_abs (fun s37 z' => ?_); replace sl6 := gs 6 z' sl6; replace sl7 := gs 7 z' sl7; replace sl9 := gs 9 z' sl9; replace sl11 := gs 11 z' sl11; replace sl12 := gu 12 z'; replace sl27 := gs 27 z' sl27; replace sl28 := gs 28 z' sl28; replace sl29 := gs 29 z' sl29; replace sl33 := gs 33 z' sl33; replace sl34 := gs 34 z' sl34; replace sl35 := gs 35 z' sl35; clear z' sl15; refine listF_nil ?_
     repeat ((fail_if_success refine stp ?_); with_reducible go_step)
     refine region_F ?_; refine pl ?_; refine pl ?_; refine listF_abs (fun s38 z' => ?_); replace sl6 := gs 6 z' sl6; replace sl7 := gs 7 z' sl7; replace sl9 := gs 9 z' sl9; replace sl11 := gs 11 z' sl11; replace sl12 := gs 12 z' sl12; replace sl27 := gs 27 z' sl27; replace sl28 := gs 28 z' sl28; replace sl29 := gs 29 z' sl29; replace sl33 := gs 33 z' sl33; replace sl34 := gs 34 z' sl34; replace sl35 := gu 35 z'; clear z'; refine listF_nil ?_
     repeat ((fail_if_success refine stp ?_); with_reducible go_step)
     clear cb15_0 cb15_1; refine ⟨_, _, rfl, ?_, 1, rfl, (by rw [sl12]; congr 1; unfold wst Span.width; simp; omega), (by first | (with_reducible exact sl35) | (rw [sl35]; (with_reducible go_num); done) | (rw [sl35, IntWalk.i64_in] <;> first | ((with_reducible go_num); done) | omega) | (rw [sl35]; go_num; done) | (rw [sl35]; simp; done) | (rw [sl35]; simp; omega)), (sl6.trans hc1_6.out.symm), (sl7.trans hc1_7.out.symm), (sl9.trans hc1_9.out.symm), (sl11.trans hc1_11.out.symm), (sl27.trans hc1_27.out.symm), (sl28.trans hc1_28.out.symm), (sl29.trans hc1_29.out.symm), (sl33.trans hc1_33.out.symm), (sl34.trans hc1_34.out.symm), HL27.out, by omega⟩
     omega
    ·skip
     refine region_F ?_; refine pl ?_; have u33_0 := kb33.cell 0 rfl; have u33_1 := kb33.cell 1 rfl; refine pl ?_; refine pl ?_; refine listF_abs (fun s39 z' => ?_); replace sl6 := gs 6 z' sl6; replace sl7 := gs 7 z' sl7; replace sl9 := gs 9 z' sl9; replace sl11 := gs 11 z' sl11; replace sl12 := gs 12 z' sl12; have sl14 := gu 14 z'; replace sl27 := gs 27 z' sl27; replace sl28 := gs 28 z' sl28; replace sl29 := gs 29 z' sl29; replace sl33 := gs 33 z' sl33; replace sl34 := gs 34 z' sl34; replace sl35 := gs 35 z' sl35; clear z' sl36; refine listF_nil ?_
     repeat ((fail_if_success refine stp ?_); with_reducible go_step)
     refine region_F ?_; refine pl ?_; refine pl ?_; have cb11_0 := kb11.cell 0 rfl; have cb11_1 := kb11.cell 1 rfl; refine pl ?_; refine pl ?_; refine listF_step rfl (fun K' hK => ?_); unfold opF; go_simp; refine (result_any V k _ c (asked k cs h).1 h k.steps[i].volt false _ kV (Rd.oldB HR.out HB.out (by simp)) HK.out Hvo.out).mono ?_; rintro e w40 ⟨rfl, hb41⟩; refine ⟨_, rfl, hK _ _ ?_⟩; clear hK K'; clear cb11_0 cb11_1; clear qb3 qV qb11 qb33; replace kb3 := kb3.at hb41; replace kV := kV.at hb41; replace kb11 := kb11.at hb41; replace kb33 := kb33.at hb41; replace HL13 := hid (HL13.out.below hb41); replace HL27 := hid (HL27.out.below hb41); replace HB := hid (HB.out.below hb41); clear hb41; have qb3 := kb3.1; have qV := kV.1; have qb11 := kb11.1; have qb33 := kb33.1; refine pa (fun w42 B15 hB kb15' hb43 => ?_); have gb15 := HB.out.gB hB; have lHL13_b15 := HL13.out.gB hB; have lHL27_b15 := HL27.out.gB hB; have ob3_b15 := oB qb3 hB; have oV_b15 := oB qV hB
     have ob11_b15 := oB qb11 hB; have ob33_b15 := oB qb33 hB; have eb15 := eB hB; clear hB; clear qb3 qV qb11 qb33; replace kb3 := kb3.at hb43; replace kV := kV.at hb43; replace kb11 := kb11.at hb43; replace kb33 := kb33.at hb43; replace HL13 := hid (HL13.out.below hb43); replace HL27 := hid (HL27.out.below hb43); replace HB := hid (HB.out.below hb43); clear hb43; have qb3 := kb3.1; have qV := kV.1; have qb11 := kb11.1; have qb33 := kb33.1; have kb15 := kb15'; clear kb15'; have qb15 := kb15.1; have cb15_0 := kb15.cell 0 rfl; have cb15_1 := kb15.cell 1 rfl; have zb15 := kb15.2.2; refine pl ?_; refine listF_absw (fun w44 hw' => ?_); have kb15' := cells_of hw' (Cells.set (i := 1) (Cells.set (i := 0) (kb15)))
     (try simp only [vC, List.set_cons_zero, List.set_cons_succ] at kb15')
     have hb45 : OldB [B15] w42 w44 := oldset hw'; clear hw'; clear cb15_0 cb15_1 zb15; clear qb3 qV qb11 qb33 qb15; replace kb15 := kb15'; replace kb3 := kb3.oldB hb45 (by first | (simp; done) | (simp; omega)); replace kV := kV.oldB hb45 (by first | (simp; done) | (simp; omega)); replace kb11 := kb11.oldB hb45 (by first | (simp; done) | (simp; omega)); replace kb33 := kb33.oldB hb45 (by first | (simp; done) | (simp; omega)); replace HL13 := hid (HL13.out.more hb45 (by simp; try omega)); replace HL27 := hid (HL27.out.more hb45 (by simp; try omega)); replace HB := hid (HB.out.more hb45 (by simp; try omega)); clear hb45; have qb3 := kb3.1; have qV := kV.1; have qb11 := kb11.1; have qb33 := kb33.1; have qb15 := kb15.1; clear kb15'; refine listF_abs (fun s46 z' => ?_); replace sl6 := gs 6 z' sl6; replace sl7 := gs 7 z' sl7; replace sl9 := gs 9 z' sl9; replace sl11 := gs 11 z' sl11; replace sl12 := gs 12 z' sl12; have sl15 := gu 15 z'
     replace sl27 := gs 27 z' sl27; replace sl28 := gs 28 z' sl28; replace sl29 := gs 29 z' sl29; replace sl33 := gs 33 z' sl33; replace sl34 := gs 34 z' sl34; replace sl35 := gs 35 z' sl35; clear z' sl14; refine listF_nil ?_
     repeat ((fail_if_success refine stp ?_); with_reducible go_step)
     refine region_F ?_; refine pl ?_; refine pl ?_; have cb15_0 := kb15.cell 0 rfl; have cb15_1 := kb15.cell 1 rfl
     iterate 3 refine pl ?_
     have hwi := width_in HK.out Hsp.out Hvo.out false; have wwi : IntKind.i64.wrap (_ - _) = _ := IntWalk.i64_in _ (show -9223372036854775808 ≤ (agreed k (asked k cs h).1 k.steps[i].volt false).hi - (agreed k (asked k cs h).1 k.steps[i].volt false).lo ∧ (agreed k (asked k cs h).1 k.steps[i].volt false).hi - (agreed k (asked k cs h).1 k.steps[i].volt false).lo ≤ 9223372036854775807 by omega)
     iterate 3 refine pl ?_
     refine listF_abs (fun s47 z' => ?_); replace sl6 := gs 6 z' sl6; replace sl7 := gs 7 z' sl7; replace sl9 := gs 9 z' sl9; replace sl11 := gs 11 z' sl11; replace sl12 := gu 12 z'; replace sl27 := gs 27 z' sl27; replace sl28 := gs 28 z' sl28; replace sl29 := gs 29 z' sl29; replace sl33 := gs 33 z' sl33; replace sl34 := gs 34 z' sl34; replace sl35 := gs 35 z' sl35; clear z' sl15; refine listF_nil ?_
     repeat ((fail_if_success refine stp ?_); with_reducible go_step)
     refine region_F ?_; refine pl ?_; refine pl ?_; refine listF_abs (fun s48 z' => ?_); replace sl6 := gs 6 z' sl6; replace sl7 := gs 7 z' sl7; replace sl9 := gs 9 z' sl9; replace sl11 := gs 11 z' sl11; replace sl12 := gs 12 z' sl12; replace sl27 := gs 27 z' sl27; replace sl28 := gs 28 z' sl28; replace sl29 := gs 29 z' sl29; replace sl33 := gs 33 z' sl33; replace sl34 := gs 34 z' sl34; replace sl35 := gu 35 z'; clear z'; refine listF_nil ?_
     repeat ((fail_if_success refine stp ?_); with_reducible go_step)
     clear cb15_0 cb15_1; refine ⟨_, _, rfl, ?_, 2, rfl, (by rw [sl12]; congr 1; unfold wst Span.width; simp; omega), (by first | (with_reducible exact sl35) | (rw [sl35]; (with_reducible go_num); done) | (rw [sl35, IntWalk.i64_in] <;> first | ((with_reducible go_num); done) | omega) | (rw [sl35]; go_num; done) | (rw [sl35]; simp; done) | (rw [sl35]; simp; omega)), (sl6.trans hc1_6.out.symm), (sl7.trans hc1_7.out.symm), (sl9.trans hc1_9.out.symm), (sl11.trans hc1_11.out.symm), (sl27.trans hc1_27.out.symm), (sl28.trans hc1_28.out.symm), (sl29.trans hc1_29.out.symm), (sl33.trans hc1_33.out.symm), (sl34.trans hc1_34.out.symm), HL27.out, by omega⟩
     omega
   ·skip
    have hj : ¬ j < 2 := by simp at h36; omega
    obtain rfl : 2 = j := by omega
    have Hw2 := hid (wst_2 HK.out Hsp.out hlh hlo0 Hvo.out); rw [Hw2.out] at sl12
    repeat ((fail_if_success refine stp ?_); with_reducible go_step)
    clear HL27; clear hc1_6 hc1_7 hc1_9 hc1_11 hc1_27 hc1_28 hc1_29 hc1_33 hc1_34; refine region_F ?_
    iterate 3 refine pl ?_
    refine listF_abs (fun s49 z' => ?_); replace sl6 := gs 6 z' sl6; replace sl7 := gs 7 z' sl7; replace sl9 := gs 9 z' sl9; replace sl11 := gs 11 z' sl11; replace sl12 := gs 12 z' sl12; replace sl27 := gs 27 z' sl27; replace sl28 := gs 28 z' sl28; replace sl29 := gs 29 z' sl29; have sl54 := gu 54 z'; clear z' sl33 sl34 sl35 sl36; refine listF_nil ?_
    repeat ((fail_if_success refine stp ?_); with_reducible go_step)
    refine cond_E sl54 (by decide) ?_ ?_ <;> (clear sl54; intro h54 sl54)
    ·skip
     have h54' : widthAt k (asked k cs h).1 k.steps[i].volt < nbW k (asked k cs h).1 i := by simpa using h54
     obtain ⟨hv1, hv2⟩ := Hnb1.out h54'; have Hv1 := hid hv1; have Hv2 := hid hv2; clear hv1 hv2
     repeat ((fail_if_success refine stp ?_); with_reducible go_step)
     refine region_F ?_; refine pl ?_; have cb11_0 := kb11.cell 0 rfl; have cb11_1 := kb11.cell 1 rfl
     iterate 4 refine pl ?_
     refine listF_abs (fun s50 z' => ?_); replace sl6 := gu 6 z'; replace sl7 := gu 7 z'; replace sl9 := gs 9 z' sl9; replace sl27 := gs 27 z' sl27; replace sl28 := gs 28 z' sl28; replace sl29 := gs 29 z' sl29; clear z' sl11 sl12 sl54; refine listF_nil ?_
     repeat ((fail_if_success refine stp ?_); with_reducible go_step)
     refine region_F ?_; refine pl ?_; refine pl ?_; refine listF_abs (fun s51 z' => ?_); replace sl6 := gs 6 z' sl6; replace sl7 := gs 7 z' sl7; replace sl9 := gs 9 z' sl9; replace sl27 := gs 27 z' sl27; replace sl28 := gs 28 z' sl28; replace sl29 := gu 29 z'; clear z'; refine listF_nil ?_
     repeat ((fail_if_success refine stp ?_); with_reducible go_step)
     clear cb11_0 cb11_1; refine ⟨_, _, rfl, ?_, i + 1, rfl, (by rw [sl6, Hv1.out]), (by rw [sl7, Hv2.out]), (by first | (with_reducible exact sl29) | (rw [sl29]; (with_reducible go_num); done) | (rw [sl29, IntWalk.i64_in] <;> first | ((with_reducible go_num); done) | omega) | (rw [sl29]; go_num; done) | (rw [sl29]; simp; done) | (rw [sl29]; simp; omega)), (sl9.trans hc0_9.out.symm), (sl27.trans hc0_27.out.symm), (sl28.trans hc0_28.out.symm), HL13.out, by omega⟩
     omega
    ·skip
     have h54' : ¬ widthAt k (asked k cs h).1 k.steps[i].volt < nbW k (asked k cs h).1 i := by simpa using h54
     obtain ⟨hv1, hv2⟩ := Hnb2.out h54'; have Hv1 := hid hv1; have Hv2 := hid hv2; clear hv1 hv2
     repeat ((fail_if_success refine stp ?_); with_reducible go_step)
     refine region_F ?_; refine pl ?_; refine pl ?_; refine listF_abs (fun s52 z' => ?_); replace sl6 := gs 6 z' sl6; replace sl7 := gs 7 z' sl7; replace sl9 := gs 9 z' sl9; replace sl27 := gs 27 z' sl27; replace sl28 := gs 28 z' sl28; replace sl29 := gu 29 z'; clear z' sl11 sl12 sl54; refine listF_nil ?_
     repeat ((fail_if_success refine stp ?_); with_reducible go_step)
     refine ⟨_, _, rfl, ?_, i + 1, rfl, (by rw [sl6, Hv1.out]), (by rw [sl7, Hv2.out]), (by first | (with_reducible exact sl29) | (rw [sl29]; (with_reducible go_num); done) | (rw [sl29, IntWalk.i64_in] <;> first | ((with_reducible go_num); done) | omega) | (rw [sl29]; go_num; done) | (rw [sl29]; simp; done) | (rw [sl29]; simp; omega)), (sl9.trans hc0_9.out.symm), (sl27.trans hc0_27.out.symm), (sl28.trans hc0_28.out.symm), HL13.out, by omega⟩
     omega
  ·skip
   have hge : ¬ i < k.steps.length := by simpa using h30
   have Hie := hid (show i = k.steps.length by omega); obtain ⟨he1, he2⟩ := nb_end HK.out (s := (asked k cs h).1); have He1 := hid he1; have He2 := hid he2; clear he1 he2
   repeat ((fail_if_success refine stp ?_); with_reducible go_step)
   clear HL13; clear hc0_9 hc0_27 hc0_28; refine region_F ?_
   iterate 5 refine pl ?_
   refine listF_abs (fun s53 z' => ?_); replace sl6 := gu 6 z'; replace sl7 := gu 7 z'; have sl8 := gu 8 z'; clear z' sl9 sl27 sl28 sl29 sl30; refine listF_nil ?_
   repeat ((fail_if_success refine stp ?_); with_reducible go_step)
   refine ret_F _ (res_ttt Try.results27 ((getD_F (by decide)).trans sl6) ((getD_F (by decide)).trans sl7) ((getD_F (by decide)).trans sl8)) ?_; refine ⟨?_, HB.out.toBelow⟩; unfold nextRes; rw [if_pos Ha.out, Hie.out, He1.out, He2.out]
 ·skip
  have Ha := hid ha
  have ha1 : ((asked k cs h).2 != 0) = true := by simpa using ha
  have Hz := hid (asked_zero ha); clear ha; refine listF_step rfl (fun K' hK => ?_); unfold opF; go_simp; refine (look_bad k a c ac cc cs h _ HN.out hsl (Rd.oldB HR.out HB.out (by simp)) (Rd.oldB HRc.out HB.out (by simp)) hlc Ha.out).mono ?_; rintro e w54 ⟨rfl, hb55⟩; refine ⟨_, rfl, hK _ _ ?_⟩; clear hK K'; clear cb3_0 cb3_1 cb3_2 cb3_3; clear qb3; replace kb3 := kb3.at hb55; replace HB := hid (HB.out.below hb55); clear hb55; have qb3 := kb3.1
  iterate 5 refine pl ?_
  refine listF_abs (fun s56 z' => ?_); replace sl3 := gs 3 z' sl3; replace sl6 := gs 6 z' sl6; have sl8 := gu 8 z'; have sl9 := gu 9 z'; clear z' sl1 sl2; refine listF_nil ?_
  repeat ((fail_if_success refine stp ?_); with_reducible go_step)
  refine region_F ?_; refine pl ?_; refine pl ?_; refine listF_abs (fun s57 z' => ?_); replace sl3 := gs 3 z' sl3; replace sl6 := gs 6 z' sl6; replace sl8 := gs 8 z' sl8; replace sl9 := gs 9 z' sl9; have sl24 := gu 24 z'; clear z'; refine listF_nil ?_
  repeat ((fail_if_success refine stp ?_); with_reducible go_step)
  refine cond_t ?_
  repeat ((fail_if_success refine stp ?_); with_reducible go_step)
  refine region_F ?_
  iterate 4 refine pl ?_
  refine listF_abs (fun s58 z' => ?_); replace sl6 := gu 6 z'; have sl7 := gu 7 z'; replace sl8 := gu 8 z'; clear z' sl3 sl9 sl24; refine listF_nil ?_
  repeat ((fail_if_success refine stp ?_); with_reducible go_step)
  refine ret_F _ (res_ttt Try.results27 ((getD_F (by decide)).trans sl6) ((getD_F (by decide)).trans sl7) ((getD_F (by decide)).trans sl8)) ?_; exact ⟨by unfold nextRes; rw [if_neg Ha.out], HB.out.toBelow⟩
end

section
open Go.RowKit


theorem RdSteps.get0 {w : World} {b off : Nat} {l : List Stp} (h : RdSteps w (some ⟨b, off, none⟩) l) {k : Nat} (hk : k < l.length) :
    b < w.heap.size ∧ w.cell? ⟨b, off + k * 2, none⟩ = some (.int .i64 l[k].volt) ∧ w.cell? ⟨b, off + k * 2 + 1, none⟩ = some (.int .i64 l[k].need) := by
  obtain ⟨hb, hc⟩ := Rd.get h hk; exact ⟨hb, hc 0 _ rfl, hc 1 _ rfl⟩

set_option maxRecDepth 100000 in
set_option maxHeartbeats 1000000 in
theorem qlife_any (k : Kd) (a : Option Addr) (c : Nat) (n : Int) (w : World) (hN : -9223372036854775808 ≤ k.new ∧ k.new ≤ 9223372036854775807) (hsl : k.steps.length ≤ 9223372036854775807) (hR : RdSteps w a k.steps) :
    Calls Try.prog 29 #[.agg #[.int .i64 k.new, .int .i64 k.wear.lo, .int .i64 k.wear.hi, .slice a k.steps.length c], .int .i64 n] w (fun e w' => e = .returned (.tuple #[.agg #[.int .i64 (lifeRes k n).1.earliest, .int .i64 (lifeRes k n).1.latest], .int .i64 (lifeRes k n).2]) ∧ Below w.heap.size w w') := by
 have HR := hid hR; have HN := hid hN; clear hR hN
 refine enter_F Try.func29 rfl Try.ntmps29 (by simp) ?_
 intro s0 hs; have sl0 : s0 0 = .agg #[.int .i64 k.new, .int .i64 k.wear.lo, .int .i64 k.wear.hi, .slice a k.steps.length c] := hs 0 (by simp); have sl1 : s0 1 = .int .i64 n := hs 1 (by simp); clear hs; have HB := hid (OldB.refl [] w)
 repeat ((fail_if_success refine stp ?_); with_reducible go_step)
 refine region_F ?_; refine pa (fun w1 B2 hB kb2' hb2 => ?_); have gb2 := HB.out.gB hB; have eb2 := eB hB; clear hB; replace HB := hid (HB.out.below hb2); clear hb2; have kb2 := kb2'; clear kb2'; have qb2 := kb2.1; refine pa (fun w3 B4 hB kb4' hb4 => ?_); have gb4 := HB.out.gB hB; have ob2_b4 := oB qb2 hB; have eb4 := eB hB; clear hB; clear qb2; replace kb2 := kb2.at hb4; replace HB := hid (HB.out.below hb4); clear hb4; have qb2 := kb2.1; have kb4 := kb4'; clear kb4'; have qb4 := kb4.1; refine pl ?_; refine listF_abs (fun s5 z' => ?_); replace sl1 := gs 1 z' sl1; have sl2 := gu 2 z'; have sl4 := gu 4 z'; clear z' sl0; refine listF_nil ?_
 repeat ((fail_if_success refine stp ?_); with_reducible go_step)
 refine region_F ?_; have cb2_0 := kb2.cell 0 rfl; have cb2_1 := kb2.cell 1 rfl; have cb2_2 := kb2.cell 2 rfl; have cb2_3 := kb2.cell 3 rfl; refine pl ?_
 by_cases he : kdErr k = 0
 ·skip
  have He := hid he; have HK := hid (kok_of he); clear he; refine listF_step rfl (fun K' hK => ?_); unfold opF; go_simp; refine (open_ok k a c _ HN.out hsl (Rd.oldB HR.out HB.out (by simp)) He.out).mono ?_; rintro e w6 ⟨V, rfl, gV', hV', hb7⟩
  have gV : w.heap.size ≤ V := by have := HB.out.size; omega
  have ob2_V : B2 < V := by have := gV'; omega
  have ob4_V : B4 < V := by have := gV'; omega
  refine ⟨_, rfl, hK _ _ ?_⟩; clear hK K'; clear cb2_0 cb2_1 cb2_2 cb2_3; clear qb2 qb4; replace kb2 := kb2.at hb7; replace kb4 := kb4.at hb7; replace HB := hid (HB.out.below hb7); clear hb7; have qb2 := kb2.1; have qb4 := kb4.1; have kV := hV'; clear hV'; have qV := kV.1
  iterate 5 refine pl ?_
  refine listF_abs (fun s8 z' => ?_); replace sl1 := gs 1 z' sl1; replace sl2 := gs 2 z' sl2; replace sl4 := gs 4 z' sl4; have sl6 := gu 6 z'; have sl7 := gu 7 z'; clear z'; refine listF_nil ?_
  repeat ((fail_if_success refine stp ?_); with_reducible go_step)
  refine region_F ?_
  iterate 3 refine pl ?_
  refine listF_abs (fun s9 z' => ?_); replace sl1 := gs 1 z' sl1; replace sl2 := gs 2 z' sl2; replace sl4 := gs 4 z' sl4; replace sl6 := gs 6 z' sl6; replace sl7 := gs 7 z' sl7; have sl13 := gu 13 z'; clear z'; refine listF_nil ?_
  repeat ((fail_if_success refine stp ?_); with_reducible go_step)
  refine cond_f ?_
  repeat ((fail_if_success refine stp ?_); with_reducible go_step)
  refine region_F ?_; refine pl ?_; have cb2_0 := kb2.cell 0 rfl; have cb2_1 := kb2.cell 1 rfl; have cb2_2 := kb2.cell 2 rfl; have cb2_3 := kb2.cell 3 rfl; refine pl ?_; refine pl ?_; have wl : IntKind.i64.wrap ((k.steps.length : Int) - 1) = (k.steps.length : Int) - 1 := IntWalk.i64_in _ (by omega); refine pl ?_; refine pl ?_; refine pas (fun w10 B24 hB kb24' hb11 => ?_); have gb24 := HB.out.gB hB; have ob2_b24 := oB qb2 hB; have ob4_b24 := oB qb4 hB; have oV_b24 := oB qV hB; have eb24 := eB hB; clear hB; clear cb2_0 cb2_1 cb2_2 cb2_3; clear qb2 qb4 qV; replace kb2 := kb2.at hb11; replace kb4 := kb4.at hb11; replace kV := kV.at hb11; replace HB := hid (HB.out.below hb11); clear hb11; have qb2 := kb2.1; have qb4 := kb4.1; have qV := kV.1; have kb24 := kb24'; clear kb24'; have qb24 := kb24.1; refine listF_step rfl (fun K' hK => ?_); unfold opF; go_simp; refine (out_any ((k.steps.length : Int) - 1) _ _ [n] _ (by simp) (rd1 kb24)).mono ?_; rintro e w12 ⟨rfl, hb13⟩
  refine ⟨_, rfl, hK _ _ ?_⟩; clear hK K'; clear qb2 qb4 qV qb24; replace kb2 := kb2.at hb13; replace kb4 := kb4.at hb13; replace kV := kV.at hb13; replace kb24 := kb24.at hb13; replace HB := hid (HB.out.below hb13); clear hb13; have qb2 := kb2.1; have qb4 := kb4.1; have qV := kV.1; have qb24 := kb24.1; refine pl ?_; refine listF_abs (fun s14 z' => ?_); replace sl1 := gs 1 z' sl1; replace sl2 := gs 2 z' sl2; replace sl4 := gs 4 z' sl4; replace sl6 := gs 6 z' sl6; have sl18 := gu 18 z'; clear z' sl7 sl13; refine listF_nil ?_
  repeat ((fail_if_success refine stp ?_); with_reducible go_step)
  refine cond_E sl18 (by decide) ?_ ?_ <;> (clear sl18; intro h18 sl18)
  ·skip
   have H18 := hid (show inb n 0 ((k.steps.length : Int) - 1) = false by have h := out1_t h18; rw [← inb_iff] at h; simpa using h)
   repeat ((fail_if_success refine stp ?_); with_reducible go_step)
   refine region_F ?_; refine pl ?_; have cb4_0 := kb4.cell 0 rfl; have cb4_1 := kb4.cell 1 rfl; have zb4 := kb4.2.2; refine pl ?_; refine listF_absw (fun w15 hw' => ?_); have kb4' := cells_of hw' (Cells.set (i := 1) (Cells.set (i := 0) (kb4)))
   (try simp only [vC, List.set_cons_zero, List.set_cons_succ] at kb4')
   have hb16 : OldB [B4] w12 w15 := oldset hw'; clear hw'; clear cb4_0 cb4_1 zb4; clear qb2 qb4 qV qb24; replace kb4 := kb4'; replace kb2 := kb2.oldB hb16 (by first | (simp; done) | (simp; omega)); replace kV := kV.oldB hb16 (by first | (simp; done) | (simp; omega)); replace kb24 := kb24.oldB hb16 (by first | (simp; done) | (simp; omega)); replace HB := hid (HB.out.more hb16 (by simp; try omega)); clear hb16; have qb2 := kb2.1; have qb4 := kb4.1; have qV := kV.1; have qb24 := kb24.1; clear kb4'; refine pl ?_; refine listF_abs (fun s17 z' => ?_); replace sl4 := gs 4 z' sl4; have sl5 := gu 5 z'; clear z' sl1 sl2 sl6 sl18; refine listF_nil ?_
   repeat ((fail_if_success refine stp ?_); with_reducible go_step)
   have cb4_0 := kb4.cell 0 rfl; have cb4_1 := kb4.cell 1 rfl; refine ret_F _ (res_ct Try.results29 ((getD_F (by decide)).trans sl4) (load_t37 cb4_0 cb4_1) ((getD_F (by decide)).trans sl5)) ?_; exact ⟨by unfold lifeRes; rw [if_neg (by simp [He.out]), if_pos H18.out]; rfl, HB.out.toBelow⟩
  ·skip
   obtain ⟨hn1, hn2⟩ := out1_f h18; have hl1 := HK.out.l1
   repeat ((fail_if_success refine stp ?_); with_reducible go_step)
   obtain ⟨i, rfl, hi⟩ : ∃ i : Nat, n = (i : Int) ∧ i < k.steps.length := ⟨n.toNat, by omega, by omega⟩; obtain ⟨b, off, rfl, hbs, c0, c1⟩ := RdSteps.ne (Rd.oldB HR.out HB.out (by simp)) hi
   have hi' : (i : Int) < k.steps.length := by omega
   have w1 : IntKind.i64.wrap ((i : Int) + 1) = (i : Int) + 1 := IntWalk.i64_in _ (by omega); have Hin2 := hid (life_in HK.out hi); have Hin := hid (show ¬ inb (i : Int) 0 ((k.steps.length : Int) - 1) = false by rw [(inb_iff _ _ _).2 ⟨by omega, by omega⟩]; decide)
   ·skip
    refine region_F ?_; refine pl ?_; refine pl ?_; have cb2_0 := kb2.cell 0 rfl; have cb2_1 := kb2.cell 1 rfl; have cb2_2 := kb2.cell 2 rfl; have cb2_3 := kb2.cell 3 rfl
    iterate 8 refine pl ?_
    have cV_0 := kV.cell 0 rfl; have cV_1 := kV.cell 1 rfl; have cV_2 := kV.cell 2 rfl; have cV_3 := kV.cell 3 rfl; have cV_4 := kV.cell 4 rfl; have cV_5 := kV.cell 5 rfl; have cV_6 := kV.cell 6 rfl; have zV := kV.2.2; refine pl ?_; refine listF_absw (fun w18 hw' => ?_); have kV' := cells_of hw' (Cells.set (i := 4) (kV))
    (try simp only [vC, List.set_cons_zero, List.set_cons_succ] at kV')
    have hb19 : OldB [V] w12 w18 := oldset hw'; clear hw'; clear cV_0 cV_1 cV_2 cV_3 cV_4 cV_5 cV_6 cb2_0 cb2_1 cb2_2 cb2_3 zV; clear qb2 qb4 qV qb24; replace kV := kV'; replace kb2 := kb2.oldB hb19 (by first | (simp; done) | (simp; omega)); replace kb4 := kb4.oldB hb19 (by first | (simp; done) | (simp; omega)); replace kb24 := kb24.oldB hb19 (by first | (simp; done) | (simp; omega)); replace HB := hid (HB.out.more hb19 (by simp; try omega)); clear hb19; have qb2 := kb2.1; have qb4 := kb4.1; have qV := kV.1; have qb24 := kb24.1; clear kV'; refine listF_abs (fun s20 z' => ?_); replace sl1 := gs 1 z' sl1; replace sl2 := gs 2 z' sl2; replace sl4 := gs 4 z' sl4; replace sl6 := gs 6 z' sl6; clear z' sl18; refine listF_nil ?_
    repeat ((fail_if_success refine stp ?_); with_reducible go_step)
    refine region_F ?_
    iterate 3 refine pl ?_
    have cb2_0 := kb2.cell 0 rfl; have cb2_1 := kb2.cell 1 rfl; have cb2_2 := kb2.cell 2 rfl; have cb2_3 := kb2.cell 3 rfl
    iterate 3 refine pl ?_
    refine listF_abs (fun s21 z' => ?_); replace sl1 := gs 1 z' sl1; replace sl2 := gs 2 z' sl2; replace sl4 := gs 4 z' sl4; replace sl6 := gs 6 z' sl6; have sl42 := gu 42 z'; clear z'; refine listF_nil ?_
    repeat ((fail_if_success refine stp ?_); with_reducible go_step)
    refine cond_E sl42 (by decide) ?_ ?_ <;> (clear sl42; intro h42 sl42)
    ·skip
     have h42' : i + 1 < k.steps.length := by simp at h42; omega
     obtain ⟨_, c2, c3⟩ := RdSteps.get0 (Rd.oldB HR.out HB.out (by simp)) h42'; obtain ⟨hvo, hnd⟩ := needed_at HK.out h42'; have Hvo := hid hvo; have Hnd := hid hnd
     have h42i : (i : Int) + 1 < k.steps.length := by omega
     have e1 : ((i : Int) + 1).toNat = i + 1 := by omega
     clear hvo hnd; have Hls := hid (show lifeSpan k i = ⟨k.steps[i].need, min k.new (k.steps[i + 1].need - 1)⟩ by unfold lifeSpan; rw [if_pos h42', getD_get hi, getD_get h42'])
     repeat ((fail_if_success refine stp ?_); with_reducible go_step)
     refine region_F ?_
     iterate 9 refine pl ?_
     refine listF_step rfl (fun K' hK => ?_); unfold opF; go_simp; refine (result_any V k _ c ⟨k.steps[i].need, k.new⟩ 0 k.steps[i + 1].volt false _ kV (Rd.oldB HR.out HB.out (by simp)) HK.out Hvo.out).mono ?_; rintro e w22 ⟨rfl, hb23⟩; rw [show agreed k ⟨k.steps[i].need, k.new⟩ k.steps[i + 1].volt false = lifeSpan k i by rw [Hls.out]; unfold agreed; simp [Hnd.out]]; refine ⟨_, rfl, hK _ _ ?_⟩; clear hK K'; clear cb2_0 cb2_1 cb2_2 cb2_3; clear qb2 qb4 qV qb24; replace kb2 := kb2.at hb23; replace kb4 := kb4.at hb23; replace kV := kV.at hb23; replace kb24 := kb24.at hb23; replace HB := hid (HB.out.below hb23); clear hb23; have qb2 := kb2.1; have qb4 := kb4.1; have qV := kV.1; have qb24 := kb24.1; refine pl ?_; refine pl ?_; have cV_0 := kV.cell 0 rfl; have cV_1 := kV.cell 1 rfl; have cV_2 := kV.cell 2 rfl; have cV_3 := kV.cell 3 rfl; have cV_4 := kV.cell 4 rfl; have cV_5 := kV.cell 5 rfl; have cV_6 := kV.cell 6 rfl; have zV := kV.2.2; refine pl ?_
     refine listF_absw (fun w24 hw' => ?_); have kV' := cells_of hw' (Cells.set (i := 5) (Cells.set (i := 4) (kV)))
     (try simp only [vC, List.set_cons_zero, List.set_cons_succ] at kV')
     have hb25 : OldB [V] w22 w24 := oldset hw'; clear hw'; clear cV_0 cV_1 cV_2 cV_3 cV_4 cV_5 cV_6 zV; clear qb2 qb4 qV qb24; replace kV := kV'; replace kb2 := kb2.oldB hb25 (by first | (simp; done) | (simp; omega)); replace kb4 := kb4.oldB hb25 (by first | (simp; done) | (simp; omega)); replace kb24 := kb24.oldB hb25 (by first | (simp; done) | (simp; omega)); replace HB := hid (HB.out.more hb25 (by simp; try omega)); clear hb25; have qb2 := kb2.1; have qb4 := kb4.1; have qV := kV.1; have qb24 := kb24.1; clear kV'; refine listF_abs (fun s26 z' => ?_); replace sl4 := gs 4 z' sl4; replace sl6 := gs 6 z' sl6; clear z' sl1 sl2 sl42; refine listF_nil ?_
     repeat ((fail_if_success refine stp ?_); with_reducible go_step)
     have cb2_0 := kb2.cell 0 rfl; have cb2_1 := kb2.cell 1 rfl; have cb2_2 := kb2.cell 2 rfl; have cb2_3 := kb2.cell 3 rfl; have cb4_0 := kb4.cell 0 rfl; have cb4_1 := kb4.cell 1 rfl; have cV_0 := kV.cell 0 rfl; have cV_1 := kV.cell 1 rfl; have cV_2 := kV.cell 2 rfl; have cV_3 := kV.cell 3 rfl; have cV_4 := kV.cell 4 rfl; have cV_5 := kV.cell 5 rfl; have cV_6 := kV.cell 6 rfl; have cb24_0 := kb24.cell 0 rfl; refine regionQ_F (Below w24.heap.size w24) (by kernel_rfl) (by kernel_rfl) (Below.refl _ _).drew ?_
     iterate 11 refine lq ?_
     refine listQ_nil ?_; intro w27 hb28; clear cV_0 cV_1 cV_2 cV_3 cV_4 cV_5 cV_6 cb2_0 cb2_1 cb2_2 cb2_3 cb24_0 cb4_0 cb4_1; clear qb2 qb4 qV qb24; replace kb2 := kb2.at hb28; replace kb4 := kb4.at hb28; replace kV := kV.at hb28; replace kb24 := kb24.at hb28; replace HB := hid (HB.out.below hb28); clear hb28; have qb2 := kb2.1; have qb4 := kb4.1; have qV := kV.1; have qb24 := kb24.1
     repeat ((fail_if_success refine stp ?_); with_reducible go_step)
     refine wp_abs (fun s29 z' => ?_); replace sl4 := gs 4 z' sl4; replace sl6 := gs 6 z' sl6; have sl65 := gu 65 z'; clear z'
     refine cond_E sl65 (by decide) ?_ ?_ <;> (clear sl65; intro h65 sl65)
     ·skip
      have h65' : (lifeSpan k i).hi < (lifeSpan k i).lo := by simpa using h65
      repeat ((fail_if_success refine stp ?_); with_reducible go_step)
      refine region_F ?_; refine pl ?_; have cb4_0 := kb4.cell 0 rfl; have cb4_1 := kb4.cell 1 rfl; have zb4 := kb4.2.2; refine pl ?_; refine listF_absw (fun w30 hw' => ?_); have kb4' := cells_of hw' (Cells.set (i := 1) (Cells.set (i := 0) (kb4)))
      (try simp only [vC, List.set_cons_zero, List.set_cons_succ] at kb4')
      have hb31 : OldB [B4] w27 w30 := oldset hw'; clear hw'; clear cb4_0 cb4_1 zb4; clear qb2 qb4 qV qb24; replace kb4 := kb4'; replace kb2 := kb2.oldB hb31 (by first | (simp; done) | (simp; omega)); replace kV := kV.oldB hb31 (by first | (simp; done) | (simp; omega)); replace kb24 := kb24.oldB hb31 (by first | (simp; done) | (simp; omega)); replace HB := hid (HB.out.more hb31 (by simp; try omega)); clear hb31; have qb2 := kb2.1; have qb4 := kb4.1; have qV := kV.1; have qb24 := kb24.1; clear kb4'; refine pl ?_; refine listF_abs (fun s32 z' => ?_); replace sl4 := gs 4 z' sl4; have sl5 := gu 5 z'; clear z' sl6 sl65; refine listF_nil ?_
      repeat ((fail_if_success refine stp ?_); with_reducible go_step)
      have cb4_0 := kb4.cell 0 rfl; have cb4_1 := kb4.cell 1 rfl; refine ret_F _ (res_ct Try.results29 ((getD_F (by decide)).trans sl4) (load_t37 cb4_0 cb4_1) ((getD_F (by decide)).trans sl5)) ?_; have Hr := hid (show lifeRes k (i : Int) = (Fail.zero, 9) by unfold lifeRes; rw [if_neg (by simp [He.out]), if_neg Hin.out]; simp only [Int.toNat_natCast]; exact if_pos h65'); exact ⟨by rw [Hr.out]; rfl, HB.out.toBelow⟩
     ·skip
      have h65' : ¬ (lifeSpan k i).hi < (lifeSpan k i).lo := by simpa using h65
      repeat ((fail_if_success refine stp ?_); with_reducible go_step)
      refine region_F ?_; refine pl ?_; refine listF_step rfl (fun K' hK => ?_); unfold opF; go_simp; refine (fails_any V k _ c (lifeSpan k i) 0 _ kV (Rd.oldB HR.out HB.out (by simp)) HK.out Hin2.out (by omega)).mono ?_; rintro e w33 ⟨rfl, hb34⟩; refine ⟨_, rfl, hK _ _ ?_⟩; clear hK K'; clear qb2 qb4 qV qb24; replace kb2 := kb2.at hb34; replace kb4 := kb4.at hb34; replace kV := kV.at hb34; replace kb24 := kb24.at hb34; replace HB := hid (HB.out.below hb34); clear hb34; have qb2 := kb2.1; have qb4 := kb4.1; have qV := kV.1; have qb24 := kb24.1; have cb4_0 := kb4.cell 0 rfl; have cb4_1 := kb4.cell 1 rfl; have zb4 := kb4.2.2; refine pl ?_; refine listF_absw (fun w35 hw' => ?_); have kb4' := cells_of hw' (Cells.set (i := 1) (Cells.set (i := 0) (kb4)))
      (try simp only [vC, List.set_cons_zero, List.set_cons_succ] at kb4')
      have hb36 : OldB [B4] w33 w35 := oldset hw'; clear hw'; clear cb4_0 cb4_1 zb4; clear qb2 qb4 qV qb24; replace kb4 := kb4'; replace kb2 := kb2.oldB hb36 (by first | (simp; done) | (simp; omega)); replace kV := kV.oldB hb36 (by first | (simp; done) | (simp; omega)); replace kb24 := kb24.oldB hb36 (by first | (simp; done) | (simp; omega)); replace HB := hid (HB.out.more hb36 (by simp; try omega)); clear hb36; have qb2 := kb2.1; have qb4 := kb4.1; have qV := kV.1; have qb24 := kb24.1; clear kb4'; refine pl ?_; refine listF_abs (fun s37 z' => ?_); replace sl4 := gs 4 z' sl4; have sl5 := gu 5 z'; clear z' sl6 sl65; refine listF_nil ?_
      repeat ((fail_if_success refine stp ?_); with_reducible go_step)
      have cb4_0 := kb4.cell 0 rfl; have cb4_1 := kb4.cell 1 rfl; refine ret_F _ (res_ct Try.results29 ((getD_F (by decide)).trans sl4) (load_t37 cb4_0 cb4_1) ((getD_F (by decide)).trans sl5)) ?_; have Hr := hid (show lifeRes k (i : Int) = (failsOf k (lifeSpan k i) 0, 0) by unfold lifeRes; rw [if_neg (by simp [He.out]), if_neg Hin.out]; simp only [Int.toNat_natCast]; exact if_neg h65'); exact ⟨by rw [Hr.out]; rfl, HB.out.toBelow⟩
    ·skip
     have h42' : ¬ i + 1 < k.steps.length := by simp at h42; omega
     have Hls := hid (show lifeSpan k i = ⟨k.steps[i].need, k.new⟩ by unfold lifeSpan; rw [if_neg h42', getD_get hi])
     replace kV : Cells w18 V (vC k (some ⟨b, off, none⟩) c (lifeSpan k i) 0) := by rw [Hls.out]; exact kV
     repeat ((fail_if_success refine stp ?_); with_reducible go_step)
     have cb4_0 := kb4.cell 0 rfl; have cb4_1 := kb4.cell 1 rfl; have cV_0 := kV.cell 0 rfl; have cV_1 := kV.cell 1 rfl; have cV_2 := kV.cell 2 rfl; have cV_3 := kV.cell 3 rfl; have cV_4 := kV.cell 4 rfl; have cV_5 := kV.cell 5 rfl; have cV_6 := kV.cell 6 rfl; have cb24_0 := kb24.cell 0 rfl; refine regionQ_F (Below w18.heap.size w18) (by kernel_rfl) (by kernel_rfl) (Below.refl _ _).drew ?_
     iterate 11 refine lq ?_
     refine listQ_nil ?_; intro w38 hb39; clear cV_0 cV_1 cV_2 cV_3 cV_4 cV_5 cV_6 cb2_0 cb2_1 cb2_2 cb2_3 cb24_0 cb4_0 cb4_1; clear qb2 qb4 qV qb24; replace kb2 := kb2.at hb39; replace kb4 := kb4.at hb39; replace kV := kV.at hb39; replace kb24 := kb24.at hb39; replace HB := hid (HB.out.below hb39); clear hb39; have qb2 := kb2.1; have qb4 := kb4.1; have qV := kV.1; have qb24 := kb24.1
     repeat ((fail_if_success refine stp ?_); with_reducible go_step)
     refine wp_abs (fun s40 z' => ?_); replace sl4 := gs 4 z' sl4; replace sl6 := gs 6 z' sl6; have sl65 := gu 65 z'; clear z' sl1 sl2 sl42
     refine cond_E sl65 (by decide) ?_ ?_ <;> (clear sl65; intro h65 sl65)
     ·skip
      have h65' : (lifeSpan k i).hi < (lifeSpan k i).lo := by simpa using h65
      repeat ((fail_if_success refine stp ?_); with_reducible go_step)
      refine region_F ?_; refine pl ?_; have cb4_0 := kb4.cell 0 rfl; have cb4_1 := kb4.cell 1 rfl; have zb4 := kb4.2.2; refine pl ?_; refine listF_absw (fun w41 hw' => ?_); have kb4' := cells_of hw' (Cells.set (i := 1) (Cells.set (i := 0) (kb4)))
      (try simp only [vC, List.set_cons_zero, List.set_cons_succ] at kb4')
      have hb42 : OldB [B4] w38 w41 := oldset hw'; clear hw'; clear cb4_0 cb4_1 zb4; clear qb2 qb4 qV qb24; replace kb4 := kb4'; replace kb2 := kb2.oldB hb42 (by first | (simp; done) | (simp; omega)); replace kV := kV.oldB hb42 (by first | (simp; done) | (simp; omega)); replace kb24 := kb24.oldB hb42 (by first | (simp; done) | (simp; omega)); replace HB := hid (HB.out.more hb42 (by simp; try omega)); clear hb42; have qb2 := kb2.1; have qb4 := kb4.1; have qV := kV.1; have qb24 := kb24.1; clear kb4'; refine pl ?_; refine listF_abs (fun s43 z' => ?_); replace sl4 := gs 4 z' sl4; have sl5 := gu 5 z'; clear z' sl6 sl65; refine listF_nil ?_
      repeat ((fail_if_success refine stp ?_); with_reducible go_step)
      have cb4_0 := kb4.cell 0 rfl; have cb4_1 := kb4.cell 1 rfl; refine ret_F _ (res_ct Try.results29 ((getD_F (by decide)).trans sl4) (load_t37 cb4_0 cb4_1) ((getD_F (by decide)).trans sl5)) ?_; have Hr := hid (show lifeRes k (i : Int) = (Fail.zero, 9) by unfold lifeRes; rw [if_neg (by simp [He.out]), if_neg Hin.out]; simp only [Int.toNat_natCast]; exact if_pos h65'); exact ⟨by rw [Hr.out]; rfl, HB.out.toBelow⟩
     ·skip
      have h65' : ¬ (lifeSpan k i).hi < (lifeSpan k i).lo := by simpa using h65
      repeat ((fail_if_success refine stp ?_); with_reducible go_step)
      refine region_F ?_; refine pl ?_; refine listF_step rfl (fun K' hK => ?_); unfold opF; go_simp; refine (fails_any V k _ c (lifeSpan k i) 0 _ kV (Rd.oldB HR.out HB.out (by simp)) HK.out Hin2.out (by omega)).mono ?_; rintro e w44 ⟨rfl, hb45⟩; refine ⟨_, rfl, hK _ _ ?_⟩; clear hK K'; clear qb2 qb4 qV qb24; replace kb2 := kb2.at hb45; replace kb4 := kb4.at hb45; replace kV := kV.at hb45; replace kb24 := kb24.at hb45; replace HB := hid (HB.out.below hb45); clear hb45; have qb2 := kb2.1; have qb4 := kb4.1; have qV := kV.1; have qb24 := kb24.1; have cb4_0 := kb4.cell 0 rfl; have cb4_1 := kb4.cell 1 rfl; have zb4 := kb4.2.2; refine pl ?_; refine listF_absw (fun w46 hw' => ?_); have kb4' := cells_of hw' (Cells.set (i := 1) (Cells.set (i := 0) (kb4)))
      (try simp only [vC, List.set_cons_zero, List.set_cons_succ] at kb4')
      have hb47 : OldB [B4] w44 w46 := oldset hw'; clear hw'; clear cb4_0 cb4_1 zb4; clear qb2 qb4 qV qb24; replace kb4 := kb4'; replace kb2 := kb2.oldB hb47 (by first | (simp; done) | (simp; omega)); replace kV := kV.oldB hb47 (by first | (simp; done) | (simp; omega)); replace kb24 := kb24.oldB hb47 (by first | (simp; done) | (simp; omega)); replace HB := hid (HB.out.more hb47 (by simp; try omega)); clear hb47; have qb2 := kb2.1; have qb4 := kb4.1; have qV := kV.1; have qb24 := kb24.1; clear kb4'; refine pl ?_; refine listF_abs (fun s48 z' => ?_); replace sl4 := gs 4 z' sl4; have sl5 := gu 5 z'; clear z' sl6 sl65; refine listF_nil ?_
      repeat ((fail_if_success refine stp ?_); with_reducible go_step)
      have cb4_0 := kb4.cell 0 rfl; have cb4_1 := kb4.cell 1 rfl; refine ret_F _ (res_ct Try.results29 ((getD_F (by decide)).trans sl4) (load_t37 cb4_0 cb4_1) ((getD_F (by decide)).trans sl5)) ?_; have Hr := hid (show lifeRes k (i : Int) = (failsOf k (lifeSpan k i) 0, 0) by unfold lifeRes; rw [if_neg (by simp [He.out]), if_neg Hin.out]; simp only [Int.toNat_natCast]; exact if_neg h65'); exact ⟨by rw [Hr.out]; rfl, HB.out.toBelow⟩
 ·skip
  have He := hid he
  have he1 : (kdErr k != 0) = true := by simpa using he
  clear he; refine listF_step rfl (fun K' hK => ?_); unfold opF; go_simp; refine (open_bad k a c _ HN.out hsl (Rd.oldB HR.out HB.out (by simp)) He.out).mono ?_; rintro e w49 ⟨rfl, hb50⟩; refine ⟨_, rfl, hK _ _ ?_⟩; clear hK K'; clear cb2_0 cb2_1 cb2_2 cb2_3; clear qb2 qb4; replace kb2 := kb2.at hb50; replace kb4 := kb4.at hb50; replace HB := hid (HB.out.below hb50); clear hb50; have qb2 := kb2.1; have qb4 := kb4.1
  iterate 5 refine pl ?_
  refine listF_abs (fun s51 z' => ?_); replace sl1 := gs 1 z' sl1; replace sl2 := gs 2 z' sl2; replace sl4 := gs 4 z' sl4; have sl6 := gu 6 z'; have sl7 := gu 7 z'; clear z'; refine listF_nil ?_
  repeat ((fail_if_success refine stp ?_); with_reducible go_step)
  refine region_F ?_
  iterate 3 refine pl ?_
  refine listF_abs (fun s52 z' => ?_); replace sl1 := gs 1 z' sl1; replace sl2 := gs 2 z' sl2; replace sl4 := gs 4 z' sl4; replace sl6 := gs 6 z' sl6; replace sl7 := gs 7 z' sl7; have sl13 := gu 13 z'; clear z'; refine listF_nil ?_
  repeat ((fail_if_success refine stp ?_); with_reducible go_step)
  refine cond_t ?_
  repeat ((fail_if_success refine stp ?_); with_reducible go_step)
  refine region_F ?_; refine pl ?_; refine pl ?_; have cb4_0 := kb4.cell 0 rfl; have cb4_1 := kb4.cell 1 rfl; have zb4 := kb4.2.2; refine pl ?_; refine listF_absw (fun w53 hw' => ?_); have kb4' := cells_of hw' (Cells.set (i := 1) (Cells.set (i := 0) (kb4)))
  (try simp only [vC, List.set_cons_zero, List.set_cons_succ] at kb4')
  have hb54 : OldB [B4] w49 w53 := oldset hw'; clear hw'; clear cb4_0 cb4_1 zb4; clear qb2 qb4; replace kb4 := kb4'; replace kb2 := kb2.oldB hb54 (by first | (simp; done) | (simp; omega)); replace HB := hid (HB.out.more hb54 (by simp; try omega)); clear hb54; have qb2 := kb2.1; have qb4 := kb4.1; clear kb4'; refine pl ?_; refine listF_abs (fun s55 z' => ?_); replace sl4 := gs 4 z' sl4; have sl5 := gu 5 z'; clear z' sl1 sl2 sl6 sl7 sl13; refine listF_nil ?_
  repeat ((fail_if_success refine stp ?_); with_reducible go_step)
  have cb4_0 := kb4.cell 0 rfl; have cb4_1 := kb4.cell 1 rfl; refine ret_F _ (res_ct Try.results29 ((getD_F (by decide)).trans sl4) (load_t37 cb4_0 cb4_1) ((getD_F (by decide)).trans sl5)) ?_; exact ⟨by unfold lifeRes; rw [if_pos He.out]; rfl, HB.out.toBelow⟩
end


end Go.Proofs.Ytndcmmghgljinaa
