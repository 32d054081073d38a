/- Plain laws of valves: nights in which a valve is replaced: the plan is safe, and no safe one replaces fewer. -/
import Derived.Test.YtndcmmghgljinaardW22
import Derived.Test.YtndcmmghgljinaardW18
import Derived.Test.YtndcmmghgljinaardW2
import Derived.Test.YtndcmmghgljinaardW37
set_option linter.all false
namespace Go.Proofs.Ytndcmmghgljinaa

section
open Go.RowKit


theorem known_in {k : Kd} {cs : List MCk} {s : Span} {t : Int} (hE : kdErr k = 0) (hl : cs.length ≤ 30) (hc : ∀ c ∈ cs, chkOk k c = true) (hk : known k cs = some (s, t)) : spanOk s ∧ 0 ≤ t ∧ t ≤ 100000 := by
  have hK := kok_of hE; rw [known_closed hK hc] at hk
  by_cases hv : Valid k cs
  · rw [if_pos hv] at hk
    cases hk
    have h0 : 0 ≤ lastH cs := (lastH_iff.1 (Int.le_refl _)).1; have h1 : lastH cs ≤ 100000 := lastH_le (by omega) (fun c hc' => (chk_bd (hc c hc')).1.2); have ha : AOk k cs (lastH cs) := ⟨hE, hl, hc, hv, h0, h1, Int.le_refl _⟩; have := asked_in (k := k) (cs := cs) (h := lastH cs) (by rw [asked_of ha]); rw [asked_of ha] at this; exact ⟨this.2.2.1, h0, h1⟩
  · rw [if_neg hv] at hk; cases hk
def EvOk (k : Kd) (cs : List MCk) (i : Nat) (ev : Int) : Prop := (ev = 0 ∧ (cs.take i).any (badC k) = false) ∨ (ev = 7 ∧ cs.any (badC k) = true)

set_option maxRecDepth 100000 in
set_option maxHeartbeats 8000000 in
theorem rasked_any (k : Kd) (a : Option Addr) (c : Nat) (ac : Option Addr) (cc : Nat) (cs : List MCk) (h : Int) (w : World) (hsl : k.steps.length ≤ 9223372036854775807) (hR : RdSteps w a k.steps) (hRc : RdCks w ac cs) (hlc : cs.length ≤ 9223372036854775807) :
    Calls Try.prog 54 #[.agg #[.int .i64 k.new, .int .i64 k.wear.lo, .int .i64 k.wear.hi, .slice a k.steps.length c], .slice ac cs.length cc, .int .i64 h] w (fun e w' => e = .returned (.tuple #[.agg #[.int .i64 (asked k cs h).1.lo, .int .i64 (asked k cs h).1.hi], .int .i64 (asked k cs h).2]) ∧ Below w.heap.size w w') := by
 have HR := hid hR; have HRc := hid hRc; clear hR hRc
 refine enter_F Try.func54 rfl Try.ntmps54 (by simp) ?_
 intro s0 hs; have sl0 : s0 0 = .agg #[.int .i64 k.new, .int .i64 k.wear.lo, .int .i64 k.wear.hi, .slice a k.steps.length c] := hs 0 (by simp); have sl1 : s0 1 = .slice ac cs.length cc := hs 1 (by simp); have sl2 : s0 2 = .int .i64 h := hs 2 (by simp); clear hs; have HB := hid (OldB.refl [] w)
 repeat ((fail_if_success refine stp ?_); with_reducible go_step)
 refine region_F ?_; refine pa (fun w1 B3 hB kb3' hb2 => ?_); have gb3 := HB.out.gB hB; have eb3 := eB hB; clear hB; replace HB := hid (HB.out.below hb2); clear hb2; have kb3 := kb3'; clear kb3'; have qb3 := kb3.1; refine pa (fun w3 B6 hB kb6' hb4 => ?_); have gb6 := HB.out.gB hB; have ob3_b6 := oB qb3 hB; have eb6 := eB hB; clear hB; clear qb3; replace kb3 := kb3.at hb4; replace HB := hid (HB.out.below hb4); clear hb4; have qb3 := kb3.1; have kb6 := kb6'; clear kb6'; have qb6 := kb6.1; refine pl ?_; refine listF_abs (fun s5 z' => ?_); replace sl1 := gs 1 z' sl1; replace sl2 := gs 2 z' sl2; have sl3 := gu 3 z'; have sl6 := gu 6 z'; clear z' sl0; refine listF_nil ?_
 repeat ((fail_if_success refine stp ?_); with_reducible go_step)
 refine region_F ?_; have cb3_0 := kb3.cell 0 rfl; have cb3_1 := kb3.cell 1 rfl; have cb3_2 := kb3.cell 2 rfl; have cb3_3 := kb3.cell 3 rfl; refine pl ?_; refine listF_step rfl (fun K' hK => ?_); unfold opF; go_simp; refine (rcheck_any k a c _ hsl (Rd.oldB HR.out HB.out (by simp))).mono ?_; rintro e w6 ⟨rfl, hb7⟩; refine ⟨_, rfl, hK _ _ ?_⟩; clear hK K'; clear cb3_0 cb3_1 cb3_2 cb3_3; clear qb3 qb6; replace kb3 := kb3.at hb7; replace kb6 := kb6.at hb7; replace HB := hid (HB.out.below hb7); clear hb7; have qb3 := kb3.1; have qb6 := kb6.1; refine pl ?_; refine listF_abs (fun s8 z' => ?_); replace sl1 := gs 1 z' sl1; replace sl2 := gs 2 z' sl2; replace sl3 := gs 3 z' sl3; replace sl6 := gs 6 z' sl6; have sl8 := gu 8 z'; clear z'; refine listF_nil ?_
 repeat ((fail_if_success refine stp ?_); with_reducible go_step)
 by_cases he : kdErr k = 0
 ·skip
  have He := hid he; have HK := hid (kok_of he); have sl8' := sl8; rw [he] at sl8'; clear sl8; have sl8 := sl8'; clear sl8' he; refine region_F ?_
  iterate 3 refine pl ?_
  iterate 3 refine py ?_
  refine pl ?_; refine listF_abs (fun s9 z' => ?_); replace sl1 := gs 1 z' sl1; replace sl2 := gs 2 z' sl2; replace sl3 := gs 3 z' sl3; replace sl6 := gs 6 z' sl6; replace sl8 := gs 8 z' sl8; have sl21 := gu 21 z'; clear z'; refine listF_nil ?_
  repeat ((fail_if_success refine stp ?_); with_reducible go_step)
  refine cond_E sl21 (by decide) ?_ ?_ <;> (clear sl21; intro h21 sl21)
  ·skip
   have hl30 : 30 < cs.length := by have : (30 : Int) < cs.length := (by simpa using h21); omega
   have Ha := hid (asked_2 (h := h) He.out hl30)
   repeat ((fail_if_success refine stp ?_); with_reducible go_step)
   refine region_F ?_; refine pl ?_; refine listF_abs (fun s10 z' => ?_); replace sl1 := gs 1 z' sl1; replace sl2 := gs 2 z' sl2; replace sl3 := gs 3 z' sl3; replace sl6 := gs 6 z' sl6; replace sl8 := gu 8 z'; clear z' sl21; refine listF_nil ?_
   repeat ((fail_if_success refine stp ?_); with_reducible go_step)
   refine region_F ?_; refine pl ?_; refine listF_abs (fun s11 z' => ?_); replace sl1 := gs 1 z' sl1; replace sl2 := gs 2 z' sl2; replace sl3 := gs 3 z' sl3; replace sl6 := gs 6 z' sl6; replace sl8 := gs 8 z' sl8; have sl9 := gu 9 z'; clear z'; refine listF_nil ?_
   repeat ((fail_if_success refine stp ?_); with_reducible go_step)
   have hc0_1 := hid sl1; have hc0_2 := hid sl2; have hc0_3 := hid sl3; have hc0_6 := hid sl6; refine loop_F (n := 77) (fun kJ sJ wJ => kJ = 0 ∧ sJ 8 = .int .i64 3 ∧ sJ 9 = .int .i64 0 ∧ sJ 1 = s11 1 ∧ sJ 2 = s11 2 ∧ sJ 3 = s11 3 ∧ sJ 6 = s11 6 ∧ OldB [] w6 wJ) ⟨rfl, (by first | exact sl8 | (rw [sl8]; go_num) | (rw [sl8]; rfl)), (by first | exact sl9 | (rw [sl9]; go_num) | (rw [sl9]; rfl)), rfl, rfl, rfl, rfl, OldB.refl _ _⟩ ?_; clear sl8 sl9; rintro kJ s12 w13 ⟨rfl, sl8, sl9, e1, e2, e3, e6, hb14⟩; replace sl1 := e1.trans sl1; clear e1; replace sl2 := e2.trans sl2; clear e2; replace sl3 := e3.trans sl3; clear e3; replace sl6 := e6.trans sl6; clear e6; have hoJ := hb14; clear qb3 qb6; replace kb3 := kb3.oldB hb14 (by first | (simp; done) | (simp; omega)); replace kb6 := kb6.oldB hb14 (by first | (simp; done) | (simp; omega)); replace HB := hid (HB.out.more hb14 (by simp; try omega)); clear hb14; have qb3 := kb3.1; have qb6 := kb6.1
   have HoJ := hid hoJ; clear hoJ; have HL15 := HoJ; clear HoJ
   repeat ((fail_if_success refine stp ?_); with_reducible go_step)
   refine region_F ?_
   iterate 5 refine pl ?_
   refine listF_abs (fun s16 z' => ?_); replace sl1 := gs 1 z' sl1; replace sl2 := gs 2 z' sl2; replace sl3 := gs 3 z' sl3; replace sl6 := gs 6 z' sl6; replace sl8 := gs 8 z' sl8; replace sl9 := gs 9 z' sl9; have sl26 := gu 26 z'; clear z'
   refine boolG sl26 (fun sl26' h26 => ?_) (fun sl26' h26 => ?_) <;> (clear sl26; have sl26 := sl26'; clear sl26')
   ·skip
    refine py ?_; refine py ?_; refine pl ?_; refine listF_abs (fun s17 z' => ?_); replace sl1 := gs 1 z' sl1; replace sl2 := gs 2 z' sl2; replace sl3 := gs 3 z' sl3; replace sl6 := gs 6 z' sl6; replace sl8 := gs 8 z' sl8; replace sl9 := gs 9 z' sl9; have sl27 := gu 27 z'; have sl28 := gu 28 z'; have sl29 := gu 29 z'; clear z' sl26; refine listF_nil ?_
    repeat ((fail_if_success refine stp ?_); with_reducible go_step)
    refine cond_f ?_
    repeat ((fail_if_success refine stp ?_); with_reducible go_step)
    clear HL15; clear hc0_1 hc0_2 hc0_3 hc0_6; refine region_F ?_; refine pl ?_; refine pl ?_; refine listF_abs (fun s18 z' => ?_); replace sl1 := gs 1 z' sl1; replace sl2 := gs 2 z' sl2; replace sl3 := gs 3 z' sl3; replace sl6 := gs 6 z' sl6; replace sl8 := gs 8 z' sl8; have sl50 := gu 50 z'; clear z' sl9 sl27 sl28 sl29; refine listF_nil ?_
    repeat ((fail_if_success refine stp ?_); with_reducible go_step)
    refine cond_t ?_
    repeat ((fail_if_success refine stp ?_); with_reducible go_step)
    refine region_F ?_; refine pl ?_; refine pl ?_; have cb6_0 := kb6.cell 0 rfl; have cb6_1 := kb6.cell 1 rfl; have zb6 := kb6.2.2; refine pl ?_; refine listF_absw (fun w19 hw' => ?_); have kb6' := cells_of hw' (Cells.set (i := 1) (Cells.set (i := 0) (kb6)))
    (try simp only [vC, List.set_cons_zero, List.set_cons_succ] at kb6')
    have hb20 : OldB [B6] w13 w19 := oldset hw'; clear hw'; clear cb6_0 cb6_1 zb6; clear qb3 qb6; replace kb6 := kb6'; replace kb3 := kb3.oldB hb20 (by first | (simp; done) | (simp; omega)); replace HB := hid (HB.out.more hb20 (by simp; try omega)); clear hb20; have qb3 := kb3.1; have qb6 := kb6.1; clear kb6'; refine pl ?_; refine listF_abs (fun s21 z' => ?_); replace sl6 := gs 6 z' sl6; have sl7 := gu 7 z'; clear z' sl1 sl2 sl3 sl8 sl50; refine listF_nil ?_
    repeat ((fail_if_success refine stp ?_); with_reducible go_step)
    have cb6_0 := kb6.cell 0 rfl; have cb6_1 := kb6.cell 1 rfl; refine ret_F _ (res_ct Try.results54 ((getD_F (by decide)).trans sl6) (load_t23 cb6_0 cb6_1) ((getD_F (by decide)).trans sl7)) ?_; exact ⟨by first | (rw [Ha.out]; done) | (rw [Ha.out]; rfl), HB.out.toBelow⟩
   ·skip
    refine pn false ?_; refine pn false ?_; refine pl ?_; refine listF_abs (fun s22 z' => ?_); replace sl1 := gs 1 z' sl1; replace sl2 := gs 2 z' sl2; replace sl3 := gs 3 z' sl3; replace sl6 := gs 6 z' sl6; replace sl8 := gs 8 z' sl8; replace sl9 := gs 9 z' sl9; have sl29 := gu 29 z'; clear z' sl26; refine listF_nil ?_
    repeat ((fail_if_success refine stp ?_); with_reducible go_step)
    refine cond_f ?_
    repeat ((fail_if_success refine stp ?_); with_reducible go_step)
    clear HL15; clear hc0_1 hc0_2 hc0_3 hc0_6; refine region_F ?_; refine pl ?_; refine pl ?_; refine listF_abs (fun s23 z' => ?_); replace sl1 := gs 1 z' sl1; replace sl2 := gs 2 z' sl2; replace sl3 := gs 3 z' sl3; replace sl6 := gs 6 z' sl6; replace sl8 := gs 8 z' sl8; have sl50 := gu 50 z'; clear z' sl9 sl29; refine listF_nil ?_
    repeat ((fail_if_success refine stp ?_); with_reducible go_step)
    refine cond_t ?_
    repeat ((fail_if_success refine stp ?_); with_reducible go_step)
    refine region_F ?_; refine pl ?_; refine pl ?_; have cb6_0 := kb6.cell 0 rfl; have cb6_1 := kb6.cell 1 rfl; have zb6 := kb6.2.2; refine pl ?_; refine listF_absw (fun w24 hw' => ?_); have kb6' := cells_of hw' (Cells.set (i := 1) (Cells.set (i := 0) (kb6)))
    (try simp only [vC, List.set_cons_zero, List.set_cons_succ] at kb6')
    have hb25 : OldB [B6] w13 w24 := oldset hw'; clear hw'; clear cb6_0 cb6_1 zb6; clear qb3 qb6; replace kb6 := kb6'; replace kb3 := kb3.oldB hb25 (by first | (simp; done) | (simp; omega)); replace HB := hid (HB.out.more hb25 (by simp; try omega)); clear hb25; have qb3 := kb3.1; have qb6 := kb6.1; clear kb6'; refine pl ?_; refine listF_abs (fun s26 z' => ?_); replace sl6 := gs 6 z' sl6; have sl7 := gu 7 z'; clear z' sl1 sl2 sl3 sl8 sl50; refine listF_nil ?_
    repeat ((fail_if_success refine stp ?_); with_reducible go_step)
    have cb6_0 := kb6.cell 0 rfl; have cb6_1 := kb6.cell 1 rfl; refine ret_F _ (res_ct Try.results54 ((getD_F (by decide)).trans sl6) (load_t23 cb6_0 cb6_1) ((getD_F (by decide)).trans sl7)) ?_; exact ⟨by first | (rw [Ha.out]; done) | (rw [Ha.out]; rfl), HB.out.toBelow⟩
  ·skip
   have hl30 : ¬ 30 < cs.length := by have : (cs.length : Int) ≤ 30 := (by simpa using h21); omega
   repeat ((fail_if_success refine stp ?_); with_reducible go_step)
   refine region_F ?_; refine pl ?_; refine listF_abs (fun s27 z' => ?_); replace sl1 := gs 1 z' sl1; replace sl2 := gs 2 z' sl2; replace sl3 := gs 3 z' sl3; replace sl6 := gs 6 z' sl6; replace sl8 := gs 8 z' sl8; have sl9 := gu 9 z'; clear z' sl21; refine listF_nil ?_
   repeat ((fail_if_success refine stp ?_); with_reducible go_step)
   have hc0_1 := hid sl1; have hc0_2 := hid sl2; have hc0_3 := hid sl3; have hc0_6 := hid sl6; refine loop_F (n := 77) (fun kJ sJ wJ => ∃ (i : Nat) (ev : Int), kJ = cs.length - i ∧ sJ 8 = .int .i64 ev ∧ sJ 9 = .int .i64 (i : Int) ∧ sJ 1 = s27 1 ∧ sJ 2 = s27 2 ∧ sJ 3 = s27 3 ∧ sJ 6 = s27 6 ∧ OldB [] w6 wJ ∧ i ≤ cs.length ∧ Hid (EvOk k cs i ev)) ⟨0, 0, rfl, (by first | exact sl8 | (rw [sl8]; go_num) | (rw [sl8]; rfl)), (by first | exact sl9 | (rw [sl9]; go_num) | (rw [sl9]; rfl)), rfl, rfl, rfl, rfl, OldB.refl _ _, Nat.zero_le _, hid (.inl ⟨rfl, rfl⟩)⟩ ?_; clear sl8 sl9; rintro kJ s28 w29 ⟨i, ev, rfl, sl8, sl9, e1, e2, e3, e6, hb30, hil, hev⟩; replace sl1 := e1.trans sl1; clear e1; replace sl2 := e2.trans sl2; clear e2; replace sl3 := e3.trans sl3; clear e3; replace sl6 := e6.trans sl6; clear e6; have hoJ := hb30; clear qb3 qb6; replace kb3 := kb3.oldB hb30 (by first | (simp; done) | (simp; omega)); replace kb6 := kb6.oldB hb30 (by first | (simp; done) | (simp; omega))
   replace HB := hid (HB.out.more hb30 (by simp; try omega)); clear hb30; have qb3 := kb3.1; have qb6 := kb6.1; have HoJ := hid hoJ; clear hoJ; have HL31 := HoJ; clear HoJ
   repeat ((fail_if_success refine stp ?_); with_reducible go_step)
   refine region_F ?_
   iterate 5 refine pl ?_
   refine listF_abs (fun s32 z' => ?_); replace sl1 := gs 1 z' sl1; replace sl2 := gs 2 z' sl2; replace sl3 := gs 3 z' sl3; replace sl6 := gs 6 z' sl6; replace sl8 := gs 8 z' sl8; replace sl9 := gs 9 z' sl9; have sl26 := gu 26 z'; clear z'
   refine boolG sl26 (fun sl26' h26 => ?_) (fun sl26' h26 => ?_) <;> (clear sl26; have sl26 := sl26'; clear sl26')
   ·skip
    have hlt : i < cs.length := by simpa using h26
    obtain ⟨b, off, rfl, hbs, c0, c1, c2⟩ := RdCks.ne (Rd.oldB HRc.out HB.out (by simp)) hlt
    have hlt' : (i : Int) < cs.length := by omega
    refine py ?_; refine py ?_; refine pl ?_; refine listF_abs (fun s33 z' => ?_); replace sl1 := gs 1 z' sl1; replace sl2 := gs 2 z' sl2; replace sl3 := gs 3 z' sl3; replace sl6 := gs 6 z' sl6; replace sl8 := gs 8 z' sl8; replace sl9 := gs 9 z' sl9; have sl27 := gu 27 z'; have sl28 := gu 28 z'; have sl29 := gu 29 z'; clear z' sl26; refine listF_nil ?_
    repeat ((fail_if_success refine stp ?_); with_reducible go_step)
    refine cond_E sl29 (by decide) ?_ ?_ <;> (clear sl29; intro h29 sl29)
    ·skip
     have hz : ev = 0 := by simpa using h29
     have hpre := hid (show (cs.take i).any (badC k) = false by rcases hev.out with h | h; exact h.2; have := h.1; omega); have Hz0 := hid hz; clear hz
     repeat ((fail_if_success refine stp ?_); with_reducible go_step)
     rcases Bool.eq_false_or_eq_true (inb cs[i].hour 0 100000) with t1 | t1
     ·skip
      have cb3_0 := kb3.cell 0 rfl; have cb3_1 := kb3.cell 1 rfl; have cb3_2 := kb3.cell 2 rfl; have cb3_3 := kb3.cell 3 rfl; have cb6_0 := kb6.cell 0 rfl; have cb6_1 := kb6.cell 1 rfl; refine regionQ_F (Below w29.heap.size w29) (by kernel_rfl) (by kernel_rfl) (Below.refl _ _).drew ?_
      iterate 5 refine lq ?_
      refine listQ_step (v := ?_) rfl ?_ ?_; rotate_left
      · focus (intro wq hwq; obtain ⟨hcq, hfq⟩ := bcell hwq; go_simp; have hQ := callQs (rin_any cs[i].hour 0 100000 _) hwq; exact hQ)
      refine lq ?_; refine lq ?_
      iterate 6 refine lqy ?_
      refine listQ_yes (v := ?_) rfl rfl (by decide) ?_ ?_ ?_; rotate_left; (focus (go_simp; done))
      · focus (intro wq hwq; obtain ⟨hcq, hfq⟩ := bcell hwq; go_simp; have hQ := callQ (rvoltage_any k a c cs[i].volt _ (Rd.oldB HR.out (HB.out.below hwq) (by simp)) HK.out) hwq; exact hQ)
      refine lqy ?_; refine lq ?_; refine listQ_nil ?_; intro w34 hb35; clear cb3_0 cb3_1 cb3_2 cb3_3 cb6_0 cb6_1; clear qb3 qb6; replace kb3 := kb3.at hb35; replace kb6 := kb6.at hb35; replace HL31 := hid (HL31.out.below hb35); replace HB := hid (HB.out.below hb35); clear hb35; have qb3 := kb3.1; have qb6 := kb6.1
      repeat ((fail_if_success refine stp ?_); with_reducible go_step)
      refine wp_abs (fun s36 z' => ?_); replace sl1 := gs 1 z' sl1; replace sl2 := gs 2 z' sl2; replace sl3 := gs 3 z' sl3; replace sl6 := gs 6 z' sl6; replace sl8 := gs 8 z' sl8; replace sl9 := gs 9 z' sl9; replace sl27 := gs 27 z' sl27; replace sl28 := gs 28 z' sl28; have sl40 := gu 40 z'; have sl41 := gu 41 z'; have sl42 := gu 42 z'; have sl43 := gu 43 z'; have sl44 := gu 44 z'; have sl45 := gu 45 z'; have sl46 := gu 46 z'; have sl47 := gu 47 z'; have sl48 := gu 48 z'; clear z' sl29
      refine cond_E sl48 (by decide) ?_ ?_ <;> (clear sl48; intro h48 sl48)
      ·skip
       have Hbd := hid (show badC k cs[i] = true by unfold badC chkOk; rw [t1]; simpa using h48)
       repeat ((fail_if_success refine stp ?_); with_reducible go_step)
       refine region_F ?_; refine pl ?_; refine listF_abs (fun s37 z' => ?_); replace sl1 := gs 1 z' sl1; replace sl2 := gs 2 z' sl2; replace sl3 := gs 3 z' sl3; replace sl6 := gs 6 z' sl6; replace sl8 := gu 8 z'; replace sl9 := gs 9 z' sl9; replace sl27 := gs 27 z' sl27; replace sl28 := gs 28 z' sl28; replace sl40 := gs 40 z' sl40; replace sl41 := gs 41 z' sl41; replace sl42 := gs 42 z' sl42; replace sl43 := gs 43 z' sl43; replace sl44 := gs 44 z' sl44; replace sl45 := gs 45 z' sl45; replace sl46 := gs 46 z' sl46; replace sl47 := gs 47 z' sl47; clear z' sl48; refine listF_nil ?_
       repeat ((fail_if_success refine stp ?_); with_reducible go_step)
       refine region_F ?_
       iterate 3 refine pl ?_
       refine listF_abs (fun s38 z' => ?_); replace sl1 := gs 1 z' sl1; replace sl2 := gs 2 z' sl2; replace sl3 := gs 3 z' sl3; replace sl6 := gs 6 z' sl6; replace sl8 := gs 8 z' sl8; replace sl9 := gu 9 z'; replace sl27 := gs 27 z' sl27; replace sl28 := gs 28 z' sl28; replace sl40 := gs 40 z' sl40; replace sl41 := gs 41 z' sl41; replace sl42 := gs 42 z' sl42; replace sl43 := gs 43 z' sl43; replace sl44 := gs 44 z' sl44; replace sl45 := gs 45 z' sl45; replace sl46 := gs 46 z' sl46; replace sl47 := gs 47 z' sl47; clear z'; refine listF_nil ?_
       repeat ((fail_if_success refine stp ?_); with_reducible go_step)
       refine ⟨_, _, rfl, ?_, i + 1, 7, rfl, (by first | (with_reducible exact sl8) | (rw [sl8]; (with_reducible go_num); done) | (rw [sl8, IntWalk.i64_in] <;> first | ((with_reducible go_num); done) | omega) | (rw [sl8]; go_num; done) | (rw [sl8]; simp; done) | (rw [sl8]; simp; omega)), (by first | (with_reducible exact sl9) | (rw [sl9]; (with_reducible go_num); done) | (rw [sl9, IntWalk.i64_in] <;> first | ((with_reducible go_num); done) | omega) | (rw [sl9]; go_num; done) | (rw [sl9]; simp; done) | (rw [sl9]; simp; omega)), (sl1.trans hc0_1.out.symm), (sl2.trans hc0_2.out.symm), (sl3.trans hc0_3.out.symm), (sl6.trans hc0_6.out.symm), HL31.out, by omega, hid (.inr ⟨rfl, List.any_eq_true.2 ⟨cs[i], List.getElem_mem hlt, Hbd.out⟩⟩)⟩
       omega
      ·skip
       have Hgd := hid (show badC k cs[i] = false by unfold badC chkOk; rw [t1]; simpa using h48)
       repeat ((fail_if_success refine stp ?_); with_reducible go_step)
       refine region_F ?_
       iterate 3 refine pl ?_
       refine listF_abs (fun s39 z' => ?_); replace sl1 := gs 1 z' sl1; replace sl2 := gs 2 z' sl2; replace sl3 := gs 3 z' sl3; replace sl6 := gs 6 z' sl6; replace sl8 := gs 8 z' sl8; replace sl9 := gu 9 z'; replace sl27 := gs 27 z' sl27; replace sl28 := gs 28 z' sl28; replace sl40 := gs 40 z' sl40; replace sl41 := gs 41 z' sl41; replace sl42 := gs 42 z' sl42; replace sl43 := gs 43 z' sl43; replace sl44 := gs 44 z' sl44; replace sl45 := gs 45 z' sl45; replace sl46 := gs 46 z' sl46; replace sl47 := gs 47 z' sl47; clear z' sl48; refine listF_nil ?_
       repeat ((fail_if_success refine stp ?_); with_reducible go_step)
       refine ⟨_, _, rfl, ?_, i + 1, ev, rfl, (by first | (with_reducible exact sl8) | (rw [sl8]; (with_reducible go_num); done) | (rw [sl8, IntWalk.i64_in] <;> first | ((with_reducible go_num); done) | omega) | (rw [sl8]; go_num; done) | (rw [sl8]; simp; done) | (rw [sl8]; simp; omega)), (by first | (with_reducible exact sl9) | (rw [sl9]; (with_reducible go_num); done) | (rw [sl9, IntWalk.i64_in] <;> first | ((with_reducible go_num); done) | omega) | (rw [sl9]; go_num; done) | (rw [sl9]; simp; done) | (rw [sl9]; simp; omega)), (sl1.trans hc0_1.out.symm), (sl2.trans hc0_2.out.symm), (sl3.trans hc0_3.out.symm), (sl6.trans hc0_6.out.symm), HL31.out, by omega, hid (.inl ⟨Hz0.out, by rw [any_take_succ _ _ _ hlt, hpre.out, Hgd.out]; rfl⟩)⟩
       omega
     ·skip
      have Hbd := hid (show badC k cs[i] = true by unfold badC chkOk; rw [t1]; rfl); have cb3_0 := kb3.cell 0 rfl; have cb3_1 := kb3.cell 1 rfl; have cb3_2 := kb3.cell 2 rfl; have cb3_3 := kb3.cell 3 rfl; have cb6_0 := kb6.cell 0 rfl; have cb6_1 := kb6.cell 1 rfl; refine regionQ_F (Below w29.heap.size w29) (by kernel_rfl) (by kernel_rfl) (Below.refl _ _).drew ?_
      iterate 5 refine lq ?_
      refine listQ_step (v := ?_) rfl ?_ ?_; rotate_left
      · focus (intro wq hwq; obtain ⟨hcq, hfq⟩ := bcell hwq; go_simp; have hQ := callQs (rin_any cs[i].hour 0 100000 _) hwq; exact hQ)
      refine lq ?_; refine lq ?_
      refine lqn true ?_
      refine lqn true ?_
      refine lqn true ?_
      refine lqn true ?_
      refine lqn true ?_
      refine lqn true ?_; refine lqn true ?_; refine lqn true ?_; refine lq ?_; refine listQ_nil ?_; intro w40 hb41; clear cb3_0 cb3_1 cb3_2 cb3_3 cb6_0 cb6_1; clear qb3 qb6; replace kb3 := kb3.at hb41; replace kb6 := kb6.at hb41; replace HL31 := hid (HL31.out.below hb41); replace HB := hid (HB.out.below hb41); clear hb41; have qb3 := kb3.1; have qb6 := kb6.1
      repeat ((fail_if_success refine stp ?_); with_reducible go_step)
      refine wp_abs (fun s42 z' => ?_); replace sl1 := gs 1 z' sl1; replace sl2 := gs 2 z' sl2; replace sl3 := gs 3 z' sl3; replace sl6 := gs 6 z' sl6; replace sl8 := gs 8 z' sl8; replace sl9 := gs 9 z' sl9; replace sl27 := gs 27 z' sl27; replace sl28 := gs 28 z' sl28; have sl48 := gu 48 z'; clear z' sl29; refine cond_t ?_
      repeat ((fail_if_success refine stp ?_); with_reducible go_step)
      refine region_F ?_; refine pl ?_; refine listF_abs (fun s43 z' => ?_); replace sl1 := gs 1 z' sl1; replace sl2 := gs 2 z' sl2; replace sl3 := gs 3 z' sl3; replace sl6 := gs 6 z' sl6; replace sl8 := gu 8 z'; replace sl9 := gs 9 z' sl9; replace sl27 := gs 27 z' sl27; replace sl28 := gs 28 z' sl28; clear z' sl48; refine listF_nil ?_
      repeat ((fail_if_success refine stp ?_); with_reducible go_step)
      refine region_F ?_
      iterate 3 refine pl ?_
      refine listF_abs (fun s44 z' => ?_); replace sl1 := gs 1 z' sl1; replace sl2 := gs 2 z' sl2; replace sl3 := gs 3 z' sl3; replace sl6 := gs 6 z' sl6; replace sl8 := gs 8 z' sl8; replace sl9 := gu 9 z'; replace sl27 := gs 27 z' sl27; replace sl28 := gs 28 z' sl28; clear z'; refine listF_nil ?_
      repeat ((fail_if_success refine stp ?_); with_reducible go_step)
      refine ⟨_, _, rfl, ?_, i + 1, 7, rfl, (by first | (with_reducible exact sl8) | (rw [sl8]; (with_reducible go_num); done) | (rw [sl8, IntWalk.i64_in] <;> first | ((with_reducible go_num); done) | omega) | (rw [sl8]; go_num; done) | (rw [sl8]; simp; done) | (rw [sl8]; simp; omega)), (by first | (with_reducible exact sl9) | (rw [sl9]; (with_reducible go_num); done) | (rw [sl9, IntWalk.i64_in] <;> first | ((with_reducible go_num); done) | omega) | (rw [sl9]; go_num; done) | (rw [sl9]; simp; done) | (rw [sl9]; simp; omega)), (sl1.trans hc0_1.out.symm), (sl2.trans hc0_2.out.symm), (sl3.trans hc0_3.out.symm), (sl6.trans hc0_6.out.symm), HL31.out, by omega, hid (.inr ⟨rfl, List.any_eq_true.2 ⟨cs[i], List.getElem_mem hlt, Hbd.out⟩⟩)⟩
      omega
    ·skip
     have h29' : ¬ ev = 0 := by simpa using h29
     repeat ((fail_if_success refine stp ?_); with_reducible go_step)
     clear HL31; clear hc0_1 hc0_2 hc0_3 hc0_6; refine region_F ?_; refine pl ?_; refine pl ?_; refine listF_abs (fun s45 z' => ?_); replace sl1 := gs 1 z' sl1; replace sl2 := gs 2 z' sl2; replace sl3 := gs 3 z' sl3; replace sl6 := gs 6 z' sl6; replace sl8 := gs 8 z' sl8; have sl50 := gu 50 z'; clear z' sl9 sl27 sl28 sl29; refine listF_nil ?_
     repeat ((fail_if_success refine stp ?_); with_reducible go_step)
     refine cond_E sl50 (by decide) ?_ ?_ <;> (clear sl50; intro h50 sl50)
     ·skip
      have h50' : ¬ ev = 0 := by simpa using h50
      have He7 := hid (show ev = 7 by rcases hev.out with h | h; exact absurd h.1 h50'; exact h.1); have Ha := hid (asked_3 (h := h) He.out hl30 (by rcases hev.out with h | h; exact absurd h.1 h50'; exact h.2))
      repeat ((fail_if_success refine stp ?_); with_reducible go_step)
      refine region_F ?_; refine pl ?_; refine pl ?_; have cb6_0 := kb6.cell 0 rfl; have cb6_1 := kb6.cell 1 rfl; have zb6 := kb6.2.2; refine pl ?_; refine listF_absw (fun w46 hw' => ?_); have kb6' := cells_of hw' (Cells.set (i := 1) (Cells.set (i := 0) (kb6)))
      (try simp only [vC, List.set_cons_zero, List.set_cons_succ] at kb6')
      have hb47 : OldB [B6] w29 w46 := oldset hw'; clear hw'; clear cb6_0 cb6_1 zb6; clear qb3 qb6; replace kb6 := kb6'; replace kb3 := kb3.oldB hb47 (by first | (simp; done) | (simp; omega)); replace HB := hid (HB.out.more hb47 (by simp; try omega)); clear hb47; have qb3 := kb3.1; have qb6 := kb6.1; clear kb6'; refine pl ?_; refine listF_abs (fun s48 z' => ?_); replace sl6 := gs 6 z' sl6; have sl7 := gu 7 z'; clear z' sl1 sl2 sl3 sl8 sl50; refine listF_nil ?_
      repeat ((fail_if_success refine stp ?_); with_reducible go_step)
      have cb6_0 := kb6.cell 0 rfl; have cb6_1 := kb6.cell 1 rfl; refine ret_F _ (res_ct Try.results54 ((getD_F (by decide)).trans sl6) (load_t23 cb6_0 cb6_1) ((getD_F (by decide)).trans sl7)) ?_; exact ⟨by first | (rw [Ha.out, He7.out]; done) | (rw [Ha.out, He7.out]; rfl), HB.out.toBelow⟩
     ·skip
      exact absurd (show ev = 0 by simpa using h50) h29'
   ·skip
    have hge : ¬ i < cs.length := by simpa using h26
    refine pn false ?_; refine pn false ?_; refine pl ?_; refine listF_abs (fun s49 z' => ?_); replace sl1 := gs 1 z' sl1; replace sl2 := gs 2 z' sl2; replace sl3 := gs 3 z' sl3; replace sl6 := gs 6 z' sl6; replace sl8 := gs 8 z' sl8; replace sl9 := gs 9 z' sl9; have sl29 := gu 29 z'; clear z' sl26; refine listF_nil ?_
    repeat ((fail_if_success refine stp ?_); with_reducible go_step)
    refine cond_f ?_
    repeat ((fail_if_success refine stp ?_); with_reducible go_step)
    clear HL31; clear hc0_1 hc0_2 hc0_3 hc0_6; refine region_F ?_; refine pl ?_; refine pl ?_; refine listF_abs (fun s50 z' => ?_); replace sl1 := gs 1 z' sl1; replace sl2 := gs 2 z' sl2; replace sl3 := gs 3 z' sl3; replace sl6 := gs 6 z' sl6; replace sl8 := gs 8 z' sl8; have sl50 := gu 50 z'; clear z' sl9 sl29; refine listF_nil ?_
    repeat ((fail_if_success refine stp ?_); with_reducible go_step)
    refine cond_E sl50 (by decide) ?_ ?_ <;> (clear sl50; intro h50 sl50)
    ·skip
     have h50' : ¬ ev = 0 := by simpa using h50
     have He7 := hid (show ev = 7 by rcases hev.out with h | h; exact absurd h.1 h50'; exact h.1); have Ha := hid (asked_3 (h := h) He.out hl30 (by rcases hev.out with h | h; exact absurd h.1 h50'; exact h.2))
     repeat ((fail_if_success refine stp ?_); with_reducible go_step)
     refine region_F ?_; refine pl ?_; refine pl ?_; have cb6_0 := kb6.cell 0 rfl; have cb6_1 := kb6.cell 1 rfl; have zb6 := kb6.2.2; refine pl ?_; refine listF_absw (fun w51 hw' => ?_); have kb6' := cells_of hw' (Cells.set (i := 1) (Cells.set (i := 0) (kb6)))
     (try simp only [vC, List.set_cons_zero, List.set_cons_succ] at kb6')
     have hb52 : OldB [B6] w29 w51 := oldset hw'; clear hw'; clear cb6_0 cb6_1 zb6; clear qb3 qb6; replace kb6 := kb6'; replace kb3 := kb3.oldB hb52 (by first | (simp; done) | (simp; omega)); replace HB := hid (HB.out.more hb52 (by simp; try omega)); clear hb52; have qb3 := kb3.1; have qb6 := kb6.1; clear kb6'; refine pl ?_; refine listF_abs (fun s53 z' => ?_); replace sl6 := gs 6 z' sl6; have sl7 := gu 7 z'; clear z' sl1 sl2 sl3 sl8 sl50; refine listF_nil ?_
     repeat ((fail_if_success refine stp ?_); with_reducible go_step)
     have cb6_0 := kb6.cell 0 rfl; have cb6_1 := kb6.cell 1 rfl; refine ret_F _ (res_ct Try.results54 ((getD_F (by decide)).trans sl6) (load_t23 cb6_0 cb6_1) ((getD_F (by decide)).trans sl7)) ?_; exact ⟨by first | (rw [Ha.out, He7.out]; done) | (rw [Ha.out, He7.out]; rfl), HB.out.toBelow⟩
    ·skip
     have H25 := hid (show cs.any (badC k) = false by have h0 : ev = 0 := (by simpa using h50); rcases hev.out with h | h; have := h.2; rwa [List.take_of_length_le (by omega)] at this; have := h.1; omega); have Hok := hid (not_bad H25.out)
     repeat ((fail_if_success refine stp ?_); with_reducible go_step)
     refine region_F ?_; have cb3_0 := kb3.cell 0 rfl; have cb3_1 := kb3.cell 1 rfl; have cb3_2 := kb3.cell 2 rfl; have cb3_3 := kb3.cell 3 rfl; refine pl ?_; refine pl ?_; refine listF_step rfl (fun K' hK => ?_); unfold opF; go_simp; refine (rknown_any k a c ac cc cs _ (Rd.oldB HR.out HB.out (by simp)) HK.out (Rd.oldB HRc.out HB.out (by simp)) (by omega) Hok.out).mono ?_; rintro e w54 ⟨s, t, bb, rfl, hb1, hb2, hb55⟩; have Hb1 := hid hb1; have Hb2 := hid hb2; clear hb1 hb2; refine ⟨_, rfl, hK _ _ ?_⟩; clear hK K'; clear cb3_0 cb3_1 cb3_2 cb3_3; clear qb3 qb6; replace kb3 := kb3.at hb55; replace kb6 := kb6.at hb55; replace HB := hid (HB.out.below hb55); clear hb55; have qb3 := kb3.1; have qb6 := kb6.1
     iterate 4 refine pl ?_
     refine pa (fun w56 B10 hB kb10' hb57 => ?_); have gb10 := HB.out.gB hB; have ob3_b10 := oB qb3 hB; have ob6_b10 := oB qb6 hB; have eb10 := eB hB; clear hB; clear qb3 qb6; replace kb3 := kb3.at hb57; replace kb6 := kb6.at hb57; replace HB := hid (HB.out.below hb57); clear hb57; have qb3 := kb3.1; have qb6 := kb6.1; have kb10 := kb10'; clear kb10'; have qb10 := kb10.1; have cb10_0 := kb10.cell 0 rfl; have cb10_1 := kb10.cell 1 rfl; have zb10 := kb10.2.2; refine pl ?_; refine listF_absw (fun w58 hw' => ?_); have kb10' := cells_of hw' (Cells.set (i := 1) (Cells.set (i := 0) (kb10)))
     (try simp only [vC, List.set_cons_zero, List.set_cons_succ] at kb10')
     have hb59 : OldB [B10] w56 w58 := oldset hw'; clear hw'; clear cb10_0 cb10_1 zb10; clear qb3 qb6 qb10; replace kb10 := kb10'; replace kb3 := kb3.oldB hb59 (by first | (simp; done) | (simp; omega)); replace kb6 := kb6.oldB hb59 (by first | (simp; done) | (simp; omega)); replace HB := hid (HB.out.more hb59 (by simp; try omega)); clear hb59; have qb3 := kb3.1; have qb6 := kb6.1; have qb10 := kb10.1; clear kb10'; refine pl ?_; refine pl ?_; refine listF_abs (fun s60 z' => ?_); replace sl2 := gs 2 z' sl2; replace sl3 := gs 3 z' sl3; replace sl6 := gs 6 z' sl6; have sl10 := gu 10 z'; have sl11 := gu 11 z'; have sl12 := gu 12 z'; clear z' sl1 sl8 sl50; refine listF_nil ?_
     repeat ((fail_if_success refine stp ?_); with_reducible go_step)
     refine region_F ?_; refine pl ?_; refine pl ?_; refine listF_abs (fun s61 z' => ?_); replace sl2 := gs 2 z' sl2; replace sl3 := gs 3 z' sl3; replace sl6 := gs 6 z' sl6; replace sl10 := gs 10 z' sl10; replace sl11 := gs 11 z' sl11; have sl61 := gu 61 z'; clear z' sl12; refine listF_nil ?_
     repeat ((fail_if_success refine stp ?_); with_reducible go_step)
     refine cond_E sl61 (by decide) ?_ ?_ <;> (clear sl61; intro h61 sl61)
     ·skip
      have Ha := hid (asked_4 (h := h) He.out hl30 H25.out (Hb2.out (by simpa using h61)))
      repeat ((fail_if_success refine stp ?_); with_reducible go_step)
      refine region_F ?_; refine pl ?_; have cb6_0 := kb6.cell 0 rfl; have cb6_1 := kb6.cell 1 rfl; have zb6 := kb6.2.2; refine pl ?_; refine listF_absw (fun w62 hw' => ?_); have kb6' := cells_of hw' (Cells.set (i := 1) (Cells.set (i := 0) (kb6)))
      (try simp only [vC, List.set_cons_zero, List.set_cons_succ] at kb6')
      have hb63 : OldB [B6] w58 w62 := oldset hw'; clear hw'; clear cb6_0 cb6_1 zb6; clear qb3 qb6 qb10; replace kb6 := kb6'; replace kb3 := kb3.oldB hb63 (by first | (simp; done) | (simp; omega)); replace kb10 := kb10.oldB hb63 (by first | (simp; done) | (simp; omega)); replace HB := hid (HB.out.more hb63 (by simp; try omega)); clear hb63; have qb3 := kb3.1; have qb6 := kb6.1; have qb10 := kb10.1; clear kb6'; refine pl ?_; refine listF_abs (fun s64 z' => ?_); replace sl6 := gs 6 z' sl6; have sl7 := gu 7 z'; clear z' sl2 sl3 sl10 sl11 sl61; refine listF_nil ?_
      repeat ((fail_if_success refine stp ?_); with_reducible go_step)
      have cb6_0 := kb6.cell 0 rfl; have cb6_1 := kb6.cell 1 rfl; refine ret_F _ (res_ct Try.results54 ((getD_F (by decide)).trans sl6) (load_t23 cb6_0 cb6_1) ((getD_F (by decide)).trans sl7)) ?_; exact ⟨by first | (rw [Ha.out]; done) | (rw [Ha.out]; rfl), HB.out.toBelow⟩
     ·skip
      have Hkn := hid (Hb1.out (by simpa using h61)); obtain ⟨hs, ht1, ht2⟩ := known_in He.out (by omega) Hok.out Hkn.out; have Hs := hid hs; clear hs
      repeat ((fail_if_success refine stp ?_); with_reducible go_step)
      refine region_F ?_; refine pl ?_; refine listF_step rfl (fun K' hK => ?_); unfold opF; go_simp; refine (rin_any h 0 100000 _).mono ?_; rintro e w' ⟨rfl, rfl⟩; refine ⟨_, rfl, hK _ _ ?_⟩; clear hK K'; refine pl ?_; refine listF_abs (fun s66 z' => ?_); replace sl2 := gs 2 z' sl2; replace sl3 := gs 3 z' sl3; replace sl6 := gs 6 z' sl6; replace sl10 := gs 10 z' sl10; replace sl11 := gs 11 z' sl11; have sl65 := gu 65 z'; clear z' sl61; refine listF_nil ?_
      repeat ((fail_if_success refine stp ?_); with_reducible go_step)
      refine cond_E sl65 (by decide) ?_ ?_ <;> (clear sl65; intro h65 sl65)
      ·skip
       have Ha := hid (show asked k cs h = (Span.zero, 7) by rw [asked_5 He.out hl30 H25.out Hkn.out, if_pos (by simpa using h65)])
       repeat ((fail_if_success refine stp ?_); with_reducible go_step)
       refine region_F ?_; refine pl ?_; have cb6_0 := kb6.cell 0 rfl; have cb6_1 := kb6.cell 1 rfl; have zb6 := kb6.2.2; refine pl ?_; refine listF_absw (fun w67 hw' => ?_); have kb6' := cells_of hw' (Cells.set (i := 1) (Cells.set (i := 0) (kb6)))
       (try simp only [vC, List.set_cons_zero, List.set_cons_succ] at kb6')
       have hb68 : OldB [B6] w58 w67 := oldset hw'; clear hw'; clear cb6_0 cb6_1 zb6; clear qb3 qb6 qb10; replace kb6 := kb6'; replace kb3 := kb3.oldB hb68 (by first | (simp; done) | (simp; omega)); replace kb10 := kb10.oldB hb68 (by first | (simp; done) | (simp; omega)); replace HB := hid (HB.out.more hb68 (by simp; try omega)); clear hb68; have qb3 := kb3.1; have qb6 := kb6.1; have qb10 := kb10.1; clear kb6'; refine pl ?_; refine listF_abs (fun s69 z' => ?_); replace sl6 := gs 6 z' sl6; have sl7 := gu 7 z'; clear z' sl2 sl3 sl10 sl11 sl65; refine listF_nil ?_
       repeat ((fail_if_success refine stp ?_); with_reducible go_step)
       have cb6_0 := kb6.cell 0 rfl; have cb6_1 := kb6.cell 1 rfl; refine ret_F _ (res_ct Try.results54 ((getD_F (by decide)).trans sl6) (load_t23 cb6_0 cb6_1) ((getD_F (by decide)).trans sl7)) ?_; exact ⟨by first | (rw [Ha.out]; done) | (rw [Ha.out]; rfl), HB.out.toBelow⟩
      ·skip
       have hin : inb h 0 100000 = true := by simpa using h65
       obtain ⟨hh1, hh2⟩ := (inb_iff _ _ _).1 hin; have Hin := hid (show ¬ inb h 0 100000 = false by rw [hin]; decide); clear hin
       repeat ((fail_if_success refine stp ?_); with_reducible go_step)
       refine region_F ?_
       iterate 3 refine pl ?_
       refine listF_abs (fun s70 z' => ?_); replace sl2 := gs 2 z' sl2; replace sl3 := gs 3 z' sl3; replace sl6 := gs 6 z' sl6; replace sl10 := gs 10 z' sl10; replace sl11 := gs 11 z' sl11; have sl69 := gu 69 z'; clear z' sl65; refine listF_nil ?_
       repeat ((fail_if_success refine stp ?_); with_reducible go_step)
       refine cond_E sl69 (by decide) ?_ ?_ <;> (clear sl69; intro h69 sl69)
       ·skip
        have h69' : h < t := by simpa using h69
        have Ha := hid (show asked k cs h = (Span.zero, 2) by rw [asked_5 He.out hl30 H25.out Hkn.out, if_neg Hin.out, if_pos h69'])
        repeat ((fail_if_success refine stp ?_); with_reducible go_step)
        refine region_F ?_; refine pl ?_; have cb6_0 := kb6.cell 0 rfl; have cb6_1 := kb6.cell 1 rfl; have zb6 := kb6.2.2; refine pl ?_; refine listF_absw (fun w71 hw' => ?_); have kb6' := cells_of hw' (Cells.set (i := 1) (Cells.set (i := 0) (kb6)))
        (try simp only [vC, List.set_cons_zero, List.set_cons_succ] at kb6')
        have hb72 : OldB [B6] w58 w71 := oldset hw'; clear hw'; clear cb6_0 cb6_1 zb6; clear qb3 qb6 qb10; replace kb6 := kb6'; replace kb3 := kb3.oldB hb72 (by first | (simp; done) | (simp; omega)); replace kb10 := kb10.oldB hb72 (by first | (simp; done) | (simp; omega)); replace HB := hid (HB.out.more hb72 (by simp; try omega)); clear hb72; have qb3 := kb3.1; have qb6 := kb6.1; have qb10 := kb10.1; clear kb6'; refine pl ?_; refine listF_abs (fun s73 z' => ?_); replace sl6 := gs 6 z' sl6; have sl7 := gu 7 z'; clear z' sl2 sl3 sl10 sl11 sl69; refine listF_nil ?_
        repeat ((fail_if_success refine stp ?_); with_reducible go_step)
        have cb6_0 := kb6.cell 0 rfl; have cb6_1 := kb6.cell 1 rfl; refine ret_F _ (res_ct Try.results54 ((getD_F (by decide)).trans sl6) (load_t23 cb6_0 cb6_1) ((getD_F (by decide)).trans sl7)) ?_; exact ⟨by first | (rw [Ha.out]; done) | (rw [Ha.out]; rfl), HB.out.toBelow⟩
       ·skip
        have h69' : ¬ h < t := by simpa using h69
        have Ha := hid (show asked k cs h = (later k s (h - t), 0) by rw [asked_5 He.out hl30 H25.out Hkn.out, if_neg Hin.out, if_neg h69']); have wht : IntKind.i64.wrap (h - t) = h - t := IntWalk.i64_in _ (by omega)
        repeat ((fail_if_success refine stp ?_); with_reducible go_step)
        refine region_F ?_; have cb3_0 := kb3.cell 0 rfl; have cb3_1 := kb3.cell 1 rfl; have cb3_2 := kb3.cell 2 rfl; have cb3_3 := kb3.cell 3 rfl; refine pl ?_; have cb10_0 := kb10.cell 0 rfl; have cb10_1 := kb10.cell 1 rfl
        iterate 4 refine pl ?_
        refine listF_step rfl (fun K' hK => ?_); unfold opF; go_simp; refine (rlater_any k a c s (h - t) _ HK.out Hs.out.in ⟨by omega, by omega⟩).mono ?_; rintro e w74 ⟨rfl, hb75⟩; refine ⟨_, rfl, hK _ _ ?_⟩; clear hK K'; clear cb10_0 cb10_1 cb3_0 cb3_1 cb3_2 cb3_3; clear qb3 qb6 qb10; replace kb3 := kb3.at hb75; replace kb6 := kb6.at hb75; replace kb10 := kb10.at hb75; replace HB := hid (HB.out.below hb75); clear hb75; have qb3 := kb3.1; have qb6 := kb6.1; have qb10 := kb10.1; have cb6_0 := kb6.cell 0 rfl; have cb6_1 := kb6.cell 1 rfl; have zb6 := kb6.2.2; refine pl ?_; refine listF_absw (fun w76 hw' => ?_); have kb6' := cells_of hw' (Cells.set (i := 1) (Cells.set (i := 0) (kb6)))
        (try simp only [vC, List.set_cons_zero, List.set_cons_succ] at kb6')
        have hb77 : OldB [B6] w74 w76 := oldset hw'; clear hw'; clear cb6_0 cb6_1 zb6; clear qb3 qb6 qb10; replace kb6 := kb6'; replace kb3 := kb3.oldB hb77 (by first | (simp; done) | (simp; omega)); replace kb10 := kb10.oldB hb77 (by first | (simp; done) | (simp; omega)); replace HB := hid (HB.out.more hb77 (by simp; try omega)); clear hb77; have qb3 := kb3.1; have qb6 := kb6.1; have qb10 := kb10.1; clear kb6'; refine pl ?_; refine listF_abs (fun s78 z' => ?_); replace sl6 := gs 6 z' sl6; have sl7 := gu 7 z'; clear z' sl2 sl3 sl10 sl11 sl69; refine listF_nil ?_
        repeat ((fail_if_success refine stp ?_); with_reducible go_step)
        have cb6_0 := kb6.cell 0 rfl; have cb6_1 := kb6.cell 1 rfl; refine ret_F _ (res_ct Try.results54 ((getD_F (by decide)).trans sl6) (load_t23 cb6_0 cb6_1) ((getD_F (by decide)).trans sl7)) ?_; exact ⟨by first | (rw [Ha.out]; done) | (rw [Ha.out]; rfl), HB.out.toBelow⟩
 ·skip
  have He := hid he
  have he1 : (kdErr k == 0) = false := by simp [he]
  have he2 : (kdErr k != 0) = true := by simp [he]
  have Ha := hid (asked_1 (cs := cs) (h := h) he); clear he; refine region_F ?_
  iterate 3 refine pl ?_
  refine pn false ?_; refine pn false ?_; refine pn false ?_; refine pl ?_; refine listF_abs (fun s79 z' => ?_); replace sl1 := gs 1 z' sl1; replace sl2 := gs 2 z' sl2; replace sl3 := gs 3 z' sl3; replace sl6 := gs 6 z' sl6; replace sl8 := gs 8 z' sl8; have sl21 := gu 21 z'; clear z'; refine listF_nil ?_
  repeat ((fail_if_success refine stp ?_); with_reducible go_step)
  refine cond_f ?_
  repeat ((fail_if_success refine stp ?_); with_reducible go_step)
  refine region_F ?_; refine pl ?_; refine listF_abs (fun s80 z' => ?_); replace sl1 := gs 1 z' sl1; replace sl2 := gs 2 z' sl2; replace sl3 := gs 3 z' sl3; replace sl6 := gs 6 z' sl6; replace sl8 := gs 8 z' sl8; have sl9 := gu 9 z'; clear z' sl21; refine listF_nil ?_
  repeat ((fail_if_success refine stp ?_); with_reducible go_step)
  have hc0_1 := hid sl1; have hc0_2 := hid sl2; have hc0_3 := hid sl3; have hc0_6 := hid sl6; refine loop_F (n := 77) (fun kJ sJ wJ => kJ = 0 ∧ sJ 8 = .int .i64 (kdErr k) ∧ sJ 9 = .int .i64 0 ∧ sJ 1 = s80 1 ∧ sJ 2 = s80 2 ∧ sJ 3 = s80 3 ∧ sJ 6 = s80 6 ∧ OldB [] w6 wJ) ⟨rfl, (by first | exact sl8 | (rw [sl8]; go_num) | (rw [sl8]; rfl)), (by first | exact sl9 | (rw [sl9]; go_num) | (rw [sl9]; rfl)), rfl, rfl, rfl, rfl, OldB.refl _ _⟩ ?_; clear sl8 sl9; rintro kJ s81 w82 ⟨rfl, sl8, sl9, e1, e2, e3, e6, hb83⟩; replace sl1 := e1.trans sl1; clear e1; replace sl2 := e2.trans sl2; clear e2; replace sl3 := e3.trans sl3; clear e3; replace sl6 := e6.trans sl6; clear e6; have hoJ := hb83; clear qb3 qb6; replace kb3 := kb3.oldB hb83 (by first | (simp; done) | (simp; omega)); replace kb6 := kb6.oldB hb83 (by first | (simp; done) | (simp; omega)); replace HB := hid (HB.out.more hb83 (by simp; try omega)); clear hb83; have qb3 := kb3.1; have qb6 := kb6.1
  have HoJ := hid hoJ; clear hoJ; have HL84 := HoJ; clear HoJ
  repeat ((fail_if_success refine stp ?_); with_reducible go_step)
  refine region_F ?_
  iterate 5 refine pl ?_
  refine listF_abs (fun s85 z' => ?_); replace sl1 := gs 1 z' sl1; replace sl2 := gs 2 z' sl2; replace sl3 := gs 3 z' sl3; replace sl6 := gs 6 z' sl6; replace sl8 := gs 8 z' sl8; replace sl9 := gs 9 z' sl9; have sl26 := gu 26 z'; clear z'
  refine boolG sl26 (fun sl26' h26 => ?_) (fun sl26' h26 => ?_) <;> (clear sl26; have sl26 := sl26'; clear sl26')
  ·skip
   refine py ?_; refine py ?_; refine pl ?_; refine listF_abs (fun s86 z' => ?_); replace sl1 := gs 1 z' sl1; replace sl2 := gs 2 z' sl2; replace sl3 := gs 3 z' sl3; replace sl6 := gs 6 z' sl6; replace sl8 := gs 8 z' sl8; replace sl9 := gs 9 z' sl9; have sl27 := gu 27 z'; have sl28 := gu 28 z'; have sl29 := gu 29 z'; clear z' sl26; refine listF_nil ?_
   repeat ((fail_if_success refine stp ?_); with_reducible go_step)
   refine cond_f ?_
   repeat ((fail_if_success refine stp ?_); with_reducible go_step)
   clear HL84; clear hc0_1 hc0_2 hc0_3 hc0_6; refine region_F ?_; refine pl ?_; refine pl ?_; refine listF_abs (fun s87 z' => ?_); replace sl1 := gs 1 z' sl1; replace sl2 := gs 2 z' sl2; replace sl3 := gs 3 z' sl3; replace sl6 := gs 6 z' sl6; replace sl8 := gs 8 z' sl8; have sl50 := gu 50 z'; clear z' sl9 sl27 sl28 sl29; refine listF_nil ?_
   repeat ((fail_if_success refine stp ?_); with_reducible go_step)
   refine cond_t ?_
   repeat ((fail_if_success refine stp ?_); with_reducible go_step)
   refine region_F ?_; refine pl ?_; refine pl ?_; have cb6_0 := kb6.cell 0 rfl; have cb6_1 := kb6.cell 1 rfl; have zb6 := kb6.2.2; refine pl ?_; refine listF_absw (fun w88 hw' => ?_); have kb6' := cells_of hw' (Cells.set (i := 1) (Cells.set (i := 0) (kb6)))
   (try simp only [vC, List.set_cons_zero, List.set_cons_succ] at kb6')
   have hb89 : OldB [B6] w82 w88 := oldset hw'; clear hw'; clear cb6_0 cb6_1 zb6; clear qb3 qb6; replace kb6 := kb6'; replace kb3 := kb3.oldB hb89 (by first | (simp; done) | (simp; omega)); replace HB := hid (HB.out.more hb89 (by simp; try omega)); clear hb89; have qb3 := kb3.1; have qb6 := kb6.1; clear kb6'; refine pl ?_; refine listF_abs (fun s90 z' => ?_); replace sl6 := gs 6 z' sl6; have sl7 := gu 7 z'; clear z' sl1 sl2 sl3 sl8 sl50; refine listF_nil ?_
   repeat ((fail_if_success refine stp ?_); with_reducible go_step)
   have cb6_0 := kb6.cell 0 rfl; have cb6_1 := kb6.cell 1 rfl; refine ret_F _ (res_ct Try.results54 ((getD_F (by decide)).trans sl6) (load_t23 cb6_0 cb6_1) ((getD_F (by decide)).trans sl7)) ?_; exact ⟨by first | (rw [Ha.out]; done) | (rw [Ha.out]; rfl), HB.out.toBelow⟩
  ·skip
   refine pn false ?_; refine pn false ?_; refine pl ?_; refine listF_abs (fun s91 z' => ?_); replace sl1 := gs 1 z' sl1; replace sl2 := gs 2 z' sl2; replace sl3 := gs 3 z' sl3; replace sl6 := gs 6 z' sl6; replace sl8 := gs 8 z' sl8; replace sl9 := gs 9 z' sl9; have sl29 := gu 29 z'; clear z' sl26; refine listF_nil ?_
   repeat ((fail_if_success refine stp ?_); with_reducible go_step)
   refine cond_f ?_
   repeat ((fail_if_success refine stp ?_); with_reducible go_step)
   clear HL84; clear hc0_1 hc0_2 hc0_3 hc0_6; refine region_F ?_; refine pl ?_; refine pl ?_; refine listF_abs (fun s92 z' => ?_); replace sl1 := gs 1 z' sl1; replace sl2 := gs 2 z' sl2; replace sl3 := gs 3 z' sl3; replace sl6 := gs 6 z' sl6; replace sl8 := gs 8 z' sl8; have sl50 := gu 50 z'; clear z' sl9 sl29; refine listF_nil ?_
   repeat ((fail_if_success refine stp ?_); with_reducible go_step)
   refine cond_t ?_
   repeat ((fail_if_success refine stp ?_); with_reducible go_step)
   refine region_F ?_; refine pl ?_; refine pl ?_; have cb6_0 := kb6.cell 0 rfl; have cb6_1 := kb6.cell 1 rfl; have zb6 := kb6.2.2; refine pl ?_; refine listF_absw (fun w93 hw' => ?_); have kb6' := cells_of hw' (Cells.set (i := 1) (Cells.set (i := 0) (kb6)))
   (try simp only [vC, List.set_cons_zero, List.set_cons_succ] at kb6')
   have hb94 : OldB [B6] w82 w93 := oldset hw'; clear hw'; clear cb6_0 cb6_1 zb6; clear qb3 qb6; replace kb6 := kb6'; replace kb3 := kb3.oldB hb94 (by first | (simp; done) | (simp; omega)); replace HB := hid (HB.out.more hb94 (by simp; try omega)); clear hb94; have qb3 := kb3.1; have qb6 := kb6.1; clear kb6'; refine pl ?_; refine listF_abs (fun s95 z' => ?_); replace sl6 := gs 6 z' sl6; have sl7 := gu 7 z'; clear z' sl1 sl2 sl3 sl8 sl50; refine listF_nil ?_
   repeat ((fail_if_success refine stp ?_); with_reducible go_step)
   have cb6_0 := kb6.cell 0 rfl; have cb6_1 := kb6.cell 1 rfl; refine ret_F _ (res_ct Try.results54 ((getD_F (by decide)).trans sl6) (load_t23 cb6_0 cb6_1) ((getD_F (by decide)).trans sl7)) ?_; exact ⟨by first | (rw [Ha.out]; done) | (rw [Ha.out]; rfl), HB.out.toBelow⟩
end

section

end

section
open Classical in
end

section
def Incr (l : List Int) : Prop := ∀ i j, i < j → j < l.length → l.getD i 0 < l.getD j 0
theorem Incr.le {l : List Int} (h : Incr l) {i j : Nat} (hij : i ≤ j) (hj : j < l.length) : l.getD i 0 ≤ l.getD j 0 := by
  by_cases e : i = j
  · subst e; exact Int.le_refl _
  · have := h i j (by omega) hj; omega
theorem lastIn_in (l : List Int) (f c : Int) (a : Nat) : ∀ i, 0 ≤ lastIn l f c a i → f ≤ l.getD (lastIn l f c a i).toNat 0 ∧ l.getD (lastIn l f c a i).toNat 0 ≤ c
  | 0, h => by unfold lastIn at h; omega
  | i + 1, h => by
    unfold lastIn at h ⊢
    by_cases hc : a ≤ i ∧ f ≤ l.getD i 0 ∧ l.getD i 0 ≤ c
    · rw [if_pos hc]; exact hc.2
    · rw [if_neg hc] at h ⊢; exact lastIn_in l f c a i h
theorem plan_go {k : Kd} {l : List Int} {f u : Int} {n : Nat} {can : Int} {a : Nat} {p : List Int} (h : planGo k l f u (n + 1) can a = some p) :
    ((can < 0 ∨ u < can) ∧ p = []) ∨ (¬ (can < 0 ∨ u < can) ∧ ∃ (j : Nat) (p' : List Int), p = (j : Int) :: p' ∧ a ≤ j ∧ j < l.length ∧ f ≤ l.getD j 0 ∧ l.getD j 0 ≤ can ∧ planGo k l f u n (canAt k (l.getD j 0)) (j + 1) = some p') := by
  unfold planGo at h
  by_cases hc : can < 0 ∨ u < can
  · rw [if_pos hc] at h; left; exact ⟨hc, by cases h; rfl⟩
  · rw [if_neg hc] at h; right
    by_cases hl : lastIn l f can a l.length < 0
    · rw [if_pos hl] at h; cases h
    · rw [if_neg hl] at h
      obtain ⟨b1, b2, b3⟩ := lastIn_bd l f can a l.length
      have b4 := b3 (by omega)
      obtain ⟨c1, c2⟩ := lastIn_in l f can a l.length (by omega)
      obtain ⟨j, hj⟩ : ∃ j : Nat, lastIn l f can a l.length = j := ⟨(lastIn l f can a l.length).toNat, by omega⟩
      rw [hj, Int.toNat_natCast] at h c1 c2
      rw [Option.map_eq_some_iff] at h
      obtain ⟨p', h1, h2⟩ := h
      exact ⟨hc, j, p', h2.symm, by omega, by omega, c1, c2, h1⟩
theorem plan_in {k : Kd} {l : List Int} {f u : Int} : ∀ (n : Nat) {can : Int} {a : Nat} {p : List Int}, planGo k l f u n can a = some p → ∀ x ∈ p, (a : Int) ≤ x ∧ x < l.length ∧ f ≤ l.getD x.toNat 0
  | 0, _, _, _, h => by cases h
  | n + 1, can, a, p, h => by
    rcases plan_go h with ⟨_, rfl⟩ | ⟨_, j, p', rfl, h1, h2, h3, h4, h5⟩
    · intro x hx; cases hx
    · intro x hx
      rcases List.mem_cons.1 hx with rfl | hx
      · exact ⟨by omega, by omega, by rw [Int.toNat_natCast]; exact h3⟩
      · have := plan_in n h5 x hx
        exact ⟨by omega, this.2⟩
/-- strengths, hour by hour, with what is replaced in the hours of R -/
structure Path (k : Kd) (R : Int → Prop) (F : Nat → Int) (b U : Nat) : Prop where
  new : ∀ t, b ≤ t → t < U → R ((t + 1 : Nat) : Int) → F (t + 1) = k.new
  dn : ∀ t, b ≤ t → t < U → ¬ R ((t + 1 : Nat) : Int) → max 0 (F t - k.wear.hi) ≤ F (t + 1)
/- the fewest -/
/-- another plan's path, with the greatest wear -/
structure Worst (k : Kd) (l : List Int) (W : Nat → Bool) (F : Nat → Int) (b U : Nat) : Prop where
  new : ∀ t, b ≤ t → t < U → (∃ i, i < l.length ∧ W i = true ∧ l.getD i 0 = ((t + 1 : Nat) : Int)) → F (t + 1) = k.new
  up : ∀ t, b ≤ t → t < U → (¬ ∃ i, i < l.length ∧ W i = true ∧ l.getD i 0 = ((t + 1 : Nat) : Int)) → F (t + 1) ≤ max 0 (F t - k.wear.hi)
theorem Worst.from {k : Kd} {l : List Int} {W : Nat → Bool} {F : Nat → Int} {b b' U : Nat} (h : Worst k l W F b U) (hb : b ≤ b') : Worst k l W F b' U := ⟨fun t h1 => h.new t (by omega), fun t h1 => h.up t (by omega)⟩
end


end Go.Proofs.Ytndcmmghgljinaa
