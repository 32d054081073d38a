/- The reference's Group, where it passes. -/
import Derived.Test.YtndcmmghgljinaarbW28
import Derived.Test.YtndcmmghgljinaarbW33
set_option linter.all false
namespace Go.Proofs.Ytndcmmghgljinaa

open Go.RowKit

set_option maxRecDepth 100000 in
set_option maxHeartbeats 8000000 in
theorem rgroup_true (k : Kd) (a : Option Addr) (c : Nat) (al : Option Addr) (cl : Nat) (l : List Span) (v : Int) (w : World) (hsl : k.steps.length ≤ 9223372036854775807) (hR : RdSteps w a k.steps) (hRl : RdSpans w al l) (hll : l.length ≤ 9223372036854775807) :
    Calls Try.prog 32 #[.agg #[.int .i64 k.new, .int .i64 k.wear.lo, .int .i64 k.wear.hi, .slice a k.steps.length c], .slice al l.length cl, .int .i64 v, .bool true] w (GrpRes k l v true w) := by
 have HR := hid hR; have HRl := hid hRl; clear hR hRl; obtain ⟨i0, hi0, hz0, hy0, hx0⟩ := info_parts info_span; obtain ⟨i1, hi1, hz1, hy1, hx1⟩ := info_parts info_int
 refine enter_F Try.func32 rfl Try.ntmps32 (by simp) ?_
 intro s0 hs; have sl0 : s0 0 = .agg #[.int .i64 k.new, .int .i64 k.wear.lo, .int .i64 k.wear.hi, .slice a k.steps.length c] := hs 0 (by simp); have sl1 : s0 1 = .slice al l.length cl := hs 1 (by simp); have sl2 : s0 2 = .int .i64 v := hs 2 (by simp); have sl3 : s0 3 = .bool true := hs 3 (by simp); clear hs; have HB := hid (OldB.refl [] w)
 repeat ((fail_if_success refine stp ?_); with_reducible go_step)
 refine region_F ?_; refine pa (fun w1 B4 hB kb4' hb2 => ?_); have gb4 := HB.out.gB hB; have eb4 := eB hB; clear hB; replace HB := hid (HB.out.below hb2); clear hb2; have kb4 := kb4'; clear kb4'; have qb4 := kb4.1
 iterate 3 refine pl ?_
 refine listF_abs (fun s3 z' => ?_); replace sl1 := gs 1 z' sl1; replace sl2 := gs 2 z' sl2; replace sl3 := gs 3 z' sl3; have sl4 := gu 4 z'; clear z' sl0; refine listF_nil ?_
 repeat ((fail_if_success refine stp ?_); with_reducible go_step)
 refine region_F ?_; have cb4_0 := kb4.cell 0 rfl; have cb4_1 := kb4.cell 1 rfl; have cb4_2 := kb4.cell 2 rfl; have cb4_3 := kb4.cell 3 rfl; refine pl ?_; refine listF_step rfl (fun K' hK => ?_); unfold opF; go_simp; refine (rcheck_any k a c _ hsl (Rd.oldB HR.out HB.out (by simp))).mono ?_; rintro e w4 ⟨rfl, hb5⟩; refine ⟨_, rfl, hK _ _ ?_⟩; clear hK K'; clear cb4_0 cb4_1 cb4_2 cb4_3; clear qb4; replace kb4 := kb4.at hb5; replace HB := hid (HB.out.below hb5); clear hb5; have qb4 := kb4.1; refine pl ?_; refine listF_abs (fun s6 z' => ?_); replace sl1 := gs 1 z' sl1; replace sl2 := gs 2 z' sl2; replace sl3 := gs 3 z' sl3; replace sl4 := gs 4 z' sl4; have sl11 := gu 11 z'; clear z'; refine listF_nil ?_
 repeat ((fail_if_success refine stp ?_); with_reducible go_step)
 have hj7_1 := hid sl1; have hj7_2 := hid sl2; have hj7_3 := hid sl3; have hj7_4 := hid sl4; have hj7_11 := hid sl11; refine cut_any (fun sJ wJ => sJ 29 = .bool (decide (kdErr k = 0) && !(voltOk k v)) ∧ sJ 1 = s6 1 ∧ sJ 2 = s6 2 ∧ sJ 3 = s6 3 ∧ sJ 4 = s6 4 ∧ sJ 11 = s6 11 ∧ OldB [] w4 wJ) ?_ ?_
 ·skip
  have HL8 := hid (OldB.refl [] w4); refine region_F ?_
  iterate 3 refine pl ?_
  refine listF_abs (fun s9 z' => ?_); replace sl1 := gs 1 z' sl1; replace sl2 := gs 2 z' sl2; replace sl3 := gs 3 z' sl3; replace sl4 := gs 4 z' sl4; replace sl11 := gs 11 z' sl11; have sl24 := gu 24 z'; clear z'
  refine boolG sl24 (fun sl24' h24 => ?_) (fun sl24' h24 => ?_) <;> (clear sl24; have sl24 := sl24'; clear sl24')
  ·skip
   have he0 : kdErr k = 0 := by simpa using h24
   have HK := hid (kok_of he0); have He := hid he0; clear he0; have cb4_0 := kb4.cell 0 rfl; have cb4_1 := kb4.cell 1 rfl; have cb4_2 := kb4.cell 2 rfl; have cb4_3 := kb4.cell 3 rfl; refine py ?_; refine py ?_; refine listF_yes rfl rfl (by decide) ?_ (fun K' hK => ?_); (focus (go_simp; done)); unfold opF; go_simp; refine (rvoltage_any k a c v _ (Rd.oldB HR.out HB.out (by simp)) HK.out).mono ?_; rintro e w10 ⟨rfl, hb11⟩; refine ⟨_, rfl, hK _ _ ?_⟩; clear hK K'; clear cb4_0 cb4_1 cb4_2 cb4_3; clear qb4; replace kb4 := kb4.at hb11; replace HL8 := hid (HL8.out.below hb11); replace HB := hid (HB.out.below hb11); clear hb11; have qb4 := kb4.1; refine py ?_; refine pl ?_; refine listF_abs (fun s12 z' => ?_); replace sl1 := gs 1 z' sl1; replace sl2 := gs 2 z' sl2; replace sl3 := gs 3 z' sl3; replace sl4 := gs 4 z' sl4; replace sl11 := gs 11 z' sl11; have sl29 := gu 29 z'; clear z' sl24; refine listF_nil ?_
   repeat ((fail_if_success refine stp ?_); with_reducible go_step)
   exact ⟨rfl, _, rfl, (by rw [sl29]; simp [He.out]), (sl1.trans hj7_1.out.symm), (sl2.trans hj7_2.out.symm), (sl3.trans hj7_3.out.symm), (sl4.trans hj7_4.out.symm), (sl11.trans hj7_11.out.symm), HL8.out⟩
  ·skip
   have He := hid (show ¬ kdErr k = 0 by simpa using h24)
   refine pn false ?_
   refine pn false ?_; refine pn false ?_; refine pn false ?_; refine pl ?_; refine listF_abs (fun s13 z' => ?_); replace sl1 := gs 1 z' sl1; replace sl2 := gs 2 z' sl2; replace sl3 := gs 3 z' sl3; replace sl4 := gs 4 z' sl4; replace sl11 := gs 11 z' sl11; have sl29 := gu 29 z'; clear z' sl24; refine listF_nil ?_
   repeat ((fail_if_success refine stp ?_); with_reducible go_step)
   exact ⟨rfl, _, rfl, (by rw [sl29]; simp [He.out]), (sl1.trans hj7_1.out.symm), (sl2.trans hj7_2.out.symm), (sl3.trans hj7_3.out.symm), (sl4.trans hj7_4.out.symm), (sl11.trans hj7_11.out.symm), HL8.out⟩
 ·skip
  rintro s14 w15 ⟨sl29, e1, e2, e3, e4, e11, hb16⟩; replace sl1 := e1.trans sl1; clear e1 hj7_1; replace sl2 := e2.trans sl2; clear e2 hj7_2; replace sl3 := e3.trans sl3; clear e3 hj7_3; replace sl4 := e4.trans sl4; clear e4 hj7_4; replace sl11 := e11.trans sl11; clear e11 hj7_11; clear qb4; replace kb4 := kb4.oldB hb16 (by first | (simp; done) | (simp; omega)); replace HB := hid (HB.out.more hb16 (by simp; try omega)); clear hb16; have qb4 := kb4.1
  repeat ((fail_if_success refine stp ?_); with_reducible go_step)
  have hj17_1 := hid sl1; have hj17_2 := hid sl2; have hj17_3 := hid sl3; have hj17_4 := hid sl4; refine cut_any (fun sJ wJ => sJ 11 = .int .i64 (gE1 k v) ∧ sJ 1 = s14 1 ∧ sJ 2 = s14 2 ∧ sJ 3 = s14 3 ∧ sJ 4 = s14 4 ∧ OldB [] w15 wJ) ?_ ?_
  ·skip
   have HL18 := hid (OldB.refl [] w15)
   refine cond_E sl29 (by decide) ?_ ?_ <;> (clear sl29; intro h29 sl29)
   ·skip
    repeat ((fail_if_success refine stp ?_); with_reducible go_step)
    refine region_F ?_; refine pl ?_; refine listF_abs (fun s19 z' => ?_); replace sl1 := gs 1 z' sl1; replace sl2 := gs 2 z' sl2; replace sl3 := gs 3 z' sl3; replace sl4 := gs 4 z' sl4; replace sl11 := gu 11 z'; clear z' sl29; refine listF_nil ?_
    repeat ((fail_if_success refine stp ?_); with_reducible go_step)
    exact ⟨rfl, _, rfl, (by have h := h29; simp at h; rw [sl11]; unfold gE1; simp [h.1, h.2]), (sl1.trans hj17_1.out.symm), (sl2.trans hj17_2.out.symm), (sl3.trans hj17_3.out.symm), (sl4.trans hj17_4.out.symm), HL18.out⟩
   ·skip
    repeat ((fail_if_success refine stp ?_); with_reducible go_step)
    exact ⟨rfl, _, rfl, (by have h := h29; simp at h; rw [sl11]; unfold gE1; by_cases e : kdErr k = 0; (focus (simp [e, h e])); simp [e]), (sl1.trans hj17_1.out.symm), (sl2.trans hj17_2.out.symm), (sl3.trans hj17_3.out.symm), (sl4.trans hj17_4.out.symm), HL18.out⟩
  ·skip
   clear sl11 sl29; rintro s20 w21 ⟨sl11, e1, e2, e3, e4, hb22⟩; replace sl1 := e1.trans sl1; clear e1 hj17_1; replace sl2 := e2.trans sl2; clear e2 hj17_2; replace sl3 := e3.trans sl3; clear e3 hj17_3; replace sl4 := e4.trans sl4; clear e4 hj17_4; clear qb4; replace kb4 := kb4.oldB hb22 (by first | (simp; done) | (simp; omega)); replace HB := hid (HB.out.more hb22 (by simp; try omega)); clear hb22; have qb4 := kb4.1
   repeat ((fail_if_success refine stp ?_); with_reducible go_step)
   have hj23_1 := hid sl1; have hj23_2 := hid sl2; have hj23_3 := hid sl3; have hj23_4 := hid sl4; have hj23_11 := hid sl11; refine cut_any (fun sJ wJ => sJ 36 = .bool (decide (gE1 k v = 0) && decide (12 < l.length)) ∧ sJ 1 = s20 1 ∧ sJ 2 = s20 2 ∧ sJ 3 = s20 3 ∧ sJ 4 = s20 4 ∧ sJ 11 = s20 11 ∧ OldB [] w21 wJ) ?_ ?_
   ·skip
    have HL24 := hid (OldB.refl [] w21); refine region_F ?_
    iterate 3 refine pl ?_
    refine listF_abs (fun s25 z' => ?_); replace sl1 := gs 1 z' sl1; replace sl2 := gs 2 z' sl2; replace sl3 := gs 3 z' sl3; replace sl4 := gs 4 z' sl4; replace sl11 := gs 11 z' sl11; have sl32 := gu 32 z'; clear z'
    refine boolG sl32 (fun sl32' h32 => ?_) (fun sl32' h32 => ?_) <;> (clear sl32; have sl32 := sl32'; clear sl32')
    ·skip
     have He1 := hid (show gE1 k v = 0 by simpa using h32)
     iterate 3 refine py ?_
     refine pl ?_; refine listF_abs (fun s26 z' => ?_); replace sl1 := gs 1 z' sl1; replace sl2 := gs 2 z' sl2; replace sl3 := gs 3 z' sl3; replace sl4 := gs 4 z' sl4; replace sl11 := gs 11 z' sl11; have sl36 := gu 36 z'; clear z' sl32; refine listF_nil ?_
     repeat ((fail_if_success refine stp ?_); with_reducible go_step)
     exact ⟨rfl, _, rfl, (by rw [sl36]; first | (simp [He1.out]; done) | (simp [He1.out]; omega)), (sl1.trans hj23_1.out.symm), (sl2.trans hj23_2.out.symm), (sl3.trans hj23_3.out.symm), (sl4.trans hj23_4.out.symm), (sl11.trans hj23_11.out.symm), HL24.out⟩
    ·skip
     have He1 := hid (show ¬ gE1 k v = 0 by simpa using h32)
     refine pn false ?_; refine pn false ?_; refine pn false ?_; refine pl ?_; refine listF_abs (fun s27 z' => ?_); replace sl1 := gs 1 z' sl1; replace sl2 := gs 2 z' sl2; replace sl3 := gs 3 z' sl3; replace sl4 := gs 4 z' sl4; replace sl11 := gs 11 z' sl11; have sl36 := gu 36 z'; clear z' sl32; refine listF_nil ?_
     repeat ((fail_if_success refine stp ?_); with_reducible go_step)
     exact ⟨rfl, _, rfl, (by rw [sl36]; first | (simp [He1.out]; done) | (simp [He1.out]; omega)), (sl1.trans hj23_1.out.symm), (sl2.trans hj23_2.out.symm), (sl3.trans hj23_3.out.symm), (sl4.trans hj23_4.out.symm), (sl11.trans hj23_11.out.symm), HL24.out⟩
   ·skip
    rintro s28 w29 ⟨sl36, e1, e2, e3, e4, e11, hb30⟩; replace sl1 := e1.trans sl1; clear e1 hj23_1; replace sl2 := e2.trans sl2; clear e2 hj23_2; replace sl3 := e3.trans sl3; clear e3 hj23_3; replace sl4 := e4.trans sl4; clear e4 hj23_4; replace sl11 := e11.trans sl11; clear e11 hj23_11; clear qb4; replace kb4 := kb4.oldB hb30 (by first | (simp; done) | (simp; omega)); replace HB := hid (HB.out.more hb30 (by simp; try omega)); clear hb30; have qb4 := kb4.1
    repeat ((fail_if_success refine stp ?_); with_reducible go_step)
    have hj31_1 := hid sl1; have hj31_2 := hid sl2; have hj31_3 := hid sl3; have hj31_4 := hid sl4; refine cut_any (fun sJ wJ => sJ 11 = .int .i64 (gEU k l v 0) ∧ sJ 1 = s28 1 ∧ sJ 2 = s28 2 ∧ sJ 3 = s28 3 ∧ sJ 4 = s28 4 ∧ OldB [] w29 wJ) ?_ ?_
    ·skip
     have HL32 := hid (OldB.refl [] w29)
     refine cond_E sl36 (by decide) ?_ ?_ <;> (clear sl36; intro h36 sl36)
     ·skip
      repeat ((fail_if_success refine stp ?_); with_reducible go_step)
      refine region_F ?_; refine pl ?_; refine listF_abs (fun s33 z' => ?_); replace sl1 := gs 1 z' sl1; replace sl2 := gs 2 z' sl2; replace sl3 := gs 3 z' sl3; replace sl4 := gs 4 z' sl4; replace sl11 := gu 11 z'; clear z' sl36; refine listF_nil ?_
      repeat ((fail_if_success refine stp ?_); with_reducible go_step)
      exact ⟨rfl, _, rfl, (by have h := h36; simp at h; rw [sl11]; show _ = Value.int .i64 (gE2 k l v); unfold gE2; simp [h.1, h.2]), (sl1.trans hj31_1.out.symm), (sl2.trans hj31_2.out.symm), (sl3.trans hj31_3.out.symm), (sl4.trans hj31_4.out.symm), HL32.out⟩
     ·skip
      repeat ((fail_if_success refine stp ?_); with_reducible go_step)
      exact ⟨rfl, _, rfl, (by have h := h36; simp at h; rw [sl11]; show _ = Value.int .i64 (gE2 k l v); unfold gE2; by_cases e : gE1 k v = 0; (focus (have h' := h e; simp [e]; omega)); simp [e]), (sl1.trans hj31_1.out.symm), (sl2.trans hj31_2.out.symm), (sl3.trans hj31_3.out.symm), (sl4.trans hj31_4.out.symm), HL32.out⟩
    ·skip
     clear sl11 sl36; rintro s34 w35 ⟨sl11, e1, e2, e3, e4, hb36⟩; replace sl1 := e1.trans sl1; clear e1 hj31_1; replace sl2 := e2.trans sl2; clear e2 hj31_2; replace sl3 := e3.trans sl3; clear e3 hj31_3; replace sl4 := e4.trans sl4; clear e4 hj31_4; clear qb4; replace kb4 := kb4.oldB hb36 (by first | (simp; done) | (simp; omega)); replace HB := hid (HB.out.more hb36 (by simp; try omega)); clear hb36; have qb4 := kb4.1
     repeat ((fail_if_success refine stp ?_); with_reducible go_step)
     refine region_F ?_; refine pl ?_; refine listF_abs (fun s37 z' => ?_); replace sl1 := gs 1 z' sl1; replace sl2 := gs 2 z' sl2; replace sl3 := gs 3 z' sl3; replace sl4 := gs 4 z' sl4; replace sl11 := gs 11 z' sl11; have sl12 := gu 12 z'; clear z'; refine listF_nil ?_
     repeat ((fail_if_success refine stp ?_); with_reducible go_step)
     have hc0_1 := hid sl1; have hc0_2 := hid sl2; have hc0_3 := hid sl3; have hc0_4 := hid sl4; refine loop_F (n := 145) (fun kJ sJ wJ => ∃ (i : Nat), kJ = l.length - i ∧ sJ 11 = .int .i64 (gEU k l v i) ∧ sJ 12 = .int .i64 (i : Int) ∧ sJ 1 = s37 1 ∧ sJ 2 = s37 2 ∧ sJ 3 = s37 3 ∧ sJ 4 = s37 4 ∧ OldB [] w35 wJ ∧ i ≤ l.length) ⟨0, rfl, (by first | exact sl11 | (rw [sl11]; go_num) | (rw [sl11]; rfl)), (by first | exact sl12 | (rw [sl12]; go_num) | (rw [sl12]; rfl)), rfl, rfl, rfl, rfl, OldB.refl _ _, Nat.zero_le _⟩ ?_; clear sl11 sl12; rintro kJ s38 w39 ⟨i, rfl, sl11, sl12, e1, e2, e3, e4, hb40, hil⟩; replace sl1 := e1.trans sl1; clear e1; replace sl2 := e2.trans sl2; clear e2; replace sl3 := e3.trans sl3; clear e3; replace sl4 := e4.trans sl4; clear e4; have hoJ := hb40; clear qb4; replace kb4 := kb4.oldB hb40 (by first | (simp; done) | (simp; omega)); replace HB := hid (HB.out.more hb40 (by simp; try omega)); clear hb40; have qb4 := kb4.1
     have HoJ := hid hoJ; clear hoJ; have HL41 := HoJ; clear HoJ
     repeat ((fail_if_success refine stp ?_); with_reducible go_step)
     have hj42_1 := hid sl1; have hj42_2 := hid sl2; have hj42_3 := hid sl3; have hj42_4 := hid sl4; have hj42_11 := hid sl11; have hj42_12 := hid sl12; refine cut_any (fun sJ wJ => sJ 44 = .bool (decide (i < l.length) && decide (gEU k l v i = 0)) ∧ sJ 1 = s38 1 ∧ sJ 2 = s38 2 ∧ sJ 3 = s38 3 ∧ sJ 4 = s38 4 ∧ sJ 11 = s38 11 ∧ sJ 12 = s38 12 ∧ OldB [] w39 wJ) ?_ ?_
     ·skip
      have HL43 := hid (OldB.refl [] w39); refine region_F ?_
      iterate 5 refine pl ?_
      refine listF_abs (fun s44 z' => ?_); replace sl1 := gs 1 z' sl1; replace sl2 := gs 2 z' sl2; replace sl3 := gs 3 z' sl3; replace sl4 := gs 4 z' sl4; replace sl11 := gs 11 z' sl11; replace sl12 := gs 12 z' sl12; have sl41 := gu 41 z'; clear z'
      refine boolG sl41 (fun sl41' h41 => ?_) (fun sl41' h41 => ?_) <;> (clear sl41; have sl41 := sl41'; clear sl41')
      ·skip
       have hlt := h41; refine py ?_; refine py ?_; refine pl ?_; refine listF_abs (fun s45 z' => ?_); replace sl1 := gs 1 z' sl1; replace sl2 := gs 2 z' sl2; replace sl3 := gs 3 z' sl3; replace sl4 := gs 4 z' sl4; replace sl11 := gs 11 z' sl11; replace sl12 := gs 12 z' sl12; have sl42 := gu 42 z'; have sl43 := gu 43 z'; have sl44 := gu 44 z'; clear z' sl41; refine listF_nil ?_
       repeat ((fail_if_success refine stp ?_); with_reducible go_step)
       exact ⟨rfl, _, rfl, (by rw [sl44]; simp at h41; simp [h41]; rfl), (sl1.trans hj42_1.out.symm), (sl2.trans hj42_2.out.symm), (sl3.trans hj42_3.out.symm), (sl4.trans hj42_4.out.symm), (sl11.trans hj42_11.out.symm), (sl12.trans hj42_12.out.symm), HL43.out⟩
      ·skip
       have hge : ¬ i < l.length := by simpa using h41
       refine pn false ?_; refine pn false ?_; refine pl ?_; refine listF_abs (fun s46 z' => ?_); replace sl1 := gs 1 z' sl1; replace sl2 := gs 2 z' sl2; replace sl3 := gs 3 z' sl3; replace sl4 := gs 4 z' sl4; replace sl11 := gs 11 z' sl11; replace sl12 := gs 12 z' sl12; have sl44 := gu 44 z'; clear z' sl41; refine listF_nil ?_
       repeat ((fail_if_success refine stp ?_); with_reducible go_step)
       exact ⟨rfl, _, rfl, (by rw [sl44]; simp at h41; simp; omega), (sl1.trans hj42_1.out.symm), (sl2.trans hj42_2.out.symm), (sl3.trans hj42_3.out.symm), (sl4.trans hj42_4.out.symm), (sl11.trans hj42_11.out.symm), (sl12.trans hj42_12.out.symm), HL43.out⟩
     ·skip
      rintro s47 w48 ⟨sl44, e1, e2, e3, e4, e11, e12, hb49⟩; replace sl1 := e1.trans sl1; clear e1 hj42_1; replace sl2 := e2.trans sl2; clear e2 hj42_2; replace sl3 := e3.trans sl3; clear e3 hj42_3; replace sl4 := e4.trans sl4; clear e4 hj42_4; replace sl11 := e11.trans sl11; clear e11 hj42_11; replace sl12 := e12.trans sl12; clear e12 hj42_12; clear qb4; replace kb4 := kb4.oldB hb49 (by first | (simp; done) | (simp; omega)); replace HL41 := hid (HL41.out.more hb49 (by simp; try omega)); replace HB := hid (HB.out.more hb49 (by simp; try omega)); clear hb49; have qb4 := kb4.1
      repeat ((fail_if_success refine stp ?_); with_reducible go_step)
      refine cond_E sl44 (by decide) ?_ ?_ <;> (clear sl44; intro h44 sl44)
      ·skip
       obtain ⟨hlt, hev0⟩ : i < l.length ∧ gEU k l v i = 0 := by simpa using h44
       have Hev0 := hid hev0; clear hev0; obtain ⟨b, off, rfl, hbs, c0, c1⟩ := RdSpans.ne (Rd.oldB HRl.out HB.out (by simp)) hlt
       have hlt' : (i : Int) < l.length := by omega
       have wii : IntKind.i64.wrap ((i : Int) + 1) = (i : Int) + 1 := IntWalk.i64_in _ (by omega)
       repeat ((fail_if_success refine stp ?_); with_reducible go_step)
       refine region_F ?_
       iterate 4 refine pl ?_
       refine pa (fun w50 B13 hB kb13' hb51 => ?_); have gb13 := HB.out.gB hB; have lHL41_b13 := HL41.out.gB hB; have ob4_b13 := oB qb4 hB; have eb13 := eB hB; clear hB; clear qb4; replace kb4 := kb4.at hb51; replace HL41 := hid (HL41.out.below hb51); replace HB := hid (HB.out.below hb51); clear hb51; have qb4 := kb4.1; have kb13 := kb13'; clear kb13'; have qb13 := kb13.1; have cb13_0 := kb13.cell 0 rfl; have cb13_1 := kb13.cell 1 rfl; have zb13 := kb13.2.2; refine pl ?_; refine listF_absw (fun w52 hw' => ?_); have kb13' := cells_of hw' (Cells.set (i := 1) (Cells.set (i := 0) (kb13)))
       (try simp only [vC, List.set_cons_zero, List.set_cons_succ] at kb13')
       have hb53 : OldB [B13] w50 w52 := oldset hw'; clear hw'; clear cb13_0 cb13_1 zb13; clear qb4 qb13; replace kb13 := kb13'; replace kb4 := kb4.oldB hb53 (by first | (simp; done) | (simp; omega)); replace HL41 := hid (HL41.out.more hb53 (by simp; try omega)); replace HB := hid (HB.out.more hb53 (by simp; try omega)); clear hb53; have qb4 := kb4.1; have qb13 := kb13.1; clear kb13'; refine listF_abs (fun s54 z' => ?_); replace sl1 := gs 1 z' sl1; replace sl2 := gs 2 z' sl2; replace sl3 := gs 3 z' sl3; replace sl4 := gs 4 z' sl4; replace sl11 := gs 11 z' sl11; replace sl12 := gs 12 z' sl12; have sl13 := gu 13 z'; clear z' sl44; refine listF_nil ?_
       repeat ((fail_if_success refine stp ?_); with_reducible go_step)
       refine region_F ?_; refine pl ?_; have cb13_0 := kb13.cell 0 rfl; have cb13_1 := kb13.cell 1 rfl
       iterate 4 refine pl ?_
       refine listF_abs (fun s55 z' => ?_); replace sl1 := gs 1 z' sl1; replace sl2 := gs 2 z' sl2; replace sl3 := gs 3 z' sl3; replace sl4 := gs 4 z' sl4; replace sl11 := gs 11 z' sl11; replace sl12 := gs 12 z' sl12; replace sl13 := gs 13 z' sl13; have sl55 := gu 55 z'; clear z'; refine listF_nil ?_
       repeat ((fail_if_success refine stp ?_); with_reducible go_step)
       clear cb13_0 cb13_1; have hj56_1 := hid sl1; have hj56_2 := hid sl2; have hj56_3 := hid sl3; have hj56_4 := hid sl4; have hj56_12 := hid sl12; have hj56_13 := hid sl13; refine cut_any (fun sJ wJ => sJ 11 = .int .i64 (if l[i].hi < l[i].lo then 2 else 0) ∧ sJ 1 = s55 1 ∧ sJ 2 = s55 2 ∧ sJ 3 = s55 3 ∧ sJ 4 = s55 4 ∧ sJ 12 = s55 12 ∧ sJ 13 = s55 13 ∧ OldB [] w52 wJ) ?_ ?_
       ·skip
        have HL57 := hid (OldB.refl [] w52)
        refine cond_E sl55 (by decide) ?_ ?_ <;> (clear sl55; intro h55 sl55)
        ·skip
         repeat ((fail_if_success refine stp ?_); with_reducible go_step)
         refine region_F ?_; refine pl ?_; refine listF_abs (fun s58 z' => ?_); replace sl1 := gs 1 z' sl1; replace sl2 := gs 2 z' sl2; replace sl3 := gs 3 z' sl3; replace sl4 := gs 4 z' sl4; replace sl11 := gu 11 z'; replace sl12 := gs 12 z' sl12; replace sl13 := gs 13 z' sl13; clear z' sl55; refine listF_nil ?_
         repeat ((fail_if_success refine stp ?_); with_reducible go_step)
         exact ⟨rfl, _, rfl, (by rw [sl11, if_pos (by simpa using h55)]), (sl1.trans hj56_1.out.symm), (sl2.trans hj56_2.out.symm), (sl3.trans hj56_3.out.symm), (sl4.trans hj56_4.out.symm), (sl12.trans hj56_12.out.symm), (sl13.trans hj56_13.out.symm), HL57.out⟩
        ·skip
         repeat ((fail_if_success refine stp ?_); with_reducible go_step)
         exact ⟨rfl, _, rfl, (by rw [sl11, if_neg (by simpa using h55), Hev0.out]), (sl1.trans hj56_1.out.symm), (sl2.trans hj56_2.out.symm), (sl3.trans hj56_3.out.symm), (sl4.trans hj56_4.out.symm), (sl12.trans hj56_12.out.symm), (sl13.trans hj56_13.out.symm), HL57.out⟩
       ·skip
        clear sl11 sl55; rintro s59 w60 ⟨sl11, e1, e2, e3, e4, e12, e13, hb61⟩; replace sl1 := e1.trans sl1; clear e1 hj56_1; replace sl2 := e2.trans sl2; clear e2 hj56_2; replace sl3 := e3.trans sl3; clear e3 hj56_3; replace sl4 := e4.trans sl4; clear e4 hj56_4; replace sl12 := e12.trans sl12; clear e12 hj56_12; replace sl13 := e13.trans sl13; clear e13 hj56_13; clear qb4 qb13; replace kb4 := kb4.oldB hb61 (by first | (simp; done) | (simp; omega)); replace kb13 := kb13.oldB hb61 (by first | (simp; done) | (simp; omega)); replace HL41 := hid (HL41.out.more hb61 (by simp; try omega)); replace HB := hid (HB.out.more hb61 (by simp; try omega)); clear hb61; have qb4 := kb4.1; have qb13 := kb13.1
        repeat ((fail_if_success refine stp ?_); with_reducible go_step)
        refine region_F ?_; refine pl ?_; have cb13_0 := kb13.cell 0 rfl; have cb13_1 := kb13.cell 1 rfl; refine pl ?_; refine listF_step rfl (fun K' hK => ?_); unfold opF; go_simp; refine (rin_any l[i].lo 0 1000000 _).mono ?_; rintro e w' ⟨rfl, rfl⟩; refine ⟨_, rfl, hK _ _ ?_⟩; clear hK K'; refine pl ?_; refine pl ?_; refine listF_abs (fun s63 z' => ?_); replace sl1 := gs 1 z' sl1; replace sl2 := gs 2 z' sl2; replace sl3 := gs 3 z' sl3; replace sl4 := gs 4 z' sl4; replace sl11 := gs 11 z' sl11; replace sl12 := gs 12 z' sl12; replace sl13 := gs 13 z' sl13; have sl60 := gu 60 z'; clear z'
        refine boolG sl60 (fun sl60' h60 => ?_) (fun sl60' h60 => ?_) <;> (clear sl60; have sl60 := sl60'; clear sl60')
        ·skip
         have Hsp := hid (show spErr l[i] = 7 by unfold spErr; rw [if_pos (.inl (by simpa using h60))])
         refine pn true ?_
         refine pn true ?_; refine pn true ?_; refine pn true ?_; refine pl ?_; refine listF_abs (fun s64 z' => ?_); replace sl1 := gs 1 z' sl1; replace sl2 := gs 2 z' sl2; replace sl3 := gs 3 z' sl3; replace sl4 := gs 4 z' sl4; replace sl11 := gs 11 z' sl11; replace sl12 := gs 12 z' sl12; have sl65 := gu 65 z'; clear z' sl13 sl60; refine listF_nil ?_
         repeat ((fail_if_success refine stp ?_); with_reducible go_step)
         refine cond_t ?_
         repeat ((fail_if_success refine stp ?_); with_reducible go_step)
         refine region_F ?_; refine pl ?_; refine listF_abs (fun s65 z' => ?_); replace sl1 := gs 1 z' sl1; replace sl2 := gs 2 z' sl2; replace sl3 := gs 3 z' sl3; replace sl4 := gs 4 z' sl4; replace sl11 := gu 11 z'; replace sl12 := gs 12 z' sl12; clear z' sl65; refine listF_nil ?_
         repeat ((fail_if_success refine stp ?_); with_reducible go_step)
         refine region_F ?_
         iterate 3 refine pl ?_
         refine listF_abs (fun s66 z' => ?_); replace sl1 := gs 1 z' sl1; replace sl2 := gs 2 z' sl2; replace sl3 := gs 3 z' sl3; replace sl4 := gs 4 z' sl4; replace sl11 := gs 11 z' sl11; replace sl12 := gu 12 z'; clear z'; refine listF_nil ?_
         repeat ((fail_if_success refine stp ?_); with_reducible go_step)
         clear cb13_0 cb13_1; refine ⟨_, _, rfl, ?_, i + 1, rfl, (by rw [sl11]; show _ = Value.int .i64 (if gEU k l v i ≠ 0 then gEU k l v i else spErr (l.getD i Span.zero)); rw [if_neg (show ¬ gEU k l v i ≠ 0 by rw [Hev0.out]; decide), getD_get hlt, Hsp.out]), (by first | (with_reducible exact sl12) | (rw [sl12]; (with_reducible go_num); done) | (rw [sl12, IntWalk.i64_in] <;> first | ((with_reducible go_num); done) | omega) | (rw [sl12]; go_num; done) | (rw [sl12]; simp; done) | (rw [sl12]; simp; omega)), (sl1.trans hc0_1.out.symm), (sl2.trans hc0_2.out.symm), (sl3.trans hc0_3.out.symm), (sl4.trans hc0_4.out.symm), HL41.out, by omega⟩
         omega
        ·skip
         have hi1 : inb l[i].lo 0 1000000 = true := by simpa using h60
         refine py ?_; refine py ?_; refine listF_yes rfl rfl (by decide) ?_ (fun K' hK => ?_); (focus (go_simp; done)); unfold opF; go_simp; refine (rin_any l[i].hi 0 1000000 _).mono ?_; rintro e w' ⟨rfl, rfl⟩; refine ⟨_, rfl, hK _ _ ?_⟩; clear hK K'; refine py ?_; refine pl ?_; refine listF_abs (fun s68 z' => ?_); replace sl1 := gs 1 z' sl1; replace sl2 := gs 2 z' sl2; replace sl3 := gs 3 z' sl3; replace sl4 := gs 4 z' sl4; replace sl11 := gs 11 z' sl11; replace sl12 := gs 12 z' sl12; have sl61 := gu 61 z'; have sl62 := gu 62 z'; have sl63 := gu 63 z'; have sl64 := gu 64 z'; have sl65 := gu 65 z'; clear z' sl13 sl60; refine listF_nil ?_
         repeat ((fail_if_success refine stp ?_); with_reducible go_step)
         refine cond_E sl65 (by decide) ?_ ?_ <;> (clear sl65; intro h65 sl65)
         ·skip
          have Hsp := hid (show spErr l[i] = 7 by unfold spErr; rw [if_pos (.inr (by simpa using h65))])
          repeat ((fail_if_success refine stp ?_); with_reducible go_step)
          refine region_F ?_; refine pl ?_; refine listF_abs (fun s69 z' => ?_); replace sl1 := gs 1 z' sl1; replace sl2 := gs 2 z' sl2; replace sl3 := gs 3 z' sl3; replace sl4 := gs 4 z' sl4; replace sl11 := gu 11 z'; replace sl12 := gs 12 z' sl12; replace sl61 := gs 61 z' sl61; replace sl62 := gs 62 z' sl62; replace sl63 := gs 63 z' sl63; replace sl64 := gs 64 z' sl64; clear z' sl65; refine listF_nil ?_
          repeat ((fail_if_success refine stp ?_); with_reducible go_step)
          refine region_F ?_
          iterate 3 refine pl ?_
          refine listF_abs (fun s70 z' => ?_); replace sl1 := gs 1 z' sl1; replace sl2 := gs 2 z' sl2; replace sl3 := gs 3 z' sl3; replace sl4 := gs 4 z' sl4; replace sl11 := gs 11 z' sl11; replace sl12 := gu 12 z'; replace sl61 := gs 61 z' sl61; replace sl62 := gs 62 z' sl62; replace sl63 := gs 63 z' sl63; replace sl64 := gs 64 z' sl64; clear z'; refine listF_nil ?_
          repeat ((fail_if_success refine stp ?_); with_reducible go_step)
          clear cb13_0 cb13_1; refine ⟨_, _, rfl, ?_, i + 1, rfl, (by rw [sl11]; show _ = Value.int .i64 (if gEU k l v i ≠ 0 then gEU k l v i else spErr (l.getD i Span.zero)); rw [if_neg (show ¬ gEU k l v i ≠ 0 by rw [Hev0.out]; decide), getD_get hlt, Hsp.out]), (by first | (with_reducible exact sl12) | (rw [sl12]; (with_reducible go_num); done) | (rw [sl12, IntWalk.i64_in] <;> first | ((with_reducible go_num); done) | omega) | (rw [sl12]; go_num; done) | (rw [sl12]; simp; done) | (rw [sl12]; simp; omega)), (sl1.trans hc0_1.out.symm), (sl2.trans hc0_2.out.symm), (sl3.trans hc0_3.out.symm), (sl4.trans hc0_4.out.symm), HL41.out, by omega⟩
          omega
         ·skip
          have hi2 : inb l[i].hi 0 1000000 = true := by simpa using h65
          have Hsp := hid (show spErr l[i] = if l[i].hi < l[i].lo then 2 else 0 by unfold spErr; rw [if_neg (by rw [hi1, hi2]; decide)])
          repeat ((fail_if_success refine stp ?_); with_reducible go_step)
          refine region_F ?_
          iterate 3 refine pl ?_
          refine listF_abs (fun s71 z' => ?_); replace sl1 := gs 1 z' sl1; replace sl2 := gs 2 z' sl2; replace sl3 := gs 3 z' sl3; replace sl4 := gs 4 z' sl4; replace sl11 := gs 11 z' sl11; replace sl12 := gu 12 z'; replace sl61 := gs 61 z' sl61; replace sl62 := gs 62 z' sl62; replace sl63 := gs 63 z' sl63; replace sl64 := gs 64 z' sl64; clear z' sl65; refine listF_nil ?_
          repeat ((fail_if_success refine stp ?_); with_reducible go_step)
          clear cb13_0 cb13_1; refine ⟨_, _, rfl, ?_, i + 1, rfl, (by rw [sl11]; show _ = Value.int .i64 (if gEU k l v i ≠ 0 then gEU k l v i else spErr (l.getD i Span.zero)); rw [if_neg (show ¬ gEU k l v i ≠ 0 by rw [Hev0.out]; decide), getD_get hlt, Hsp.out]), (by first | (with_reducible exact sl12) | (rw [sl12]; (with_reducible go_num); done) | (rw [sl12, IntWalk.i64_in] <;> first | ((with_reducible go_num); done) | omega) | (rw [sl12]; go_num; done) | (rw [sl12]; simp; done) | (rw [sl12]; simp; omega)), (sl1.trans hc0_1.out.symm), (sl2.trans hc0_2.out.symm), (sl3.trans hc0_3.out.symm), (sl4.trans hc0_4.out.symm), HL41.out, by omega⟩
          omega
      ·skip
       have Hex := hid (show grpErr k l v = gEU k l v i by by_cases h9 : gEU k l v i = 0; (have h8 := h44; simp [h9] at h8; have h7 := gEU_all k l v; rw [show l.length = i by omega] at h7; exact h7.symm); exact gEU_stop hil h9); have sl11' := sl11; rw [← Hex.out] at sl11'; clear sl11; have sl11 := sl11'; clear sl11'
       repeat ((fail_if_success refine stp ?_); with_reducible go_step)
       clear HL41; clear hc0_1 hc0_2 hc0_3 hc0_4; refine region_F ?_; refine pl ?_; refine pl ?_; refine listF_abs (fun s72 z' => ?_); replace sl1 := gs 1 z' sl1; replace sl2 := gs 2 z' sl2; replace sl3 := gs 3 z' sl3; replace sl4 := gs 4 z' sl4; replace sl11 := gs 11 z' sl11; have sl67 := gu 67 z'; clear z' sl12 sl44; refine listF_nil ?_
       repeat ((fail_if_success refine stp ?_); with_reducible go_step)
       refine cond_E sl67 (by decide) ?_ ?_ <;> (clear sl67; intro h67 sl67)
       ·skip
        have Her := hid (show ¬ grpErr k l v = 0 by simpa using h67)
        repeat ((fail_if_success refine stp ?_); with_reducible go_step)
        refine region_F ?_
        iterate 4 refine pl ?_
        refine listF_abs (fun s73 z' => ?_); have sl8 := gu 8 z'; have sl9 := gu 9 z'; have sl10 := gu 10 z'; clear z' sl1 sl2 sl3 sl4 sl11 sl67; refine listF_nil ?_
        repeat ((fail_if_success refine stp ?_); with_reducible go_step)
        refine ret_F _ (res_ttt Try.results32 ((getD_F (by decide)).trans sl8) ((getD_F (by decide)).trans sl9) ((getD_F (by decide)).trans sl10)) ?_; exact grp_no (by unfold grpRes; rw [if_pos Her.out]) HB.out.toBelow
       ·skip
        have her : grpErr k l v = 0 := by simpa using h67
        obtain ⟨he0, hv0, hl12, hin⟩ := grp_ok her; have Her := hid her; have HK := hid (kok_of he0); have Hv := hid hv0; have Hin := hid hin; obtain ⟨nd1, nd2⟩ := needed_bd HK.out Hv.out; clear her he0 hv0 hin
        repeat ((fail_if_success refine stp ?_); with_reducible go_step)
        refine region_F ?_; have cb4_0 := kb4.cell 0 rfl; have cb4_1 := kb4.cell 1 rfl; have cb4_2 := kb4.cell 2 rfl; have cb4_3 := kb4.cell 3 rfl; refine pl ?_; refine pl ?_; refine listF_step rfl (fun K' hK => ?_); unfold opF; go_simp; refine (rneeded_any k _ c v _ (Rd.oldB HR.out HB.out (by simp)) HK.out Hv.out).mono ?_; rintro e w74 ⟨rfl, hb75⟩; refine ⟨_, rfl, hK _ _ ?_⟩; clear hK K'; clear cb4_0 cb4_1 cb4_2 cb4_3; clear qb4; replace kb4 := kb4.at hb75; replace HB := hid (HB.out.below hb75); clear hb75; have qb4 := kb4.1; refine pl ?_; refine listF_abs (fun s76 z' => ?_); replace sl1 := gs 1 z' sl1; replace sl2 := gs 2 z' sl2; replace sl3 := gs 3 z' sl3; replace sl4 := gs 4 z' sl4; have sl14 := gu 14 z'; clear z' sl11 sl67; refine listF_nil ?_
        repeat ((fail_if_success refine stp ?_); with_reducible go_step)
        refine region_F ?_; obtain ⟨NB, hNB⟩ : ∃ n, n = w74.heap.size := ⟨_, rfl⟩
        have gNB : w.heap.size ≤ NB := by have := HB.out.size; omega
        have hb4NB : B4 < NB := by omega
        have hleNB : NB ≤ w74.heap.size := by omega
        have hgeNB : w74.heap.size ≤ NB := by omega
        clear hNB; refine pl ?_; refine listF_abs (fun s77 z' => ?_); replace sl1 := gs 1 z' sl1; replace sl2 := gs 2 z' sl2; replace sl3 := gs 3 z' sl3; replace sl4 := gs 4 z' sl4; replace sl14 := gs 14 z' sl14; have sl15 := gu 15 z'; clear z'; refine listF_nil ?_
        repeat ((fail_if_success refine stp ?_); with_reducible go_step)
        refine region_F ?_; refine pl ?_; refine listF_abs (fun s78 z' => ?_); replace sl1 := gs 1 z' sl1; replace sl2 := gs 2 z' sl2; replace sl3 := gs 3 z' sl3; replace sl4 := gs 4 z' sl4; replace sl14 := gs 14 z' sl14; replace sl15 := gs 15 z' sl15; have sl16 := gu 16 z'; clear z'; refine listF_nil ?_
        repeat ((fail_if_success refine stp ?_); with_reducible go_step)
        have hc1_1 := hid sl1; have hc1_2 := hid sl2; have hc1_3 := hid sl3; have hc1_4 := hid sl4; have hc1_14 := hid sl14; refine loop_F (n := 145) (fun kJ sJ wJ => ∃ (i : Nat), kJ = l.length - i ∧ sJ 15 = .slice none 0 0 ∧ sJ 16 = .int .i64 (i : Int) ∧ sJ 1 = s78 1 ∧ sJ 2 = s78 2 ∧ sJ 3 = s78 3 ∧ sJ 4 = s78 4 ∧ sJ 14 = s78 14 ∧ OldB [] w74 wJ ∧ i ≤ l.length ∧ Hid ((l.take i).any (fun s => decide (s.hi < needed k v)) = false)) ⟨0, rfl, (by first | exact sl15 | (rw [sl15]; go_num) | (rw [sl15]; rfl)), (by first | exact sl16 | (rw [sl16]; go_num) | (rw [sl16]; rfl)), rfl, rfl, rfl, rfl, rfl, OldB.refl _ _, Nat.zero_le _, hid rfl⟩ ?_; clear sl15 sl16; rintro kJ s79 w80 ⟨i, rfl, sl15, sl16, e1, e2, e3, e4, e14, hb81, hil, hdn⟩; replace sl1 := e1.trans sl1; clear e1; replace sl2 := e2.trans sl2; clear e2; replace sl3 := e3.trans sl3; clear e3; replace sl4 := e4.trans sl4; clear e4; replace sl14 := e14.trans sl14; clear e14
        have hoJ := hb81; clear qb4; replace kb4 := kb4.oldB hb81 (by first | (simp; done) | (simp; omega)); replace HB := hid (HB.out.more hb81 (by simp; try omega)); clear hb81; have qb4 := kb4.1; have HoJ := hid hoJ; clear hoJ; have HL82 := HoJ; clear HoJ
        repeat ((fail_if_success refine stp ?_); with_reducible go_step)
        refine region_F ?_
        iterate 4 refine pl ?_
        refine listF_abs (fun s83 z' => ?_); replace sl1 := gs 1 z' sl1; replace sl2 := gs 2 z' sl2; replace sl3 := gs 3 z' sl3; replace sl4 := gs 4 z' sl4; replace sl14 := gs 14 z' sl14; replace sl15 := gs 15 z' sl15; replace sl16 := gs 16 z' sl16; have sl75 := gu 75 z'; clear z'; refine listF_nil ?_
        repeat ((fail_if_success refine stp ?_); with_reducible go_step)
        refine cond_E sl75 (by decide) ?_ ?_ <;> (clear sl75; intro h75 sl75)
        ·skip
         have hlt : i < l.length := by simpa using h75
         obtain ⟨b, off, rfl, hbs, c0, c1⟩ := RdSpans.ne (Rd.oldB HRl.out HB.out (by simp)) hlt
         have hlt' : (i : Int) < l.length := by omega
         have wii : IntKind.i64.wrap ((i : Int) + 1) = (i : Int) + 1 := IntWalk.i64_in _ (by omega); obtain ⟨⟨s1, s2⟩, ⟨s3, s4⟩, s5⟩ := spErr_in (Hin.out i hlt)
         repeat ((fail_if_success refine stp ?_); with_reducible go_step)
         have hj84_1 := hid sl1; have hj84_2 := hid sl2; have hj84_3 := hid sl3; have hj84_4 := hid sl4; have hj84_14 := hid sl14; have hj84_15 := hid sl15; have hj84_16 := hid sl16; refine cut_any (fun sJ wJ => sJ 88 = .bool false ∧ sJ 1 = s83 1 ∧ sJ 2 = s83 2 ∧ sJ 3 = s83 3 ∧ sJ 4 = s83 4 ∧ sJ 14 = s83 14 ∧ sJ 15 = s83 15 ∧ sJ 16 = s83 16 ∧ OldB [] w80 wJ) ?_ ?_
         ·skip
          have HL85 := hid (OldB.refl [] w80); refine region_F ?_
          iterate 8 refine pl ?_
          refine listF_abs (fun s86 z' => ?_); replace sl1 := gs 1 z' sl1; replace sl2 := gs 2 z' sl2; replace sl3 := gs 3 z' sl3; replace sl4 := gs 4 z' sl4; replace sl14 := gs 14 z' sl14; replace sl15 := gs 15 z' sl15; replace sl16 := gs 16 z' sl16; have sl85 := gu 85 z'; clear z' sl75
          refine boolG sl85 (fun sl85' h85 => ?_) (fun sl85' h85 => ?_) <;> (clear sl85; have sl85 := sl85'; clear sl85')
          ·skip
           refine py ?_; refine py ?_; refine pl ?_; refine listF_abs (fun s87 z' => ?_); replace sl1 := gs 1 z' sl1; replace sl2 := gs 2 z' sl2; replace sl3 := gs 3 z' sl3; replace sl4 := gs 4 z' sl4; replace sl14 := gs 14 z' sl14; replace sl15 := gs 15 z' sl15; replace sl16 := gs 16 z' sl16; have sl86 := gu 86 z'; have sl87 := gu 87 z'; have sl88 := gu 88 z'; clear z' sl85; refine listF_nil ?_
           repeat ((fail_if_success refine stp ?_); with_reducible go_step)
           exact ⟨rfl, _, rfl, (by first | (with_reducible exact sl88) | (rw [sl88]; (with_reducible go_num); done) | (rw [sl88, IntWalk.i64_in] <;> first | ((with_reducible go_num); done) | omega) | (rw [sl88]; go_num; done) | (rw [sl88]; simp; done) | (rw [sl88]; simp; omega)), (sl1.trans hj84_1.out.symm), (sl2.trans hj84_2.out.symm), (sl3.trans hj84_3.out.symm), (sl4.trans hj84_4.out.symm), (sl14.trans hj84_14.out.symm), (sl15.trans hj84_15.out.symm), (sl16.trans hj84_16.out.symm), HL85.out⟩
          ·skip
           refine pn false ?_; refine pn false ?_; refine pl ?_; refine listF_abs (fun s88 z' => ?_); replace sl1 := gs 1 z' sl1; replace sl2 := gs 2 z' sl2; replace sl3 := gs 3 z' sl3; replace sl4 := gs 4 z' sl4; replace sl14 := gs 14 z' sl14; replace sl15 := gs 15 z' sl15; replace sl16 := gs 16 z' sl16; have sl88 := gu 88 z'; clear z' sl85; refine listF_nil ?_
           repeat ((fail_if_success refine stp ?_); with_reducible go_step)
           exact ⟨rfl, _, rfl, (by first | (with_reducible exact sl88) | (rw [sl88]; (with_reducible go_num); done) | (rw [sl88, IntWalk.i64_in] <;> first | ((with_reducible go_num); done) | omega) | (rw [sl88]; go_num; done) | (rw [sl88]; simp; done) | (rw [sl88]; simp; omega)), (sl1.trans hj84_1.out.symm), (sl2.trans hj84_2.out.symm), (sl3.trans hj84_3.out.symm), (sl4.trans hj84_4.out.symm), (sl14.trans hj84_14.out.symm), (sl15.trans hj84_15.out.symm), (sl16.trans hj84_16.out.symm), HL85.out⟩
         ·skip
          clear sl75; rintro s89 w90 ⟨sl88, e1, e2, e3, e4, e14, e15, e16, hb91⟩; replace sl1 := e1.trans sl1; clear e1 hj84_1; replace sl2 := e2.trans sl2; clear e2 hj84_2; replace sl3 := e3.trans sl3; clear e3 hj84_3; replace sl4 := e4.trans sl4; clear e4 hj84_4; replace sl14 := e14.trans sl14; clear e14 hj84_14; replace sl15 := e15.trans sl15; clear e15 hj84_15; replace sl16 := e16.trans sl16; clear e16 hj84_16; clear qb4; replace kb4 := kb4.oldB hb91 (by first | (simp; done) | (simp; omega)); replace HL82 := hid (HL82.out.more hb91 (by simp; try omega)); replace HB := hid (HB.out.more hb91 (by simp; try omega)); clear hb91; have qb4 := kb4.1
          repeat ((fail_if_success refine stp ?_); with_reducible go_step)
          refine cond_f ?_
          repeat ((fail_if_success refine stp ?_); with_reducible go_step)
          have hj92_1 := hid sl1; have hj92_2 := hid sl2; have hj92_3 := hid sl3; have hj92_4 := hid sl4; have hj92_14 := hid sl14; have hj92_15 := hid sl15; have hj92_16 := hid sl16; refine cut_any (fun sJ wJ => sJ 102 = .bool (decide (l[i].hi < needed k v)) ∧ sJ 1 = s89 1 ∧ sJ 2 = s89 2 ∧ sJ 3 = s89 3 ∧ sJ 4 = s89 4 ∧ sJ 14 = s89 14 ∧ sJ 15 = s89 15 ∧ sJ 16 = s89 16 ∧ OldB [] w90 wJ) ?_ ?_
          ·skip
           have HL93 := hid (OldB.refl [] w90); refine region_F ?_
           iterate 4 refine pl ?_
           clear c0 c1 hbs; obtain ⟨_, _, hab, hbs, c0, c1⟩ := RdSpans.ne (Rd.oldB HRl.out HB.out (by simp)) hlt
           cases hab
           iterate 4 refine pl ?_
           refine listF_abs (fun s94 z' => ?_); replace sl1 := gs 1 z' sl1; replace sl2 := gs 2 z' sl2; replace sl3 := gs 3 z' sl3; replace sl4 := gs 4 z' sl4; replace sl14 := gs 14 z' sl14; replace sl15 := gs 15 z' sl15; replace sl16 := gs 16 z' sl16; have sl100 := gu 100 z'; clear z' sl88
           refine boolG sl100 (fun sl100' h100 => ?_) (fun sl100' h100 => ?_) <;> (clear sl100; have sl100 := sl100'; clear sl100')
           ·skip
            refine py ?_; refine pl ?_; refine listF_abs (fun s95 z' => ?_); replace sl1 := gs 1 z' sl1; replace sl2 := gs 2 z' sl2; replace sl3 := gs 3 z' sl3; replace sl4 := gs 4 z' sl4; replace sl14 := gs 14 z' sl14; replace sl15 := gs 15 z' sl15; replace sl16 := gs 16 z' sl16; have sl101 := gu 101 z'; have sl102 := gu 102 z'; clear z' sl100; refine listF_nil ?_
            repeat ((fail_if_success refine stp ?_); with_reducible go_step)
            exact ⟨rfl, _, rfl, (by rw [sl102]; simp at h100; simp [h100]), (sl1.trans hj92_1.out.symm), (sl2.trans hj92_2.out.symm), (sl3.trans hj92_3.out.symm), (sl4.trans hj92_4.out.symm), (sl14.trans hj92_14.out.symm), (sl15.trans hj92_15.out.symm), (sl16.trans hj92_16.out.symm), HL93.out⟩
           ·skip
            refine pn false ?_; refine pl ?_; refine listF_abs (fun s96 z' => ?_); replace sl1 := gs 1 z' sl1; replace sl2 := gs 2 z' sl2; replace sl3 := gs 3 z' sl3; replace sl4 := gs 4 z' sl4; replace sl14 := gs 14 z' sl14; replace sl15 := gs 15 z' sl15; replace sl16 := gs 16 z' sl16; have sl102 := gu 102 z'; clear z' sl100; refine listF_nil ?_
            repeat ((fail_if_success refine stp ?_); with_reducible go_step)
            exact ⟨rfl, _, rfl, (by rw [sl102]; simp at h100; simp [h100]), (sl1.trans hj92_1.out.symm), (sl2.trans hj92_2.out.symm), (sl3.trans hj92_3.out.symm), (sl4.trans hj92_4.out.symm), (sl14.trans hj92_14.out.symm), (sl15.trans hj92_15.out.symm), (sl16.trans hj92_16.out.symm), HL93.out⟩
          ·skip
           clear sl88; rintro s97 w98 ⟨sl102, e1, e2, e3, e4, e14, e15, e16, hb99⟩; replace sl1 := e1.trans sl1; clear e1 hj92_1; replace sl2 := e2.trans sl2; clear e2 hj92_2; replace sl3 := e3.trans sl3; clear e3 hj92_3; replace sl4 := e4.trans sl4; clear e4 hj92_4; replace sl14 := e14.trans sl14; clear e14 hj92_14; replace sl15 := e15.trans sl15; clear e15 hj92_15; replace sl16 := e16.trans sl16; clear e16 hj92_16; clear qb4; replace kb4 := kb4.oldB hb99 (by first | (simp; done) | (simp; omega)); replace HL82 := hid (HL82.out.more hb99 (by simp; try omega)); replace HB := hid (HB.out.more hb99 (by simp; try omega)); clear hb99; have qb4 := kb4.1
           repeat ((fail_if_success refine stp ?_); with_reducible go_step)
           refine cond_E sl102 (by decide) ?_ ?_ <;> (clear sl102; intro h102 sl102)
           ·skip
            have Hdn := hid (show grpDown k l v true = true from List.any_eq_true.2 ⟨l[i], List.getElem_mem hlt, by simpa using h102⟩)
            repeat ((fail_if_success refine stp ?_); with_reducible go_step)
            refine region_F ?_
            iterate 3 refine pl ?_
            refine listF_abs (fun s100 z' => ?_); have sl8 := gu 8 z'; have sl9 := gu 9 z'; have sl10 := gu 10 z'; clear z' sl1 sl2 sl3 sl4 sl14 sl15 sl16 sl102; refine listF_nil ?_
            repeat ((fail_if_success refine stp ?_); with_reducible go_step)
            refine ret_F _ (res_ttt Try.results32 ((getD_F (by decide)).trans sl8) ((getD_F (by decide)).trans sl9) ((getD_F (by decide)).trans sl10)) ?_; exact grp_no (by unfold grpRes; rw [if_neg (by rw [Her.out]; decide), if_pos Hdn.out]) HB.out.toBelow
           ·skip
            have hnd := hid (show decide (l[i].hi < needed k v) = false by simpa using h102)
            repeat ((fail_if_success refine stp ?_); with_reducible go_step)
            refine region_F ?_
            iterate 3 refine pl ?_
            refine listF_abs (fun s101 z' => ?_); replace sl1 := gs 1 z' sl1; replace sl2 := gs 2 z' sl2; replace sl3 := gs 3 z' sl3; replace sl4 := gs 4 z' sl4; replace sl14 := gs 14 z' sl14; replace sl15 := gs 15 z' sl15; replace sl16 := gu 16 z'; clear z' sl102; refine listF_nil ?_
            repeat ((fail_if_success refine stp ?_); with_reducible go_step)
            refine ⟨_, _, rfl, ?_, i + 1, rfl, (by first | (with_reducible exact sl15) | (rw [sl15]; (with_reducible go_num); done) | (rw [sl15, IntWalk.i64_in] <;> first | ((with_reducible go_num); done) | omega) | (rw [sl15]; go_num; done) | (rw [sl15]; simp; done) | (rw [sl15]; simp; omega)), (by first | (with_reducible exact sl16) | (rw [sl16]; (with_reducible go_num); done) | (rw [sl16, IntWalk.i64_in] <;> first | ((with_reducible go_num); done) | omega) | (rw [sl16]; go_num; done) | (rw [sl16]; simp; done) | (rw [sl16]; simp; omega)), (sl1.trans hc1_1.out.symm), (sl2.trans hc1_2.out.symm), (sl3.trans hc1_3.out.symm), (sl4.trans hc1_4.out.symm), (sl14.trans hc1_14.out.symm), HL82.out, by omega, hid (by rw [any_take_succ _ _ _ hlt, hdn.out, hnd.out]; rfl)⟩
            omega
        ·skip
         have hge2 : ¬ i < l.length := by simpa using h75
         have Hie := hid (show i = l.length by omega)
         repeat ((fail_if_success refine stp ?_); with_reducible go_step)
         clear HL82; clear hc1_1 hc1_2 hc1_3 hc1_4 hc1_14; refine region_F ?_
         iterate 3 refine pl ?_
         refine pn false ?_; refine pn false ?_; refine pn false ?_; refine pl ?_; refine listF_abs (fun s102 z' => ?_); replace sl1 := gs 1 z' sl1; replace sl2 := gs 2 z' sl2; replace sl3 := gs 3 z' sl3; replace sl4 := gs 4 z' sl4; replace sl15 := gs 15 z' sl15; have sl109 := gu 109 z'; clear z' sl14 sl16 sl75; refine listF_nil ?_
         repeat ((fail_if_success refine stp ?_); with_reducible go_step)
         refine cond_f ?_
         repeat ((fail_if_success refine stp ?_); with_reducible go_step)
         refine region_F ?_; obtain ⟨NB2, hNB2⟩ : ∃ n, n = w80.heap.size := ⟨_, rfl⟩
         have gNB2 : w.heap.size ≤ NB2 := by have := HB.out.size; omega
         have hb4NB2 : B4 < NB2 := by omega
         have hleNB2 : NB2 ≤ w80.heap.size := by omega
         have hgeNB2 : w80.heap.size ≤ NB2 := by omega
         clear hNB2; refine pl ?_; refine listF_abs (fun s103 z' => ?_); replace sl1 := gs 1 z' sl1; replace sl2 := gs 2 z' sl2; replace sl3 := gs 3 z' sl3; replace sl4 := gs 4 z' sl4; replace sl15 := gs 15 z' sl15; have sl17 := gu 17 z'; clear z' sl109; refine listF_nil ?_
         repeat ((fail_if_success refine stp ?_); with_reducible go_step)
         refine region_F ?_; refine pl ?_; refine listF_abs (fun s104 z' => ?_); replace sl1 := gs 1 z' sl1; replace sl2 := gs 2 z' sl2; replace sl3 := gs 3 z' sl3; replace sl4 := gs 4 z' sl4; replace sl15 := gs 15 z' sl15; replace sl17 := gs 17 z' sl17; have sl18 := gu 18 z'; clear z'; refine listF_nil ?_
         repeat ((fail_if_success refine stp ?_); with_reducible go_step)
         have hc2_1 := hid sl1; have hc2_2 := hid sl2; have hc2_3 := hid sl3; have hc2_4 := hid sl4; have hc2_15 := hid sl15; refine loop_F (n := 145) (fun kJ sJ wJ => ∃ (i : Nat) (v17 : Value), kJ = l.length - i ∧ sJ 17 = v17 ∧ sJ 18 = .int .i64 (i : Int) ∧ sJ 1 = s104 1 ∧ sJ 2 = s104 2 ∧ sJ 3 = s104 3 ∧ sJ 4 = s104 4 ∧ sJ 15 = s104 15 ∧ OldB [] w80 wJ ∧ i ≤ l.length ∧ Own Span.cs 2 23 NB2 wJ v17 ((aftOf k l v true).take i)) ⟨0, .slice none 0 0, rfl, (by first | exact sl17 | (rw [sl17]; go_num) | (rw [sl17]; rfl)), (by first | exact sl18 | (rw [sl18]; go_num) | (rw [sl18]; rfl)), rfl, rfl, rfl, rfl, rfl, OldB.refl _ _, Nat.zero_le _, Own.nil _ _ _ _ _⟩ ?_; clear sl17 sl18; rintro kJ s105 w106 ⟨i, v17, rfl, sl17, sl18, e1, e2, e3, e4, e15, hb107, hil, hO17⟩; replace sl1 := e1.trans sl1; clear e1; replace sl2 := e2.trans sl2; clear e2; replace sl3 := e3.trans sl3; clear e3; replace sl4 := e4.trans sl4; clear e4
         replace sl15 := e15.trans sl15; clear e15; have hoJ := hb107; clear qb4; replace kb4 := kb4.oldB hb107 (by first | (simp; done) | (simp; omega)); replace HB := hid (HB.out.more hb107 (by simp; try omega)); clear hb107; have qb4 := kb4.1; have HoJ := hid hoJ; clear hoJ; have HL108 := HoJ; clear HoJ
         repeat ((fail_if_success refine stp ?_); with_reducible go_step)
         refine region_F ?_
         iterate 4 refine pl ?_
         refine listF_abs (fun s109 z' => ?_); replace sl1 := gs 1 z' sl1; replace sl2 := gs 2 z' sl2; replace sl3 := gs 3 z' sl3; replace sl4 := gs 4 z' sl4; replace sl15 := gs 15 z' sl15; replace sl17 := gs 17 z' sl17; replace sl18 := gs 18 z' sl18; have sl113 := gu 113 z'; clear z'; refine listF_nil ?_
         repeat ((fail_if_success refine stp ?_); with_reducible go_step)
         refine cond_E sl113 (by decide) ?_ ?_ <;> (clear sl113; intro h113 sl113)
         ·skip
          have hlt : i < l.length := by simpa using h113
          obtain ⟨b, off, rfl, hbs, c0, c1⟩ := RdSpans.ne (Rd.oldB HRl.out HB.out (by simp)) hlt
          have hlt' : (i : Int) < l.length := by omega
          have wii : IntKind.i64.wrap ((i : Int) + 1) = (i : Int) + 1 := IntWalk.i64_in _ (by omega); have Hat := hid (aft_true (k := k) (v := v) hlt)
          repeat ((fail_if_success refine stp ?_); with_reducible go_step)
          refine region_F ?_
          iterate 4 refine pl ?_
          refine pa (fun w110 B19 hB kb19' hb111 => ?_); have gb19 := HB.out.gB hB; have lHL108_b19 := HL108.out.gB hB; have ob4_b19 := oB qb4 hB
          have nhO17_b19 : ∀ g, v17.ownBlock = some g → g < B19 := fun g hg => by have := (World.ownsRow.lt hO17 g hg).2; omega
          have eb19 := eB hB; clear hB; clear qb4; replace kb4 := kb4.at hb111; replace HL108 := hid (HL108.out.below hb111); replace hO17 := Own.at hO17 hb111; replace HB := hid (HB.out.below hb111); clear hb111; have qb4 := kb4.1; have kb19 := kb19'; clear kb19'; have qb19 := kb19.1; have cb19_0 := kb19.cell 0 rfl; have cb19_1 := kb19.cell 1 rfl; have zb19 := kb19.2.2; refine pl ?_; refine listF_absw (fun w112 hw' => ?_); have kb19' := cells_of hw' (Cells.set (i := 1) (Cells.set (i := 0) (kb19)))
          (try simp only [vC, List.set_cons_zero, List.set_cons_succ] at kb19')
          have hb113 : OldB [B19] w110 w112 := oldset hw'; clear hw'; clear cb19_0 cb19_1 zb19; clear qb4 qb19; replace kb19 := kb19'; replace kb4 := kb4.oldB hb113 (by first | (simp; done) | (simp; omega)); replace HL108 := hid (HL108.out.more hb113 (by simp; try omega)); replace hO17 := Own.oldB hO17 hb113 (fun g hg => by have n0 := (World.ownsRow.lt hO17 g hg).1; have nb19 := nhO17_b19 g hg; first | (simp; done) | (simp; omega)); replace HB := hid (HB.out.more hb113 (by simp; try omega)); clear hb113; have qb4 := kb4.1; have qb19 := kb19.1; clear kb19'; refine listF_abs (fun s114 z' => ?_); replace sl1 := gs 1 z' sl1; replace sl2 := gs 2 z' sl2; replace sl3 := gs 3 z' sl3; replace sl4 := gs 4 z' sl4; replace sl15 := gs 15 z' sl15; replace sl17 := gs 17 z' sl17; replace sl18 := gs 18 z' sl18; have sl19 := gu 19 z'; clear z' sl113; refine listF_nil ?_
          repeat ((fail_if_success refine stp ?_); with_reducible go_step)
          refine region_F ?_; refine pl ?_; refine listF_abs (fun s115 z' => ?_); replace sl1 := gs 1 z' sl1; replace sl2 := gs 2 z' sl2; replace sl3 := gs 3 z' sl3; replace sl4 := gs 4 z' sl4; replace sl15 := gs 15 z' sl15; replace sl17 := gs 17 z' sl17; replace sl18 := gs 18 z' sl18; replace sl19 := gs 19 z' sl19; have sl120 := gu 120 z'; clear z'; refine listF_nil ?_
          repeat ((fail_if_success refine stp ?_); with_reducible go_step)
          refine cond_t ?_
          repeat ((fail_if_success refine stp ?_); with_reducible go_step)
          refine region_F ?_; have cb4_0 := kb4.cell 0 rfl; have cb4_1 := kb4.cell 1 rfl; have cb4_2 := kb4.cell 2 rfl; have cb4_3 := kb4.cell 3 rfl; refine pl ?_; have cb19_0 := kb19.cell 0 rfl; have cb19_1 := kb19.cell 1 rfl; refine pl ?_; refine pl ?_; refine listF_step rfl (fun K' hK => ?_); unfold opF; go_simp; refine (ragreed_any k _ c l[i] v true _ (Rd.oldB HR.out HB.out (by simp)) HK.out Hv.out).mono ?_; rintro e w116 ⟨rfl, hb117⟩; refine ⟨_, rfl, hK _ _ ?_⟩; clear hK K'; clear cb19_0 cb19_1 cb4_0 cb4_1 cb4_2 cb4_3; clear qb4 qb19; replace kb4 := kb4.at hb117; replace kb19 := kb19.at hb117; replace HL108 := hid (HL108.out.below hb117); replace hO17 := Own.at hO17 hb117; replace HB := hid (HB.out.below hb117); clear hb117; have qb4 := kb4.1; have qb19 := kb19.1; have cb19_0 := kb19.cell 0 rfl; have cb19_1 := kb19.cell 1 rfl; have zb19 := kb19.2.2; refine pl ?_; refine listF_absw (fun w118 hw' => ?_); have kb19' := cells_of hw' (Cells.set (i := 1) (Cells.set (i := 0) (kb19)))
          (try simp only [vC, List.set_cons_zero, List.set_cons_succ] at kb19')
          have hb119 : OldB [B19] w116 w118 := oldset hw'; clear hw'; clear cb19_0 cb19_1 zb19; clear qb4 qb19; replace kb19 := kb19'; replace kb4 := kb4.oldB hb119 (by first | (simp; done) | (simp; omega)); replace HL108 := hid (HL108.out.more hb119 (by simp; try omega)); replace hO17 := Own.oldB hO17 hb119 (fun g hg => by have n0 := (World.ownsRow.lt hO17 g hg).1; have nb19 := nhO17_b19 g hg; first | (simp; done) | (simp; omega)); replace HB := hid (HB.out.more hb119 (by simp; try omega)); clear hb119; have qb4 := kb4.1; have qb19 := kb19.1; clear kb19'; refine listF_abs (fun s120 z' => ?_); replace sl1 := gs 1 z' sl1; replace sl2 := gs 2 z' sl2; replace sl3 := gs 3 z' sl3; replace sl4 := gs 4 z' sl4; replace sl15 := gs 15 z' sl15; replace sl17 := gs 17 z' sl17; replace sl18 := gs 18 z' sl18; replace sl19 := gs 19 z' sl19; clear z' sl120; refine listF_nil ?_
          repeat ((fail_if_success refine stp ?_); with_reducible go_step)
          refine region_F ?_
          iterate 4 refine pl ?_
          refine pn false ?_
          refine pn false ?_
          refine pn false ?_; refine pn false ?_; refine pn false ?_; refine pl ?_; refine listF_abs (fun s121 z' => ?_); replace sl1 := gs 1 z' sl1; replace sl2 := gs 2 z' sl2; replace sl3 := gs 3 z' sl3; replace sl4 := gs 4 z' sl4; replace sl15 := gs 15 z' sl15; replace sl17 := gs 17 z' sl17; replace sl18 := gs 18 z' sl18; replace sl19 := gs 19 z' sl19; have sl134 := gu 134 z'; clear z'; refine listF_nil ?_
          repeat ((fail_if_success refine stp ?_); with_reducible go_step)
          refine cond_f ?_
          repeat ((fail_if_success refine stp ?_); with_reducible go_step)
          refine region_F ?_; refine pl ?_; have cb19_0 := kb19.cell 0 rfl; have cb19_1 := kb19.cell 1 rfl; refine pl ?_; refine pas (fun w122 B141 hB kb141' hb123 => ?_); have gb141 := HB.out.gB hB; have lHL108_b141 := HL108.out.gB hB; have ob4_b141 := oB qb4 hB; have ob19_b141 := oB qb19 hB
          have nhO17_b141 : ∀ g, v17.ownBlock = some g → g < B141 := fun g hg => by have := (World.ownsRow.lt hO17 g hg).2; omega
          have eb141 := eB hB; clear hB; clear cb19_0 cb19_1; clear qb4 qb19; replace kb4 := kb4.at hb123; replace kb19 := kb19.at hb123; replace HL108 := hid (HL108.out.below hb123); replace hO17 := Own.at hO17 hb123; replace HB := hid (HB.out.below hb123); clear hb123; have qb4 := kb4.1; have qb19 := kb19.1; have kb141 := kb141'; clear kb141'; have qb141 := kb141.1; rw [← Hat.out] at kb141
          have ab4 : v17.ownBlock ≠ some B4 := fun e => by have n0 := (World.ownsRow.lt hO17 _ e).1; omega
          have ab19 : v17.ownBlock ≠ some B19 := fun e => by have n0 := (World.ownsRow.lt hO17 _ e).1; have n9 := nhO17_b19 _ e; omega
          have ab141 : v17.ownBlock ≠ some B141 := fun e => by have n0 := (World.ownsRow.lt hO17 _ e).1; have n9 := nhO17_b141 _ e; omega
          have hzz := HB.out.size; refine listF_step rfl (fun K' hK => ?_); refine opF_app (d := 142) rfl (by decide) (.tmp 139) (.tmp 141) _ rfl 23 i0 _ 16 Try.underlying44 hi0 hz0 hy0 hx0 rfl (by decide) (fun _ => rfl) span_one NB2 v17 ((aftOf k l v true).take i) [(aftAt k l v true i)] (some ⟨B141, 0, none⟩) 1 (by go_simp) (by go_simp) hO17 (Cells.rd (f := Span.cs) (m := 2) (l := [(aftAt k l v true i)]) (fun _ => rfl) kb141) (by have := aft_len k l v true; unfold maxLen; simp; omega) (by have := aft_len k l v true; simp; omega) (by omega) (fun v142 w124 hO' hG hV => hK _ _ ?_); clear hK K' hzz; clear qb4 qb19 qb141; replace kb4 := kb4.grown hG ab4; clear ab4; replace kb19 := kb19.grown hG ab19; clear ab19; replace kb141 := kb141.grown hG ab141; clear ab141; replace HL108 := hid (HL108.out.grown hG (fun k hk => .inl (by have := (World.ownsRow.lt hO17 k hk).1; omega))); replace HB := hid (HB.out.grown hG (fun k hk => .inl (by have := (World.ownsRow.lt hO17 k hk).1; omega)))
          clear hO17; have hO17 := hO'; clear hO' hG hV; clear nhO17_b19 nhO17_b141; have qb4 := kb4.1; have qb19 := kb19.1; have qb141 := kb141.1; refine pl ?_; refine listF_abs (fun s125 z' => ?_); replace sl1 := gs 1 z' sl1; replace sl2 := gs 2 z' sl2; replace sl3 := gs 3 z' sl3; replace sl4 := gs 4 z' sl4; replace sl15 := gs 15 z' sl15; replace sl17 := gu 17 z'; replace sl18 := gs 18 z' sl18; clear z' sl19 sl134; refine listF_nil ?_
          repeat ((fail_if_success refine stp ?_); with_reducible go_step)
          refine region_F ?_
          iterate 3 refine pl ?_
          refine listF_abs (fun s126 z' => ?_); replace sl1 := gs 1 z' sl1; replace sl2 := gs 2 z' sl2; replace sl3 := gs 3 z' sl3; replace sl4 := gs 4 z' sl4; replace sl15 := gs 15 z' sl15; replace sl17 := gs 17 z' sl17; replace sl18 := gu 18 z'; clear z'; refine listF_nil ?_
          repeat ((fail_if_success refine stp ?_); with_reducible go_step)
          refine ⟨_, _, rfl, ?_, i + 1, v142, rfl, (by first | (with_reducible exact sl17) | (rw [sl17]; (with_reducible go_num); done) | (rw [sl17, IntWalk.i64_in] <;> first | ((with_reducible go_num); done) | omega) | (rw [sl17]; go_num; done) | (rw [sl17]; simp; done) | (rw [sl17]; simp; omega)), (by first | (with_reducible exact sl18) | (rw [sl18]; (with_reducible go_num); done) | (rw [sl18, IntWalk.i64_in] <;> first | ((with_reducible go_num); done) | omega) | (rw [sl18]; go_num; done) | (rw [sl18]; simp; done) | (rw [sl18]; simp; omega)), (sl1.trans hc2_1.out.symm), (sl2.trans hc2_2.out.symm), (sl3.trans hc2_3.out.symm), (sl4.trans hc2_4.out.symm), (sl15.trans hc2_15.out.symm), HL108.out, by omega, (by rw [aft_succ hlt]; exact hO17)⟩
          omega
         ·skip
          have hge3 : ¬ i < l.length := by simpa using h113
          have Hal := hid (show (aftOf k l v true).take i = aftOf k l v true from List.take_of_length_le (by rw [aft_len]; omega)); obtain ⟨a17, c17, rfl, hr17, hn17⟩ := Own.slice (f := Span.cs) (m := 2) (fun _ => rfl) hO17; have Hn17 := hid hn17; rw [Hal.out] at hr17; have sl17' := sl17; rw [Hal.out] at sl17'; clear sl17; have sl17 := sl17'; clear sl17'
          repeat ((fail_if_success refine stp ?_); with_reducible go_step)
          clear HL108; clear hc2_1 hc2_2 hc2_3 hc2_4 hc2_15; refine region_F ?_
          iterate 5 refine pl ?_
          refine listF_abs (fun s127 z' => ?_); have sl8 := gu 8 z'; have sl9 := gu 9 z'; have sl10 := gu 10 z'; clear z' sl1 sl2 sl3 sl4 sl15 sl17 sl18 sl113; refine listF_nil ?_
          repeat ((fail_if_success refine stp ?_); with_reducible go_step)
          refine ret_F _ (res_ttt Try.results32 ((getD_F (by decide)).trans sl8) ((getD_F (by decide)).trans sl9) ((getD_F (by decide)).trans sl10)) ?_; have Hgr := hid (show grpRes k l v true = (aftOf k l v true, [], 0) by unfold grpRes; rw [if_neg (by rw [Her.out]; decide), if_neg (by have := hdn.out; rw [Hie.out, List.take_length] at this; rw [show grpDown k l v true = l.any (fun s => decide (s.hi < needed k v)) from rfl, this]; decide)]; rfl); exact ⟨a17, c17, none, 0, by rw [Hgr.out]; rfl, by rw [Hgr.out]; exact hr17, by rw [Hgr.out]; exact .inl rfl, HB.out.toBelow, (fun b hb => by have := Hn17.out b hb; omega), (fun b hb => by cases hb)⟩

end Go.Proofs.Ytndcmmghgljinaa
