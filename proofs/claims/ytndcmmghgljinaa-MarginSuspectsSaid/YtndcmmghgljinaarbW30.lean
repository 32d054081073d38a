/- The reference's Group, where it fails. -/
import Derived.Test.YtndcmmghgljinaarbW28
import Derived.Test.YtndcmmghgljinaarbW33
set_option linter.all false
namespace Go.Proofs.Ytndcmmghgljinaa

open Go.RowKit

set_option maxRecDepth 100000 in
set_option maxHeartbeats 8000000 in
theorem rgroup_false (k : Kd) (a : Option Addr) (c : Nat) (al : Option Addr) (cl : Nat) (l : List Span) (v : Int) (w : World) (hsl : k.steps.length ≤ 9223372036854775807) (hR : RdSteps w a k.steps) (hRl : RdSpans w al l) (hll : l.length ≤ 9223372036854775807) :
    Calls Try.prog 32 #[.agg #[.int .i64 k.new, .int .i64 k.wear.lo, .int .i64 k.wear.hi, .slice a k.steps.length c], .slice al l.length cl, .int .i64 v, .bool false] w (GrpRes k l v false w) := by
 have HR := hid hR; have HRl := hid hRl; clear hR hRl; obtain ⟨i0, hi0, hz0, hy0, hx0⟩ := info_parts info_span; obtain ⟨i1, hi1, hz1, hy1, hx1⟩ := info_parts info_int
 refine enter_F Try.func32 rfl Try.ntmps32 (by simp) ?_
 intro s0 hs; have sl0 : s0 0 = .agg #[.int .i64 k.new, .int .i64 k.wear.lo, .int .i64 k.wear.hi, .slice a k.steps.length c] := hs 0 (by simp); have sl1 : s0 1 = .slice al l.length cl := hs 1 (by simp); have sl2 : s0 2 = .int .i64 v := hs 2 (by simp); have sl3 : s0 3 = .bool false := hs 3 (by simp); clear hs; have HB := hid (OldB.refl [] w)
 repeat ((fail_if_success refine stp ?_); with_reducible go_step)
 refine region_F ?_; refine pa (fun w1 B4 hB kb4' hb2 => ?_); have gb4 := HB.out.gB hB; have eb4 := eB hB; clear hB; replace HB := hid (HB.out.below hb2); clear hb2; have kb4 := kb4'; clear kb4'; have qb4 := kb4.1
 iterate 3 refine pl ?_
 refine listF_abs (fun s3 z' => ?_); replace sl1 := gs 1 z' sl1; replace sl2 := gs 2 z' sl2; replace sl3 := gs 3 z' sl3; have sl4 := gu 4 z'; clear z' sl0; refine listF_nil ?_
 repeat ((fail_if_success refine stp ?_); with_reducible go_step)
 refine region_F ?_; have cb4_0 := kb4.cell 0 rfl; have cb4_1 := kb4.cell 1 rfl; have cb4_2 := kb4.cell 2 rfl; have cb4_3 := kb4.cell 3 rfl; refine pl ?_; refine listF_step rfl (fun K' hK => ?_); unfold opF; go_simp; refine (rcheck_any k a c _ hsl (Rd.oldB HR.out HB.out (by simp))).mono ?_; rintro e w4 ⟨rfl, hb5⟩; refine ⟨_, rfl, hK _ _ ?_⟩; clear hK K'; clear cb4_0 cb4_1 cb4_2 cb4_3; clear qb4; replace kb4 := kb4.at hb5; replace HB := hid (HB.out.below hb5); clear hb5; have qb4 := kb4.1; refine pl ?_; refine listF_abs (fun s6 z' => ?_); replace sl1 := gs 1 z' sl1; replace sl2 := gs 2 z' sl2; replace sl3 := gs 3 z' sl3; replace sl4 := gs 4 z' sl4; have sl11 := gu 11 z'; clear z'; refine listF_nil ?_
 repeat ((fail_if_success refine stp ?_); with_reducible go_step)
 have hj7_1 := hid sl1; have hj7_2 := hid sl2; have hj7_3 := hid sl3; have hj7_4 := hid sl4; have hj7_11 := hid sl11; refine cut_any (fun sJ wJ => sJ 29 = .bool (decide (kdErr k = 0) && !(voltOk k v)) ∧ sJ 1 = s6 1 ∧ sJ 2 = s6 2 ∧ sJ 3 = s6 3 ∧ sJ 4 = s6 4 ∧ sJ 11 = s6 11 ∧ OldB [] w4 wJ) ?_ ?_
 ·skip
  have HL8 := hid (OldB.refl [] w4); refine region_F ?_
  iterate 3 refine pl ?_
  refine listF_abs (fun s9 z' => ?_); replace sl1 := gs 1 z' sl1; replace sl2 := gs 2 z' sl2; replace sl3 := gs 3 z' sl3; replace sl4 := gs 4 z' sl4; replace sl11 := gs 11 z' sl11; have sl24 := gu 24 z'; clear z'
  refine boolG sl24 (fun sl24' h24 => ?_) (fun sl24' h24 => ?_) <;> (clear sl24; have sl24 := sl24'; clear sl24')
  ·skip
   have he0 : kdErr k = 0 := by simpa using h24
   have HK := hid (kok_of he0); have He := hid he0; clear he0; have cb4_0 := kb4.cell 0 rfl; have cb4_1 := kb4.cell 1 rfl; have cb4_2 := kb4.cell 2 rfl; have cb4_3 := kb4.cell 3 rfl; refine py ?_; refine py ?_; refine listF_yes rfl rfl (by decide) ?_ (fun K' hK => ?_); (focus (go_simp; done)); unfold opF; go_simp; refine (rvoltage_any k a c v _ (Rd.oldB HR.out HB.out (by simp)) HK.out).mono ?_; rintro e w10 ⟨rfl, hb11⟩; refine ⟨_, rfl, hK _ _ ?_⟩; clear hK K'; clear cb4_0 cb4_1 cb4_2 cb4_3; clear qb4; replace kb4 := kb4.at hb11; replace HL8 := hid (HL8.out.below hb11); replace HB := hid (HB.out.below hb11); clear hb11; have qb4 := kb4.1; refine py ?_; refine pl ?_; refine listF_abs (fun s12 z' => ?_); replace sl1 := gs 1 z' sl1; replace sl2 := gs 2 z' sl2; replace sl3 := gs 3 z' sl3; replace sl4 := gs 4 z' sl4; replace sl11 := gs 11 z' sl11; have sl29 := gu 29 z'; clear z' sl24; refine listF_nil ?_
   repeat ((fail_if_success refine stp ?_); with_reducible go_step)
   exact ⟨rfl, _, rfl, (by rw [sl29]; simp [He.out]), (sl1.trans hj7_1.out.symm), (sl2.trans hj7_2.out.symm), (sl3.trans hj7_3.out.symm), (sl4.trans hj7_4.out.symm), (sl11.trans hj7_11.out.symm), HL8.out⟩
  ·skip
   have He := hid (show ¬ kdErr k = 0 by simpa using h24)
   refine pn false ?_
   refine pn false ?_; refine pn false ?_; refine pn false ?_; refine pl ?_; refine listF_abs (fun s13 z' => ?_); replace sl1 := gs 1 z' sl1; replace sl2 := gs 2 z' sl2; replace sl3 := gs 3 z' sl3; replace sl4 := gs 4 z' sl4; replace sl11 := gs 11 z' sl11; have sl29 := gu 29 z'; clear z' sl24; refine listF_nil ?_
   repeat ((fail_if_success refine stp ?_); with_reducible go_step)
   exact ⟨rfl, _, rfl, (by rw [sl29]; simp [He.out]), (sl1.trans hj7_1.out.symm), (sl2.trans hj7_2.out.symm), (sl3.trans hj7_3.out.symm), (sl4.trans hj7_4.out.symm), (sl11.trans hj7_11.out.symm), HL8.out⟩
 ·skip
  rintro s14 w15 ⟨sl29, e1, e2, e3, e4, e11, hb16⟩; replace sl1 := e1.trans sl1; clear e1 hj7_1; replace sl2 := e2.trans sl2; clear e2 hj7_2; replace sl3 := e3.trans sl3; clear e3 hj7_3; replace sl4 := e4.trans sl4; clear e4 hj7_4; replace sl11 := e11.trans sl11; clear e11 hj7_11; clear qb4; replace kb4 := kb4.oldB hb16 (by first | (simp; done) | (simp; omega)); replace HB := hid (HB.out.more hb16 (by simp; try omega)); clear hb16; have qb4 := kb4.1
  repeat ((fail_if_success refine stp ?_); with_reducible go_step)
  have hj17_1 := hid sl1; have hj17_2 := hid sl2; have hj17_3 := hid sl3; have hj17_4 := hid sl4; refine cut_any (fun sJ wJ => sJ 11 = .int .i64 (gE1 k v) ∧ sJ 1 = s14 1 ∧ sJ 2 = s14 2 ∧ sJ 3 = s14 3 ∧ sJ 4 = s14 4 ∧ OldB [] w15 wJ) ?_ ?_
  ·skip
   have HL18 := hid (OldB.refl [] w15)
   refine cond_E sl29 (by decide) ?_ ?_ <;> (clear sl29; intro h29 sl29)
   ·skip
    repeat ((fail_if_success refine stp ?_); with_reducible go_step)
    refine region_F ?_; refine pl ?_; refine listF_abs (fun s19 z' => ?_); replace sl1 := gs 1 z' sl1; replace sl2 := gs 2 z' sl2; replace sl3 := gs 3 z' sl3; replace sl4 := gs 4 z' sl4; replace sl11 := gu 11 z'; clear z' sl29; refine listF_nil ?_
    repeat ((fail_if_success refine stp ?_); with_reducible go_step)
    exact ⟨rfl, _, rfl, (by have h := h29; simp at h; rw [sl11]; unfold gE1; simp [h.1, h.2]), (sl1.trans hj17_1.out.symm), (sl2.trans hj17_2.out.symm), (sl3.trans hj17_3.out.symm), (sl4.trans hj17_4.out.symm), HL18.out⟩
   ·skip
    repeat ((fail_if_success refine stp ?_); with_reducible go_step)
    exact ⟨rfl, _, rfl, (by have h := h29; simp at h; rw [sl11]; unfold gE1; by_cases e : kdErr k = 0; (focus (simp [e, h e])); simp [e]), (sl1.trans hj17_1.out.symm), (sl2.trans hj17_2.out.symm), (sl3.trans hj17_3.out.symm), (sl4.trans hj17_4.out.symm), HL18.out⟩
  ·skip
   clear sl11 sl29; rintro s20 w21 ⟨sl11, e1, e2, e3, e4, hb22⟩; replace sl1 := e1.trans sl1; clear e1 hj17_1; replace sl2 := e2.trans sl2; clear e2 hj17_2; replace sl3 := e3.trans sl3; clear e3 hj17_3; replace sl4 := e4.trans sl4; clear e4 hj17_4; clear qb4; replace kb4 := kb4.oldB hb22 (by first | (simp; done) | (simp; omega)); replace HB := hid (HB.out.more hb22 (by simp; try omega)); clear hb22; have qb4 := kb4.1
   repeat ((fail_if_success refine stp ?_); with_reducible go_step)
   have hj23_1 := hid sl1; have hj23_2 := hid sl2; have hj23_3 := hid sl3; have hj23_4 := hid sl4; have hj23_11 := hid sl11; refine cut_any (fun sJ wJ => sJ 36 = .bool (decide (gE1 k v = 0) && decide (12 < l.length)) ∧ sJ 1 = s20 1 ∧ sJ 2 = s20 2 ∧ sJ 3 = s20 3 ∧ sJ 4 = s20 4 ∧ sJ 11 = s20 11 ∧ OldB [] w21 wJ) ?_ ?_
   ·skip
    have HL24 := hid (OldB.refl [] w21); refine region_F ?_
    iterate 3 refine pl ?_
    refine listF_abs (fun s25 z' => ?_); replace sl1 := gs 1 z' sl1; replace sl2 := gs 2 z' sl2; replace sl3 := gs 3 z' sl3; replace sl4 := gs 4 z' sl4; replace sl11 := gs 11 z' sl11; have sl32 := gu 32 z'; clear z'
    refine boolG sl32 (fun sl32' h32 => ?_) (fun sl32' h32 => ?_) <;> (clear sl32; have sl32 := sl32'; clear sl32')
    ·skip
     have He1 := hid (show gE1 k v = 0 by simpa using h32)
     iterate 3 refine py ?_
     refine pl ?_; refine listF_abs (fun s26 z' => ?_); replace sl1 := gs 1 z' sl1; replace sl2 := gs 2 z' sl2; replace sl3 := gs 3 z' sl3; replace sl4 := gs 4 z' sl4; replace sl11 := gs 11 z' sl11; have sl36 := gu 36 z'; clear z' sl32; refine listF_nil ?_
     repeat ((fail_if_success refine stp ?_); with_reducible go_step)
     exact ⟨rfl, _, rfl, (by rw [sl36]; first | (simp [He1.out]; done) | (simp [He1.out]; omega)), (sl1.trans hj23_1.out.symm), (sl2.trans hj23_2.out.symm), (sl3.trans hj23_3.out.symm), (sl4.trans hj23_4.out.symm), (sl11.trans hj23_11.out.symm), HL24.out⟩
    ·skip
     have He1 := hid (show ¬ gE1 k v = 0 by simpa using h32)
     refine pn false ?_; refine pn false ?_; refine pn false ?_; refine pl ?_; refine listF_abs (fun s27 z' => ?_); replace sl1 := gs 1 z' sl1; replace sl2 := gs 2 z' sl2; replace sl3 := gs 3 z' sl3; replace sl4 := gs 4 z' sl4; replace sl11 := gs 11 z' sl11; have sl36 := gu 36 z'; clear z' sl32; refine listF_nil ?_
     repeat ((fail_if_success refine stp ?_); with_reducible go_step)
     exact ⟨rfl, _, rfl, (by rw [sl36]; first | (simp [He1.out]; done) | (simp [He1.out]; omega)), (sl1.trans hj23_1.out.symm), (sl2.trans hj23_2.out.symm), (sl3.trans hj23_3.out.symm), (sl4.trans hj23_4.out.symm), (sl11.trans hj23_11.out.symm), HL24.out⟩
   ·skip
    rintro s28 w29 ⟨sl36, e1, e2, e3, e4, e11, hb30⟩; replace sl1 := e1.trans sl1; clear e1 hj23_1; replace sl2 := e2.trans sl2; clear e2 hj23_2; replace sl3 := e3.trans sl3; clear e3 hj23_3; replace sl4 := e4.trans sl4; clear e4 hj23_4; replace sl11 := e11.trans sl11; clear e11 hj23_11; clear qb4; replace kb4 := kb4.oldB hb30 (by first | (simp; done) | (simp; omega)); replace HB := hid (HB.out.more hb30 (by simp; try omega)); clear hb30; have qb4 := kb4.1
    repeat ((fail_if_success refine stp ?_); with_reducible go_step)
    have hj31_1 := hid sl1; have hj31_2 := hid sl2; have hj31_3 := hid sl3; have hj31_4 := hid sl4; refine cut_any (fun sJ wJ => sJ 11 = .int .i64 (gEU k l v 0) ∧ sJ 1 = s28 1 ∧ sJ 2 = s28 2 ∧ sJ 3 = s28 3 ∧ sJ 4 = s28 4 ∧ OldB [] w29 wJ) ?_ ?_
    ·skip
     have HL32 := hid (OldB.refl [] w29)
     refine cond_E sl36 (by decide) ?_ ?_ <;> (clear sl36; intro h36 sl36)
     ·skip
      repeat ((fail_if_success refine stp ?_); with_reducible go_step)
      refine region_F ?_; refine pl ?_; refine listF_abs (fun s33 z' => ?_); replace sl1 := gs 1 z' sl1; replace sl2 := gs 2 z' sl2; replace sl3 := gs 3 z' sl3; replace sl4 := gs 4 z' sl4; replace sl11 := gu 11 z'; clear z' sl36; refine listF_nil ?_
      repeat ((fail_if_success refine stp ?_); with_reducible go_step)
      exact ⟨rfl, _, rfl, (by have h := h36; simp at h; rw [sl11]; show _ = Value.int .i64 (gE2 k l v); unfold gE2; simp [h.1, h.2]), (sl1.trans hj31_1.out.symm), (sl2.trans hj31_2.out.symm), (sl3.trans hj31_3.out.symm), (sl4.trans hj31_4.out.symm), HL32.out⟩
     ·skip
      repeat ((fail_if_success refine stp ?_); with_reducible go_step)
      exact ⟨rfl, _, rfl, (by have h := h36; simp at h; rw [sl11]; show _ = Value.int .i64 (gE2 k l v); unfold gE2; by_cases e : gE1 k v = 0; (focus (have h' := h e; simp [e]; omega)); simp [e]), (sl1.trans hj31_1.out.symm), (sl2.trans hj31_2.out.symm), (sl3.trans hj31_3.out.symm), (sl4.trans hj31_4.out.symm), HL32.out⟩
    ·skip
     clear sl11 sl36; rintro s34 w35 ⟨sl11, e1, e2, e3, e4, hb36⟩; replace sl1 := e1.trans sl1; clear e1 hj31_1; replace sl2 := e2.trans sl2; clear e2 hj31_2; replace sl3 := e3.trans sl3; clear e3 hj31_3; replace sl4 := e4.trans sl4; clear e4 hj31_4; clear qb4; replace kb4 := kb4.oldB hb36 (by first | (simp; done) | (simp; omega)); replace HB := hid (HB.out.more hb36 (by simp; try omega)); clear hb36; have qb4 := kb4.1
     repeat ((fail_if_success refine stp ?_); with_reducible go_step)
     refine region_F ?_; refine pl ?_; refine listF_abs (fun s37 z' => ?_); replace sl1 := gs 1 z' sl1; replace sl2 := gs 2 z' sl2; replace sl3 := gs 3 z' sl3; replace sl4 := gs 4 z' sl4; replace sl11 := gs 11 z' sl11; have sl12 := gu 12 z'; clear z'; refine listF_nil ?_
     repeat ((fail_if_success refine stp ?_); with_reducible go_step)
     have hc0_1 := hid sl1; have hc0_2 := hid sl2; have hc0_3 := hid sl3; have hc0_4 := hid sl4; refine loop_F (n := 145) (fun kJ sJ wJ => ∃ (i : Nat), kJ = l.length - i ∧ sJ 11 = .int .i64 (gEU k l v i) ∧ sJ 12 = .int .i64 (i : Int) ∧ sJ 1 = s37 1 ∧ sJ 2 = s37 2 ∧ sJ 3 = s37 3 ∧ sJ 4 = s37 4 ∧ OldB [] w35 wJ ∧ i ≤ l.length) ⟨0, rfl, (by first | exact sl11 | (rw [sl11]; go_num) | (rw [sl11]; rfl)), (by first | exact sl12 | (rw [sl12]; go_num) | (rw [sl12]; rfl)), rfl, rfl, rfl, rfl, OldB.refl _ _, Nat.zero_le _⟩ ?_; clear sl11 sl12; rintro kJ s38 w39 ⟨i, rfl, sl11, sl12, e1, e2, e3, e4, hb40, hil⟩; replace sl1 := e1.trans sl1; clear e1; replace sl2 := e2.trans sl2; clear e2; replace sl3 := e3.trans sl3; clear e3; replace sl4 := e4.trans sl4; clear e4; have hoJ := hb40; clear qb4; replace kb4 := kb4.oldB hb40 (by first | (simp; done) | (simp; omega)); replace HB := hid (HB.out.more hb40 (by simp; try omega)); clear hb40; have qb4 := kb4.1
     have HoJ := hid hoJ; clear hoJ; have HL41 := HoJ; clear HoJ
     repeat ((fail_if_success refine stp ?_); with_reducible go_step)
     have hj42_1 := hid sl1; have hj42_2 := hid sl2; have hj42_3 := hid sl3; have hj42_4 := hid sl4; have hj42_11 := hid sl11; have hj42_12 := hid sl12; refine cut_any (fun sJ wJ => sJ 44 = .bool (decide (i < l.length) && decide (gEU k l v i = 0)) ∧ sJ 1 = s38 1 ∧ sJ 2 = s38 2 ∧ sJ 3 = s38 3 ∧ sJ 4 = s38 4 ∧ sJ 11 = s38 11 ∧ sJ 12 = s38 12 ∧ OldB [] w39 wJ) ?_ ?_
     ·skip
      have HL43 := hid (OldB.refl [] w39); refine region_F ?_
      iterate 5 refine pl ?_
      refine listF_abs (fun s44 z' => ?_); replace sl1 := gs 1 z' sl1; replace sl2 := gs 2 z' sl2; replace sl3 := gs 3 z' sl3; replace sl4 := gs 4 z' sl4; replace sl11 := gs 11 z' sl11; replace sl12 := gs 12 z' sl12; have sl41 := gu 41 z'; clear z'
      refine boolG sl41 (fun sl41' h41 => ?_) (fun sl41' h41 => ?_) <;> (clear sl41; have sl41 := sl41'; clear sl41')
      ·skip
       have hlt := h41; refine py ?_; refine py ?_; refine pl ?_; refine listF_abs (fun s45 z' => ?_); replace sl1 := gs 1 z' sl1; replace sl2 := gs 2 z' sl2; replace sl3 := gs 3 z' sl3; replace sl4 := gs 4 z' sl4; replace sl11 := gs 11 z' sl11; replace sl12 := gs 12 z' sl12; have sl42 := gu 42 z'; have sl43 := gu 43 z'; have sl44 := gu 44 z'; clear z' sl41; refine listF_nil ?_
       repeat ((fail_if_success refine stp ?_); with_reducible go_step)
       exact ⟨rfl, _, rfl, (by rw [sl44]; simp at h41; simp [h41]; rfl), (sl1.trans hj42_1.out.symm), (sl2.trans hj42_2.out.symm), (sl3.trans hj42_3.out.symm), (sl4.trans hj42_4.out.symm), (sl11.trans hj42_11.out.symm), (sl12.trans hj42_12.out.symm), HL43.out⟩
      ·skip
       have hge : ¬ i < l.length := by simpa using h41
       refine pn false ?_; refine pn false ?_; refine pl ?_; refine listF_abs (fun s46 z' => ?_); replace sl1 := gs 1 z' sl1; replace sl2 := gs 2 z' sl2; replace sl3 := gs 3 z' sl3; replace sl4 := gs 4 z' sl4; replace sl11 := gs 11 z' sl11; replace sl12 := gs 12 z' sl12; have sl44 := gu 44 z'; clear z' sl41; refine listF_nil ?_
       repeat ((fail_if_success refine stp ?_); with_reducible go_step)
       exact ⟨rfl, _, rfl, (by rw [sl44]; simp at h41; simp; omega), (sl1.trans hj42_1.out.symm), (sl2.trans hj42_2.out.symm), (sl3.trans hj42_3.out.symm), (sl4.trans hj42_4.out.symm), (sl11.trans hj42_11.out.symm), (sl12.trans hj42_12.out.symm), HL43.out⟩
     ·skip
      rintro s47 w48 ⟨sl44, e1, e2, e3, e4, e11, e12, hb49⟩; replace sl1 := e1.trans sl1; clear e1 hj42_1; replace sl2 := e2.trans sl2; clear e2 hj42_2; replace sl3 := e3.trans sl3; clear e3 hj42_3; replace sl4 := e4.trans sl4; clear e4 hj42_4; replace sl11 := e11.trans sl11; clear e11 hj42_11; replace sl12 := e12.trans sl12; clear e12 hj42_12; clear qb4; replace kb4 := kb4.oldB hb49 (by first | (simp; done) | (simp; omega)); replace HL41 := hid (HL41.out.more hb49 (by simp; try omega)); replace HB := hid (HB.out.more hb49 (by simp; try omega)); clear hb49; have qb4 := kb4.1
      repeat ((fail_if_success refine stp ?_); with_reducible go_step)
      refine cond_E sl44 (by decide) ?_ ?_ <;> (clear sl44; intro h44 sl44)
      ·skip
       obtain ⟨hlt, hev0⟩ : i < l.length ∧ gEU k l v i = 0 := by simpa using h44
       have Hev0 := hid hev0; clear hev0; obtain ⟨b, off, rfl, hbs, c0, c1⟩ := RdSpans.ne (Rd.oldB HRl.out HB.out (by simp)) hlt
       have hlt' : (i : Int) < l.length := by omega
       have wii : IntKind.i64.wrap ((i : Int) + 1) = (i : Int) + 1 := IntWalk.i64_in _ (by omega)
       repeat ((fail_if_success refine stp ?_); with_reducible go_step)
       refine region_F ?_
       iterate 4 refine pl ?_
       refine pa (fun w50 B13 hB kb13' hb51 => ?_); have gb13 := HB.out.gB hB; have lHL41_b13 := HL41.out.gB hB; have ob4_b13 := oB qb4 hB; have eb13 := eB hB; clear hB; clear qb4; replace kb4 := kb4.at hb51; replace HL41 := hid (HL41.out.below hb51); replace HB := hid (HB.out.below hb51); clear hb51; have qb4 := kb4.1; have kb13 := kb13'; clear kb13'; have qb13 := kb13.1; have cb13_0 := kb13.cell 0 rfl; have cb13_1 := kb13.cell 1 rfl; have zb13 := kb13.2.2; refine pl ?_; refine listF_absw (fun w52 hw' => ?_); have kb13' := cells_of hw' (Cells.set (i := 1) (Cells.set (i := 0) (kb13)))
       (try simp only [vC, List.set_cons_zero, List.set_cons_succ] at kb13')
       have hb53 : OldB [B13] w50 w52 := oldset hw'; clear hw'; clear cb13_0 cb13_1 zb13; clear qb4 qb13; replace kb13 := kb13'; replace kb4 := kb4.oldB hb53 (by first | (simp; done) | (simp; omega)); replace HL41 := hid (HL41.out.more hb53 (by simp; try omega)); replace HB := hid (HB.out.more hb53 (by simp; try omega)); clear hb53; have qb4 := kb4.1; have qb13 := kb13.1; clear kb13'; refine listF_abs (fun s54 z' => ?_); replace sl1 := gs 1 z' sl1; replace sl2 := gs 2 z' sl2; replace sl3 := gs 3 z' sl3; replace sl4 := gs 4 z' sl4; replace sl11 := gs 11 z' sl11; replace sl12 := gs 12 z' sl12; have sl13 := gu 13 z'; clear z' sl44; refine listF_nil ?_
       repeat ((fail_if_success refine stp ?_); with_reducible go_step)
       refine region_F ?_; refine pl ?_; have cb13_0 := kb13.cell 0 rfl; have cb13_1 := kb13.cell 1 rfl
       iterate 4 refine pl ?_
       refine listF_abs (fun s55 z' => ?_); replace sl1 := gs 1 z' sl1; replace sl2 := gs 2 z' sl2; replace sl3 := gs 3 z' sl3; replace sl4 := gs 4 z' sl4; replace sl11 := gs 11 z' sl11; replace sl12 := gs 12 z' sl12; replace sl13 := gs 13 z' sl13; have sl55 := gu 55 z'; clear z'; refine listF_nil ?_
       repeat ((fail_if_success refine stp ?_); with_reducible go_step)
       clear cb13_0 cb13_1; have hj56_1 := hid sl1; have hj56_2 := hid sl2; have hj56_3 := hid sl3; have hj56_4 := hid sl4; have hj56_12 := hid sl12; have hj56_13 := hid sl13; refine cut_any (fun sJ wJ => sJ 11 = .int .i64 (if l[i].hi < l[i].lo then 2 else 0) ∧ sJ 1 = s55 1 ∧ sJ 2 = s55 2 ∧ sJ 3 = s55 3 ∧ sJ 4 = s55 4 ∧ sJ 12 = s55 12 ∧ sJ 13 = s55 13 ∧ OldB [] w52 wJ) ?_ ?_
       ·skip
        have HL57 := hid (OldB.refl [] w52)
        refine cond_E sl55 (by decide) ?_ ?_ <;> (clear sl55; intro h55 sl55)
        ·skip
         repeat ((fail_if_success refine stp ?_); with_reducible go_step)
         refine region_F ?_; refine pl ?_; refine listF_abs (fun s58 z' => ?_); replace sl1 := gs 1 z' sl1; replace sl2 := gs 2 z' sl2; replace sl3 := gs 3 z' sl3; replace sl4 := gs 4 z' sl4; replace sl11 := gu 11 z'; replace sl12 := gs 12 z' sl12; replace sl13 := gs 13 z' sl13; clear z' sl55; refine listF_nil ?_
         repeat ((fail_if_success refine stp ?_); with_reducible go_step)
         exact ⟨rfl, _, rfl, (by rw [sl11, if_pos (by simpa using h55)]), (sl1.trans hj56_1.out.symm), (sl2.trans hj56_2.out.symm), (sl3.trans hj56_3.out.symm), (sl4.trans hj56_4.out.symm), (sl12.trans hj56_12.out.symm), (sl13.trans hj56_13.out.symm), HL57.out⟩
        ·skip
         repeat ((fail_if_success refine stp ?_); with_reducible go_step)
         exact ⟨rfl, _, rfl, (by rw [sl11, if_neg (by simpa using h55), Hev0.out]), (sl1.trans hj56_1.out.symm), (sl2.trans hj56_2.out.symm), (sl3.trans hj56_3.out.symm), (sl4.trans hj56_4.out.symm), (sl12.trans hj56_12.out.symm), (sl13.trans hj56_13.out.symm), HL57.out⟩
       ·skip
        clear sl11 sl55; rintro s59 w60 ⟨sl11, e1, e2, e3, e4, e12, e13, hb61⟩; replace sl1 := e1.trans sl1; clear e1 hj56_1; replace sl2 := e2.trans sl2; clear e2 hj56_2; replace sl3 := e3.trans sl3; clear e3 hj56_3; replace sl4 := e4.trans sl4; clear e4 hj56_4; replace sl12 := e12.trans sl12; clear e12 hj56_12; replace sl13 := e13.trans sl13; clear e13 hj56_13; clear qb4 qb13; replace kb4 := kb4.oldB hb61 (by first | (simp; done) | (simp; omega)); replace kb13 := kb13.oldB hb61 (by first | (simp; done) | (simp; omega)); replace HL41 := hid (HL41.out.more hb61 (by simp; try omega)); replace HB := hid (HB.out.more hb61 (by simp; try omega)); clear hb61; have qb4 := kb4.1; have qb13 := kb13.1
        repeat ((fail_if_success refine stp ?_); with_reducible go_step)
        refine region_F ?_; refine pl ?_; have cb13_0 := kb13.cell 0 rfl; have cb13_1 := kb13.cell 1 rfl; refine pl ?_; refine listF_step rfl (fun K' hK => ?_); unfold opF; go_simp; refine (rin_any l[i].lo 0 1000000 _).mono ?_; rintro e w' ⟨rfl, rfl⟩; refine ⟨_, rfl, hK _ _ ?_⟩; clear hK K'; refine pl ?_; refine pl ?_; refine listF_abs (fun s63 z' => ?_); replace sl1 := gs 1 z' sl1; replace sl2 := gs 2 z' sl2; replace sl3 := gs 3 z' sl3; replace sl4 := gs 4 z' sl4; replace sl11 := gs 11 z' sl11; replace sl12 := gs 12 z' sl12; replace sl13 := gs 13 z' sl13; have sl60 := gu 60 z'; clear z'
        refine boolG sl60 (fun sl60' h60 => ?_) (fun sl60' h60 => ?_) <;> (clear sl60; have sl60 := sl60'; clear sl60')
        ·skip
         have Hsp := hid (show spErr l[i] = 7 by unfold spErr; rw [if_pos (.inl (by simpa using h60))])
         refine pn true ?_
         refine pn true ?_; refine pn true ?_; refine pn true ?_; refine pl ?_; refine listF_abs (fun s64 z' => ?_); replace sl1 := gs 1 z' sl1; replace sl2 := gs 2 z' sl2; replace sl3 := gs 3 z' sl3; replace sl4 := gs 4 z' sl4; replace sl11 := gs 11 z' sl11; replace sl12 := gs 12 z' sl12; have sl65 := gu 65 z'; clear z' sl13 sl60; refine listF_nil ?_
         repeat ((fail_if_success refine stp ?_); with_reducible go_step)
         refine cond_t ?_
         repeat ((fail_if_success refine stp ?_); with_reducible go_step)
         refine region_F ?_; refine pl ?_; refine listF_abs (fun s65 z' => ?_); replace sl1 := gs 1 z' sl1; replace sl2 := gs 2 z' sl2; replace sl3 := gs 3 z' sl3; replace sl4 := gs 4 z' sl4; replace sl11 := gu 11 z'; replace sl12 := gs 12 z' sl12; clear z' sl65; refine listF_nil ?_
         repeat ((fail_if_success refine stp ?_); with_reducible go_step)
         refine region_F ?_
         iterate 3 refine pl ?_
         refine listF_abs (fun s66 z' => ?_); replace sl1 := gs 1 z' sl1; replace sl2 := gs 2 z' sl2; replace sl3 := gs 3 z' sl3; replace sl4 := gs 4 z' sl4; replace sl11 := gs 11 z' sl11; replace sl12 := gu 12 z'; clear z'; refine listF_nil ?_
         repeat ((fail_if_success refine stp ?_); with_reducible go_step)
         clear cb13_0 cb13_1; refine ⟨_, _, rfl, ?_, i + 1, rfl, (by rw [sl11]; show _ = Value.int .i64 (if gEU k l v i ≠ 0 then gEU k l v i else spErr (l.getD i Span.zero)); rw [if_neg (show ¬ gEU k l v i ≠ 0 by rw [Hev0.out]; decide), getD_get hlt, Hsp.out]), (by first | (with_reducible exact sl12) | (rw [sl12]; (with_reducible go_num); done) | (rw [sl12, IntWalk.i64_in] <;> first | ((with_reducible go_num); done) | omega) | (rw [sl12]; go_num; done) | (rw [sl12]; simp; done) | (rw [sl12]; simp; omega)), (sl1.trans hc0_1.out.symm), (sl2.trans hc0_2.out.symm), (sl3.trans hc0_3.out.symm), (sl4.trans hc0_4.out.symm), HL41.out, by omega⟩
         omega
        ·skip
         have hi1 : inb l[i].lo 0 1000000 = true := by simpa using h60
         refine py ?_; refine py ?_; refine listF_yes rfl rfl (by decide) ?_ (fun K' hK => ?_); (focus (go_simp; done)); unfold opF; go_simp; refine (rin_any l[i].hi 0 1000000 _).mono ?_; rintro e w' ⟨rfl, rfl⟩; refine ⟨_, rfl, hK _ _ ?_⟩; clear hK K'; refine py ?_; refine pl ?_; refine listF_abs (fun s68 z' => ?_); replace sl1 := gs 1 z' sl1; replace sl2 := gs 2 z' sl2; replace sl3 := gs 3 z' sl3; replace sl4 := gs 4 z' sl4; replace sl11 := gs 11 z' sl11; replace sl12 := gs 12 z' sl12; have sl61 := gu 61 z'; have sl62 := gu 62 z'; have sl63 := gu 63 z'; have sl64 := gu 64 z'; have sl65 := gu 65 z'; clear z' sl13 sl60; refine listF_nil ?_
         repeat ((fail_if_success refine stp ?_); with_reducible go_step)
         refine cond_E sl65 (by decide) ?_ ?_ <;> (clear sl65; intro h65 sl65)
         ·skip
          have Hsp := hid (show spErr l[i] = 7 by unfold spErr; rw [if_pos (.inr (by simpa using h65))])
          repeat ((fail_if_success refine stp ?_); with_reducible go_step)
          refine region_F ?_; refine pl ?_; refine listF_abs (fun s69 z' => ?_); replace sl1 := gs 1 z' sl1; replace sl2 := gs 2 z' sl2; replace sl3 := gs 3 z' sl3; replace sl4 := gs 4 z' sl4; replace sl11 := gu 11 z'; replace sl12 := gs 12 z' sl12; replace sl61 := gs 61 z' sl61; replace sl62 := gs 62 z' sl62; replace sl63 := gs 63 z' sl63; replace sl64 := gs 64 z' sl64; clear z' sl65; refine listF_nil ?_
          repeat ((fail_if_success refine stp ?_); with_reducible go_step)
          refine region_F ?_
          iterate 3 refine pl ?_
          refine listF_abs (fun s70 z' => ?_); replace sl1 := gs 1 z' sl1; replace sl2 := gs 2 z' sl2; replace sl3 := gs 3 z' sl3; replace sl4 := gs 4 z' sl4; replace sl11 := gs 11 z' sl11; replace sl12 := gu 12 z'; replace sl61 := gs 61 z' sl61; replace sl62 := gs 62 z' sl62; replace sl63 := gs 63 z' sl63; replace sl64 := gs 64 z' sl64; clear z'; refine listF_nil ?_
          repeat ((fail_if_success refine stp ?_); with_reducible go_step)
          clear cb13_0 cb13_1; refine ⟨_, _, rfl, ?_, i + 1, rfl, (by rw [sl11]; show _ = Value.int .i64 (if gEU k l v i ≠ 0 then gEU k l v i else spErr (l.getD i Span.zero)); rw [if_neg (show ¬ gEU k l v i ≠ 0 by rw [Hev0.out]; decide), getD_get hlt, Hsp.out]), (by first | (with_reducible exact sl12) | (rw [sl12]; (with_reducible go_num); done) | (rw [sl12, IntWalk.i64_in] <;> first | ((with_reducible go_num); done) | omega) | (rw [sl12]; go_num; done) | (rw [sl12]; simp; done) | (rw [sl12]; simp; omega)), (sl1.trans hc0_1.out.symm), (sl2.trans hc0_2.out.symm), (sl3.trans hc0_3.out.symm), (sl4.trans hc0_4.out.symm), HL41.out, by omega⟩
          omega
         ·skip
          have hi2 : inb l[i].hi 0 1000000 = true := by simpa using h65
          have Hsp := hid (show spErr l[i] = if l[i].hi < l[i].lo then 2 else 0 by unfold spErr; rw [if_neg (by rw [hi1, hi2]; decide)])
          repeat ((fail_if_success refine stp ?_); with_reducible go_step)
          refine region_F ?_
          iterate 3 refine pl ?_
          refine listF_abs (fun s71 z' => ?_); replace sl1 := gs 1 z' sl1; replace sl2 := gs 2 z' sl2; replace sl3 := gs 3 z' sl3; replace sl4 := gs 4 z' sl4; replace sl11 := gs 11 z' sl11; replace sl12 := gu 12 z'; replace sl61 := gs 61 z' sl61; replace sl62 := gs 62 z' sl62; replace sl63 := gs 63 z' sl63; replace sl64 := gs 64 z' sl64; clear z' sl65; refine listF_nil ?_
          repeat ((fail_if_success refine stp ?_); with_reducible go_step)
          clear cb13_0 cb13_1; refine ⟨_, _, rfl, ?_, i + 1, rfl, (by rw [sl11]; show _ = Value.int .i64 (if gEU k l v i ≠ 0 then gEU k l v i else spErr (l.getD i Span.zero)); rw [if_neg (show ¬ gEU k l v i ≠ 0 by rw [Hev0.out]; decide), getD_get hlt, Hsp.out]), (by first | (with_reducible exact sl12) | (rw [sl12]; (with_reducible go_num); done) | (rw [sl12, IntWalk.i64_in] <;> first | ((with_reducible go_num); done) | omega) | (rw [sl12]; go_num; done) | (rw [sl12]; simp; done) | (rw [sl12]; simp; omega)), (sl1.trans hc0_1.out.symm), (sl2.trans hc0_2.out.symm), (sl3.trans hc0_3.out.symm), (sl4.trans hc0_4.out.symm), HL41.out, by omega⟩
          omega
      ·skip
       have Hex := hid (show grpErr k l v = gEU k l v i by by_cases h9 : gEU k l v i = 0; (have h8 := h44; simp [h9] at h8; have h7 := gEU_all k l v; rw [show l.length = i by omega] at h7; exact h7.symm); exact gEU_stop hil h9); have sl11' := sl11; rw [← Hex.out] at sl11'; clear sl11; have sl11 := sl11'; clear sl11'
       repeat ((fail_if_success refine stp ?_); with_reducible go_step)
       clear HL41; clear hc0_1 hc0_2 hc0_3 hc0_4; refine region_F ?_; refine pl ?_; refine pl ?_; refine listF_abs (fun s72 z' => ?_); replace sl1 := gs 1 z' sl1; replace sl2 := gs 2 z' sl2; replace sl3 := gs 3 z' sl3; replace sl4 := gs 4 z' sl4; replace sl11 := gs 11 z' sl11; have sl67 := gu 67 z'; clear z' sl12 sl44; refine listF_nil ?_
       repeat ((fail_if_success refine stp ?_); with_reducible go_step)
       refine cond_E sl67 (by decide) ?_ ?_ <;> (clear sl67; intro h67 sl67)
       ·skip
        have Her := hid (show ¬ grpErr k l v = 0 by simpa using h67)
        repeat ((fail_if_success refine stp ?_); with_reducible go_step)
        refine region_F ?_
        iterate 4 refine pl ?_
        refine listF_abs (fun s73 z' => ?_); have sl8 := gu 8 z'; have sl9 := gu 9 z'; have sl10 := gu 10 z'; clear z' sl1 sl2 sl3 sl4 sl11 sl67; refine listF_nil ?_
        repeat ((fail_if_success refine stp ?_); with_reducible go_step)
        refine ret_F _ (res_ttt Try.results32 ((getD_F (by decide)).trans sl8) ((getD_F (by decide)).trans sl9) ((getD_F (by decide)).trans sl10)) ?_; exact grp_no (by unfold grpRes; rw [if_pos Her.out]) HB.out.toBelow
       ·skip
        have her : grpErr k l v = 0 := by simpa using h67
        obtain ⟨he0, hv0, hl12, hin⟩ := grp_ok her; have Her := hid her; have HK := hid (kok_of he0); have Hv := hid hv0; have Hin := hid hin; obtain ⟨nd1, nd2⟩ := needed_bd HK.out Hv.out; clear her he0 hv0 hin
        repeat ((fail_if_success refine stp ?_); with_reducible go_step)
        refine region_F ?_; have cb4_0 := kb4.cell 0 rfl; have cb4_1 := kb4.cell 1 rfl; have cb4_2 := kb4.cell 2 rfl; have cb4_3 := kb4.cell 3 rfl; refine pl ?_; refine pl ?_; refine listF_step rfl (fun K' hK => ?_); unfold opF; go_simp; refine (rneeded_any k _ c v _ (Rd.oldB HR.out HB.out (by simp)) HK.out Hv.out).mono ?_; rintro e w74 ⟨rfl, hb75⟩; refine ⟨_, rfl, hK _ _ ?_⟩; clear hK K'; clear cb4_0 cb4_1 cb4_2 cb4_3; clear qb4; replace kb4 := kb4.at hb75; replace HB := hid (HB.out.below hb75); clear hb75; have qb4 := kb4.1; refine pl ?_; refine listF_abs (fun s76 z' => ?_); replace sl1 := gs 1 z' sl1; replace sl2 := gs 2 z' sl2; replace sl3 := gs 3 z' sl3; replace sl4 := gs 4 z' sl4; have sl14 := gu 14 z'; clear z' sl11 sl67; refine listF_nil ?_
        repeat ((fail_if_success refine stp ?_); with_reducible go_step)
        refine region_F ?_; obtain ⟨NB, hNB⟩ : ∃ n, n = w74.heap.size := ⟨_, rfl⟩
        have gNB : w.heap.size ≤ NB := by have := HB.out.size; omega
        have hb4NB : B4 < NB := by omega
        have hleNB : NB ≤ w74.heap.size := by omega
        have hgeNB : w74.heap.size ≤ NB := by omega
        clear hNB; refine pl ?_; refine listF_abs (fun s77 z' => ?_); replace sl1 := gs 1 z' sl1; replace sl2 := gs 2 z' sl2; replace sl3 := gs 3 z' sl3; replace sl4 := gs 4 z' sl4; replace sl14 := gs 14 z' sl14; have sl15 := gu 15 z'; clear z'; refine listF_nil ?_
        repeat ((fail_if_success refine stp ?_); with_reducible go_step)
        refine region_F ?_; refine pl ?_; refine listF_abs (fun s78 z' => ?_); replace sl1 := gs 1 z' sl1; replace sl2 := gs 2 z' sl2; replace sl3 := gs 3 z' sl3; replace sl4 := gs 4 z' sl4; replace sl14 := gs 14 z' sl14; replace sl15 := gs 15 z' sl15; have sl16 := gu 16 z'; clear z'; refine listF_nil ?_
        repeat ((fail_if_success refine stp ?_); with_reducible go_step)
        have hc1_1 := hid sl1; have hc1_2 := hid sl2; have hc1_3 := hid sl3; have hc1_4 := hid sl4; have hc1_14 := hid sl14; refine loop_F (n := 145) (fun kJ sJ wJ => ∃ (i : Nat) (v15 : Value), kJ = l.length - i ∧ sJ 15 = v15 ∧ sJ 16 = .int .i64 (i : Int) ∧ sJ 1 = s78 1 ∧ sJ 2 = s78 2 ∧ sJ 3 = s78 3 ∧ sJ 4 = s78 4 ∧ sJ 14 = s78 14 ∧ OldB [] w74 wJ ∧ i ≤ l.length ∧ Own int1 1 3 NB wJ v15 (susUp (needed k v) l i)) ⟨0, .slice none 0 0, rfl, (by first | exact sl15 | (rw [sl15]; go_num) | (rw [sl15]; rfl)), (by first | exact sl16 | (rw [sl16]; go_num) | (rw [sl16]; rfl)), rfl, rfl, rfl, rfl, rfl, OldB.refl _ _, Nat.zero_le _, Own.nil _ _ _ _ _⟩ ?_; clear sl15 sl16; rintro kJ s79 w80 ⟨i, v15, rfl, sl15, sl16, e1, e2, e3, e4, e14, hb81, hil, hO15⟩; replace sl1 := e1.trans sl1; clear e1; replace sl2 := e2.trans sl2; clear e2; replace sl3 := e3.trans sl3; clear e3; replace sl4 := e4.trans sl4; clear e4; replace sl14 := e14.trans sl14; clear e14
        have hoJ := hb81; clear qb4; replace kb4 := kb4.oldB hb81 (by first | (simp; done) | (simp; omega)); replace HB := hid (HB.out.more hb81 (by simp; try omega)); clear hb81; have qb4 := kb4.1; have HoJ := hid hoJ; clear hoJ; have HL82 := HoJ; clear HoJ
        repeat ((fail_if_success refine stp ?_); with_reducible go_step)
        refine region_F ?_
        iterate 4 refine pl ?_
        refine listF_abs (fun s83 z' => ?_); replace sl1 := gs 1 z' sl1; replace sl2 := gs 2 z' sl2; replace sl3 := gs 3 z' sl3; replace sl4 := gs 4 z' sl4; replace sl14 := gs 14 z' sl14; replace sl15 := gs 15 z' sl15; replace sl16 := gs 16 z' sl16; have sl75 := gu 75 z'; clear z'; refine listF_nil ?_
        repeat ((fail_if_success refine stp ?_); with_reducible go_step)
        refine cond_E sl75 (by decide) ?_ ?_ <;> (clear sl75; intro h75 sl75)
        ·skip
         have hlt : i < l.length := by simpa using h75
         obtain ⟨b, off, rfl, hbs, c0, c1⟩ := RdSpans.ne (Rd.oldB HRl.out HB.out (by simp)) hlt
         have hlt' : (i : Int) < l.length := by omega
         have wii : IntKind.i64.wrap ((i : Int) + 1) = (i : Int) + 1 := IntWalk.i64_in _ (by omega); obtain ⟨⟨s1, s2⟩, ⟨s3, s4⟩, s5⟩ := spErr_in (Hin.out i hlt)
         repeat ((fail_if_success refine stp ?_); with_reducible go_step)
         have hj84_1 := hid sl1; have hj84_2 := hid sl2; have hj84_3 := hid sl3; have hj84_4 := hid sl4; have hj84_14 := hid sl14; have hj84_15 := hid sl15; have hj84_16 := hid sl16; refine cut_any (fun sJ wJ => sJ 88 = .bool (decide (l[i].lo < needed k v)) ∧ sJ 1 = s83 1 ∧ sJ 2 = s83 2 ∧ sJ 3 = s83 3 ∧ sJ 4 = s83 4 ∧ sJ 14 = s83 14 ∧ sJ 15 = s83 15 ∧ sJ 16 = s83 16 ∧ OldB [] w80 wJ) ?_ ?_
         ·skip
          have HL85 := hid (OldB.refl [] w80); refine region_F ?_
          iterate 8 refine pl ?_
          refine listF_abs (fun s86 z' => ?_); replace sl1 := gs 1 z' sl1; replace sl2 := gs 2 z' sl2; replace sl3 := gs 3 z' sl3; replace sl4 := gs 4 z' sl4; replace sl14 := gs 14 z' sl14; replace sl15 := gs 15 z' sl15; replace sl16 := gs 16 z' sl16; have sl85 := gu 85 z'; clear z' sl75
          refine boolG sl85 (fun sl85' h85 => ?_) (fun sl85' h85 => ?_) <;> (clear sl85; have sl85 := sl85'; clear sl85')
          ·skip
           refine py ?_; refine py ?_; refine pl ?_; refine listF_abs (fun s87 z' => ?_); replace sl1 := gs 1 z' sl1; replace sl2 := gs 2 z' sl2; replace sl3 := gs 3 z' sl3; replace sl4 := gs 4 z' sl4; replace sl14 := gs 14 z' sl14; replace sl15 := gs 15 z' sl15; replace sl16 := gs 16 z' sl16; have sl86 := gu 86 z'; have sl87 := gu 87 z'; have sl88 := gu 88 z'; clear z' sl85; refine listF_nil ?_
           repeat ((fail_if_success refine stp ?_); with_reducible go_step)
           exact ⟨rfl, _, rfl, (by rw [sl88]; simp at h85; simp [h85]), (sl1.trans hj84_1.out.symm), (sl2.trans hj84_2.out.symm), (sl3.trans hj84_3.out.symm), (sl4.trans hj84_4.out.symm), (sl14.trans hj84_14.out.symm), (sl15.trans hj84_15.out.symm), (sl16.trans hj84_16.out.symm), HL85.out⟩
          ·skip
           refine pn false ?_; refine pn false ?_; refine pl ?_; refine listF_abs (fun s88 z' => ?_); replace sl1 := gs 1 z' sl1; replace sl2 := gs 2 z' sl2; replace sl3 := gs 3 z' sl3; replace sl4 := gs 4 z' sl4; replace sl14 := gs 14 z' sl14; replace sl15 := gs 15 z' sl15; replace sl16 := gs 16 z' sl16; have sl88 := gu 88 z'; clear z' sl85; refine listF_nil ?_
           repeat ((fail_if_success refine stp ?_); with_reducible go_step)
           exact ⟨rfl, _, rfl, (by rw [sl88]; simp at h85; simp [h85]), (sl1.trans hj84_1.out.symm), (sl2.trans hj84_2.out.symm), (sl3.trans hj84_3.out.symm), (sl4.trans hj84_4.out.symm), (sl14.trans hj84_14.out.symm), (sl15.trans hj84_15.out.symm), (sl16.trans hj84_16.out.symm), HL85.out⟩
         ·skip
          clear sl75; rintro s89 w90 ⟨sl88, e1, e2, e3, e4, e14, e15, e16, hb91⟩; replace sl1 := e1.trans sl1; clear e1 hj84_1; replace sl2 := e2.trans sl2; clear e2 hj84_2; replace sl3 := e3.trans sl3; clear e3 hj84_3; replace sl4 := e4.trans sl4; clear e4 hj84_4; replace sl14 := e14.trans sl14; clear e14 hj84_14; replace sl15 := e15.trans sl15; clear e15 hj84_15; replace sl16 := e16.trans sl16; clear e16 hj84_16; clear qb4; replace kb4 := kb4.oldB hb91 (by first | (simp; done) | (simp; omega)); replace HL82 := hid (HL82.out.more hb91 (by simp; try omega)); replace hO15 := Own.oldB hO15 hb91 (fun g hg => by have n0 := (World.ownsRow.lt hO15 g hg).1; first | (simp; done) | (simp; omega)); replace HB := hid (HB.out.more hb91 (by simp; try omega)); clear hb91; have qb4 := kb4.1
          repeat ((fail_if_success refine stp ?_); with_reducible go_step)
          refine cond_E sl88 (by decide) ?_ ?_ <;> (clear sl88; intro h88 sl88)
          ·skip
           have Hsu := hid (show susUp (needed k v) l (i + 1) = susUp (needed k v) l i ++ [(i : Int)] by show (if (l.getD i Span.zero).lo < needed k v then _ else _) = _; rw [getD_get hlt, if_pos (by simpa using h88)])
           repeat ((fail_if_success refine stp ?_); with_reducible go_step)
           refine region_F ?_; refine pl ?_; refine pl ?_; refine pas (fun w92 B91 hB kb91' hb93 => ?_); have gb91 := HB.out.gB hB; have lHL82_b91 := HL82.out.gB hB; have ob4_b91 := oB qb4 hB
           have nhO15_b91 : ∀ g, v15.ownBlock = some g → g < B91 := fun g hg => by have := (World.ownsRow.lt hO15 g hg).2; omega
           have eb91 := eB hB; clear hB; clear qb4; replace kb4 := kb4.at hb93; replace HL82 := hid (HL82.out.below hb93); replace hO15 := Own.at hO15 hb93; replace HB := hid (HB.out.below hb93); clear hb93; have qb4 := kb4.1; have kb91 := kb91'; clear kb91'; have qb91 := kb91.1
           have ab4 : v15.ownBlock ≠ some B4 := fun e => by have n0 := (World.ownsRow.lt hO15 _ e).1; omega
           have ab91 : v15.ownBlock ≠ some B91 := fun e => by have n0 := (World.ownsRow.lt hO15 _ e).1; have n9 := nhO15_b91 _ e; omega
           have hzz := HB.out.size; refine listF_step rfl (fun K' hK => ?_); refine opF_app (d := 92) rfl (by decide) (.tmp 89) (.tmp 91) _ rfl 3 i1 _ 8 Try.underlying47 hi1 hz1 hy1 hx1 rfl (by decide) (fun _ => rfl) int_one NB v15 (susUp (needed k v) l i) [(i : Int)] (some ⟨B91, 0, none⟩) 1 (by go_simp) (by go_simp) hO15 (Cells.rd (f := int1) (m := 1) (l := [(i : Int)]) (fun _ => rfl) kb91) (by have := susUp_len (needed k v) l i; unfold maxLen; simp; omega) (by have := susUp_len (needed k v) l i; simp; omega) (by omega) (fun v92 w94 hO' hG hV => hK _ _ ?_); clear hK K' hzz; clear qb4 qb91; replace kb4 := kb4.grown hG ab4; clear ab4; replace kb91 := kb91.grown hG ab91; clear ab91; replace HL82 := hid (HL82.out.grown hG (fun k hk => .inl (by have := (World.ownsRow.lt hO15 k hk).1; omega))); replace HB := hid (HB.out.grown hG (fun k hk => .inl (by have := (World.ownsRow.lt hO15 k hk).1; omega))); clear hO15; have hO15 := hO'; clear hO' hG hV
           clear nhO15_b91; have qb4 := kb4.1; have qb91 := kb91.1; refine pl ?_; refine listF_abs (fun s95 z' => ?_); replace sl1 := gs 1 z' sl1; replace sl2 := gs 2 z' sl2; replace sl3 := gs 3 z' sl3; replace sl4 := gs 4 z' sl4; replace sl14 := gs 14 z' sl14; replace sl15 := gu 15 z'; replace sl16 := gs 16 z' sl16; clear z' sl88; refine listF_nil ?_
           repeat ((fail_if_success refine stp ?_); with_reducible go_step)
           have hj96_1 := hid sl1; have hj96_2 := hid sl2; have hj96_3 := hid sl3; have hj96_4 := hid sl4; have hj96_14 := hid sl14; have hj96_15 := hid sl15; have hj96_16 := hid sl16; refine cut_any (fun sJ wJ => sJ 102 = .bool false ∧ sJ 1 = s95 1 ∧ sJ 2 = s95 2 ∧ sJ 3 = s95 3 ∧ sJ 4 = s95 4 ∧ sJ 14 = s95 14 ∧ sJ 15 = s95 15 ∧ sJ 16 = s95 16 ∧ OldB [] w94 wJ) ?_ ?_
           ·skip
            have HL97 := hid (OldB.refl [] w94); refine region_F ?_
            iterate 4 refine pl ?_
            clear c0 c1 hbs; obtain ⟨_, _, hab, hbs, c0, c1⟩ := RdSpans.ne (Rd.oldB HRl.out HB.out (by simp)) hlt
            cases hab
            iterate 4 refine pl ?_
            refine listF_abs (fun s98 z' => ?_); replace sl1 := gs 1 z' sl1; replace sl2 := gs 2 z' sl2; replace sl3 := gs 3 z' sl3; replace sl4 := gs 4 z' sl4; replace sl14 := gs 14 z' sl14; replace sl15 := gs 15 z' sl15; replace sl16 := gs 16 z' sl16; have sl100 := gu 100 z'; clear z'
            refine boolG sl100 (fun sl100' h100 => ?_) (fun sl100' h100 => ?_) <;> (clear sl100; have sl100 := sl100'; clear sl100')
            ·skip
             refine py ?_; refine pl ?_; refine listF_abs (fun s99 z' => ?_); replace sl1 := gs 1 z' sl1; replace sl2 := gs 2 z' sl2; replace sl3 := gs 3 z' sl3; replace sl4 := gs 4 z' sl4; replace sl14 := gs 14 z' sl14; replace sl15 := gs 15 z' sl15; replace sl16 := gs 16 z' sl16; have sl101 := gu 101 z'; have sl102 := gu 102 z'; clear z' sl100; refine listF_nil ?_
             repeat ((fail_if_success refine stp ?_); with_reducible go_step)
             exact ⟨rfl, _, rfl, (by first | (with_reducible exact sl102) | (rw [sl102]; (with_reducible go_num); done) | (rw [sl102, IntWalk.i64_in] <;> first | ((with_reducible go_num); done) | omega) | (rw [sl102]; go_num; done) | (rw [sl102]; simp; done) | (rw [sl102]; simp; omega)), (sl1.trans hj96_1.out.symm), (sl2.trans hj96_2.out.symm), (sl3.trans hj96_3.out.symm), (sl4.trans hj96_4.out.symm), (sl14.trans hj96_14.out.symm), (sl15.trans hj96_15.out.symm), (sl16.trans hj96_16.out.symm), HL97.out⟩
            ·skip
             refine pn false ?_; refine pl ?_; refine listF_abs (fun s100 z' => ?_); replace sl1 := gs 1 z' sl1; replace sl2 := gs 2 z' sl2; replace sl3 := gs 3 z' sl3; replace sl4 := gs 4 z' sl4; replace sl14 := gs 14 z' sl14; replace sl15 := gs 15 z' sl15; replace sl16 := gs 16 z' sl16; have sl102 := gu 102 z'; clear z' sl100; refine listF_nil ?_
             repeat ((fail_if_success refine stp ?_); with_reducible go_step)
             exact ⟨rfl, _, rfl, (by first | (with_reducible exact sl102) | (rw [sl102]; (with_reducible go_num); done) | (rw [sl102, IntWalk.i64_in] <;> first | ((with_reducible go_num); done) | omega) | (rw [sl102]; go_num; done) | (rw [sl102]; simp; done) | (rw [sl102]; simp; omega)), (sl1.trans hj96_1.out.symm), (sl2.trans hj96_2.out.symm), (sl3.trans hj96_3.out.symm), (sl4.trans hj96_4.out.symm), (sl14.trans hj96_14.out.symm), (sl15.trans hj96_15.out.symm), (sl16.trans hj96_16.out.symm), HL97.out⟩
           ·skip
            rintro s101 w102 ⟨sl102, e1, e2, e3, e4, e14, e15, e16, hb103⟩; replace sl1 := e1.trans sl1; clear e1 hj96_1; replace sl2 := e2.trans sl2; clear e2 hj96_2; replace sl3 := e3.trans sl3; clear e3 hj96_3; replace sl4 := e4.trans sl4; clear e4 hj96_4; replace sl14 := e14.trans sl14; clear e14 hj96_14; replace sl15 := e15.trans sl15; clear e15 hj96_15; replace sl16 := e16.trans sl16; clear e16 hj96_16; clear qb4 qb91; replace kb4 := kb4.oldB hb103 (by first | (simp; done) | (simp; omega)); replace kb91 := kb91.oldB hb103 (by first | (simp; done) | (simp; omega)); replace HL82 := hid (HL82.out.more hb103 (by simp; try omega)); replace hO15 := Own.oldB hO15 hb103 (fun g hg => by have n0 := (World.ownsRow.lt hO15 g hg).1; first | (simp; done) | (simp; omega)); replace HB := hid (HB.out.more hb103 (by simp; try omega)); clear hb103; have qb4 := kb4.1; have qb91 := kb91.1
            repeat ((fail_if_success refine stp ?_); with_reducible go_step)
            refine cond_f ?_
            repeat ((fail_if_success refine stp ?_); with_reducible go_step)
            refine region_F ?_
            iterate 3 refine pl ?_
            refine listF_abs (fun s104 z' => ?_); replace sl1 := gs 1 z' sl1; replace sl2 := gs 2 z' sl2; replace sl3 := gs 3 z' sl3; replace sl4 := gs 4 z' sl4; replace sl14 := gs 14 z' sl14; replace sl15 := gs 15 z' sl15; replace sl16 := gu 16 z'; clear z' sl102; refine listF_nil ?_
            repeat ((fail_if_success refine stp ?_); with_reducible go_step)
            refine ⟨_, _, rfl, ?_, i + 1, v92, rfl, (by first | (with_reducible exact sl15) | (rw [sl15]; (with_reducible go_num); done) | (rw [sl15, IntWalk.i64_in] <;> first | ((with_reducible go_num); done) | omega) | (rw [sl15]; go_num; done) | (rw [sl15]; simp; done) | (rw [sl15]; simp; omega)), (by first | (with_reducible exact sl16) | (rw [sl16]; (with_reducible go_num); done) | (rw [sl16, IntWalk.i64_in] <;> first | ((with_reducible go_num); done) | omega) | (rw [sl16]; go_num; done) | (rw [sl16]; simp; done) | (rw [sl16]; simp; omega)), (sl1.trans hc1_1.out.symm), (sl2.trans hc1_2.out.symm), (sl3.trans hc1_3.out.symm), (sl4.trans hc1_4.out.symm), (sl14.trans hc1_14.out.symm), HL82.out, by omega, (by rw [Hsu.out]; exact hO15)⟩
            omega
          ·skip
           have Hsu := hid (show susUp (needed k v) l (i + 1) = susUp (needed k v) l i by show (if (l.getD i Span.zero).lo < needed k v then _ else _) = _; rw [getD_get hlt, if_neg (by simpa using h88)])
           repeat ((fail_if_success refine stp ?_); with_reducible go_step)
           have hj105_1 := hid sl1; have hj105_2 := hid sl2; have hj105_3 := hid sl3; have hj105_4 := hid sl4; have hj105_14 := hid sl14; have hj105_15 := hid sl15; have hj105_16 := hid sl16; refine cut_any (fun sJ wJ => sJ 102 = .bool false ∧ sJ 1 = s89 1 ∧ sJ 2 = s89 2 ∧ sJ 3 = s89 3 ∧ sJ 4 = s89 4 ∧ sJ 14 = s89 14 ∧ sJ 15 = s89 15 ∧ sJ 16 = s89 16 ∧ OldB [] w90 wJ) ?_ ?_
           ·skip
            have HL106 := hid (OldB.refl [] w90); refine region_F ?_
            iterate 4 refine pl ?_
            clear c0 c1 hbs; obtain ⟨_, _, hab, hbs, c0, c1⟩ := RdSpans.ne (Rd.oldB HRl.out HB.out (by simp)) hlt
            cases hab
            iterate 4 refine pl ?_
            refine listF_abs (fun s107 z' => ?_); replace sl1 := gs 1 z' sl1; replace sl2 := gs 2 z' sl2; replace sl3 := gs 3 z' sl3; replace sl4 := gs 4 z' sl4; replace sl14 := gs 14 z' sl14; replace sl15 := gs 15 z' sl15; replace sl16 := gs 16 z' sl16; have sl100 := gu 100 z'; clear z' sl88
            refine boolG sl100 (fun sl100' h100 => ?_) (fun sl100' h100 => ?_) <;> (clear sl100; have sl100 := sl100'; clear sl100')
            ·skip
             refine py ?_; refine pl ?_; refine listF_abs (fun s108 z' => ?_); replace sl1 := gs 1 z' sl1; replace sl2 := gs 2 z' sl2; replace sl3 := gs 3 z' sl3; replace sl4 := gs 4 z' sl4; replace sl14 := gs 14 z' sl14; replace sl15 := gs 15 z' sl15; replace sl16 := gs 16 z' sl16; have sl101 := gu 101 z'; have sl102 := gu 102 z'; clear z' sl100; refine listF_nil ?_
             repeat ((fail_if_success refine stp ?_); with_reducible go_step)
             exact ⟨rfl, _, rfl, (by first | (with_reducible exact sl102) | (rw [sl102]; (with_reducible go_num); done) | (rw [sl102, IntWalk.i64_in] <;> first | ((with_reducible go_num); done) | omega) | (rw [sl102]; go_num; done) | (rw [sl102]; simp; done) | (rw [sl102]; simp; omega)), (sl1.trans hj105_1.out.symm), (sl2.trans hj105_2.out.symm), (sl3.trans hj105_3.out.symm), (sl4.trans hj105_4.out.symm), (sl14.trans hj105_14.out.symm), (sl15.trans hj105_15.out.symm), (sl16.trans hj105_16.out.symm), HL106.out⟩
            ·skip
             refine pn false ?_; refine pl ?_; refine listF_abs (fun s109 z' => ?_); replace sl1 := gs 1 z' sl1; replace sl2 := gs 2 z' sl2; replace sl3 := gs 3 z' sl3; replace sl4 := gs 4 z' sl4; replace sl14 := gs 14 z' sl14; replace sl15 := gs 15 z' sl15; replace sl16 := gs 16 z' sl16; have sl102 := gu 102 z'; clear z' sl100; refine listF_nil ?_
             repeat ((fail_if_success refine stp ?_); with_reducible go_step)
             exact ⟨rfl, _, rfl, (by first | (with_reducible exact sl102) | (rw [sl102]; (with_reducible go_num); done) | (rw [sl102, IntWalk.i64_in] <;> first | ((with_reducible go_num); done) | omega) | (rw [sl102]; go_num; done) | (rw [sl102]; simp; done) | (rw [sl102]; simp; omega)), (sl1.trans hj105_1.out.symm), (sl2.trans hj105_2.out.symm), (sl3.trans hj105_3.out.symm), (sl4.trans hj105_4.out.symm), (sl14.trans hj105_14.out.symm), (sl15.trans hj105_15.out.symm), (sl16.trans hj105_16.out.symm), HL106.out⟩
           ·skip
            clear sl88; rintro s110 w111 ⟨sl102, e1, e2, e3, e4, e14, e15, e16, hb112⟩; replace sl1 := e1.trans sl1; clear e1 hj105_1; replace sl2 := e2.trans sl2; clear e2 hj105_2; replace sl3 := e3.trans sl3; clear e3 hj105_3; replace sl4 := e4.trans sl4; clear e4 hj105_4; replace sl14 := e14.trans sl14; clear e14 hj105_14; replace sl15 := e15.trans sl15; clear e15 hj105_15; replace sl16 := e16.trans sl16; clear e16 hj105_16; clear qb4; replace kb4 := kb4.oldB hb112 (by first | (simp; done) | (simp; omega)); replace HL82 := hid (HL82.out.more hb112 (by simp; try omega)); replace hO15 := Own.oldB hO15 hb112 (fun g hg => by have n0 := (World.ownsRow.lt hO15 g hg).1; first | (simp; done) | (simp; omega)); replace HB := hid (HB.out.more hb112 (by simp; try omega)); clear hb112; have qb4 := kb4.1
            repeat ((fail_if_success refine stp ?_); with_reducible go_step)
            refine cond_f ?_
            repeat ((fail_if_success refine stp ?_); with_reducible go_step)
            refine region_F ?_
            iterate 3 refine pl ?_
            refine listF_abs (fun s113 z' => ?_); replace sl1 := gs 1 z' sl1; replace sl2 := gs 2 z' sl2; replace sl3 := gs 3 z' sl3; replace sl4 := gs 4 z' sl4; replace sl14 := gs 14 z' sl14; replace sl15 := gs 15 z' sl15; replace sl16 := gu 16 z'; clear z' sl102; refine listF_nil ?_
            repeat ((fail_if_success refine stp ?_); with_reducible go_step)
            refine ⟨_, _, rfl, ?_, i + 1, v15, rfl, (by first | (with_reducible exact sl15) | (rw [sl15]; (with_reducible go_num); done) | (rw [sl15, IntWalk.i64_in] <;> first | ((with_reducible go_num); done) | omega) | (rw [sl15]; go_num; done) | (rw [sl15]; simp; done) | (rw [sl15]; simp; omega)), (by first | (with_reducible exact sl16) | (rw [sl16]; (with_reducible go_num); done) | (rw [sl16, IntWalk.i64_in] <;> first | ((with_reducible go_num); done) | omega) | (rw [sl16]; go_num; done) | (rw [sl16]; simp; done) | (rw [sl16]; simp; omega)), (sl1.trans hc1_1.out.symm), (sl2.trans hc1_2.out.symm), (sl3.trans hc1_3.out.symm), (sl4.trans hc1_4.out.symm), (sl14.trans hc1_14.out.symm), HL82.out, by omega, (by rw [Hsu.out]; exact hO15)⟩
            omega
        ·skip
         have hge2 : ¬ i < l.length := by simpa using h75
         have Hie := hid (show i = l.length by omega); obtain ⟨a15, c15, rfl, hr15, hn15⟩ := Own.slice (f := int1) (m := 1) (fun _ => rfl) hO15; have Hv15 := hid (show ∀ b, a15 = some b → b.block < w80.heap.size from fun b hb => (World.ownsRow.lt hO15 b.block (by rw [hb]; rfl)).2); have Hn15 := hid hn15; clear hn15
         have hS : susUp (needed k v) l i = (susUp (needed k v) l l.length) := by rw [Hie.out]
         rw [hS] at hr15; have hSl := susUp_len (needed k v) l l.length; have sl15' := sl15; rw [hS] at sl15'; clear sl15 hS; have sl15 := sl15'; clear sl15'
         repeat ((fail_if_success refine stp ?_); with_reducible go_step)
         clear HL82; clear hc1_1 hc1_2 hc1_3 hc1_4 hc1_14; refine region_F ?_
         iterate 3 refine pl ?_
         iterate 3 refine py ?_
         refine pl ?_; refine listF_abs (fun s114 z' => ?_); replace sl1 := gs 1 z' sl1; replace sl2 := gs 2 z' sl2; replace sl3 := gs 3 z' sl3; replace sl4 := gs 4 z' sl4; replace sl15 := gs 15 z' sl15; have sl109 := gu 109 z'; clear z' sl14 sl16 sl75; refine listF_nil ?_
         repeat ((fail_if_success refine stp ?_); with_reducible go_step)
         refine cond_E sl109 (by decide) ?_ ?_ <;> (clear sl109; intro h109 sl109)
         ·skip
          have H101 := hid (show (susUp (needed k v) l l.length).length = 0 by simpa using h109); have Hdn := hid (show grpDown k l v false = true by show (susUp (needed k v) l l.length).isEmpty = true; have := H101.out; cases hz : (susUp (needed k v) l l.length) with | nil => rfl | cons x y => rw [hz] at this; simp at this)
          repeat ((fail_if_success refine stp ?_); with_reducible go_step)
          refine region_F ?_
          iterate 3 refine pl ?_
          refine listF_abs (fun s115 z' => ?_); have sl8 := gu 8 z'; have sl9 := gu 9 z'; have sl10 := gu 10 z'; clear z' sl1 sl2 sl3 sl4 sl15 sl109; refine listF_nil ?_
          repeat ((fail_if_success refine stp ?_); with_reducible go_step)
          refine ret_F _ (res_ttt Try.results32 ((getD_F (by decide)).trans sl8) ((getD_F (by decide)).trans sl9) ((getD_F (by decide)).trans sl10)) ?_; exact grp_no (by unfold grpRes; rw [if_neg (by rw [Her.out]; decide), if_pos Hdn.out]) HB.out.toBelow
         ·skip
          have H101 := hid (show ¬ (susUp (needed k v) l l.length).length = 0 by simpa using h109); have Hdn := hid (show ¬ grpDown k l v false = true by show ¬ (susUp (needed k v) l l.length).isEmpty = true; have := H101.out; cases hz : (susUp (needed k v) l l.length) with | nil => rw [hz] at this; exact absurd rfl this | cons x y => simp)
          repeat ((fail_if_success refine stp ?_); with_reducible go_step)
          by_cases h1 : (susUp (needed k v) l l.length).length = 1
          ·skip
           have H109 := hid h1; clear h1
           obtain ⟨q, hq, hsq⟩ : ∃ q : Nat, q < l.length ∧ (susUp (needed k v) l l.length) = [(q : Int)] := by obtain ⟨x, hx⟩ := List.length_eq_one_iff.1 H109.out; obtain ⟨j, hj, rfl⟩ := susUp_mem (need := needed k v) (l := l) (i := l.length) (x := x) (by rw [hx]; simp); exact ⟨j, hj, hx⟩
           have Hsq := hid hsq; rw [hsq] at hr15; rw [hsq] at sl15; clear hsq; refine region_F ?_; obtain ⟨NB2, hNB2⟩ : ∃ n, n = w80.heap.size := ⟨_, rfl⟩
           have gNB2 : w.heap.size ≤ NB2 := by have := HB.out.size; omega
           have hb4NB2 : B4 < NB2 := by omega
           have hleNB2 : NB2 ≤ w80.heap.size := by omega
           have hgeNB2 : w80.heap.size ≤ NB2 := by omega
           have Hu15 := hid (show ∀ b, a15 = some b → b.block < NB2 from fun b hb => by have := Hv15.out b hb; omega); clear hNB2; refine pl ?_; refine listF_abs (fun s116 z' => ?_); replace sl1 := gs 1 z' sl1; replace sl2 := gs 2 z' sl2; replace sl3 := gs 3 z' sl3; replace sl4 := gs 4 z' sl4; replace sl15 := gs 15 z' sl15; have sl17 := gu 17 z'; clear z' sl109; refine listF_nil ?_
           repeat ((fail_if_success refine stp ?_); with_reducible go_step)
           refine region_F ?_; refine pl ?_; refine listF_abs (fun s117 z' => ?_); replace sl1 := gs 1 z' sl1; replace sl2 := gs 2 z' sl2; replace sl3 := gs 3 z' sl3; replace sl4 := gs 4 z' sl4; replace sl15 := gs 15 z' sl15; replace sl17 := gs 17 z' sl17; have sl18 := gu 18 z'; clear z'; refine listF_nil ?_
           repeat ((fail_if_success refine stp ?_); with_reducible go_step)
           have hc2_1 := hid sl1; have hc2_2 := hid sl2; have hc2_3 := hid sl3; have hc2_4 := hid sl4; have hc2_15 := hid sl15; refine loop_F (n := 145) (fun kJ sJ wJ => ∃ (i : Nat) (v17 : Value), kJ = l.length - i ∧ sJ 17 = v17 ∧ sJ 18 = .int .i64 (i : Int) ∧ sJ 1 = s117 1 ∧ sJ 2 = s117 2 ∧ sJ 3 = s117 3 ∧ sJ 4 = s117 4 ∧ sJ 15 = s117 15 ∧ OldB [] w80 wJ ∧ i ≤ l.length ∧ Own Span.cs 2 23 NB2 wJ v17 ((aftOf k l v false).take i)) ⟨0, .slice none 0 0, rfl, (by first | exact sl17 | (rw [sl17]; go_num) | (rw [sl17]; rfl)), (by first | exact sl18 | (rw [sl18]; go_num) | (rw [sl18]; rfl)), rfl, rfl, rfl, rfl, rfl, OldB.refl _ _, Nat.zero_le _, Own.nil _ _ _ _ _⟩ ?_; clear sl17 sl18; rintro kJ s118 w119 ⟨i, v17, rfl, sl17, sl18, e1, e2, e3, e4, e15, hb120, hil, hO17⟩; replace sl1 := e1.trans sl1; clear e1; replace sl2 := e2.trans sl2; clear e2; replace sl3 := e3.trans sl3; clear e3; replace sl4 := e4.trans sl4; clear e4
           replace sl15 := e15.trans sl15; clear e15; have hoJ := hb120; clear qb4; replace kb4 := kb4.oldB hb120 (by first | (simp; done) | (simp; omega)); replace hr15 := Rd.oldB hr15 hb120 (fun b hb => by have h9 := Hn15.out b hb; have h8 := Hu15.out b hb; cases hb; (try simp at h9); (try simp at h8); first | (simp; done) | (simp; omega)); replace HB := hid (HB.out.more hb120 (by simp; try omega)); clear hb120; have qb4 := kb4.1; have HoJ := hid hoJ; clear hoJ; have HL121 := HoJ; clear HoJ
           repeat ((fail_if_success refine stp ?_); with_reducible go_step)
           refine region_F ?_
           iterate 4 refine pl ?_
           refine listF_abs (fun s122 z' => ?_); replace sl1 := gs 1 z' sl1; replace sl2 := gs 2 z' sl2; replace sl3 := gs 3 z' sl3; replace sl4 := gs 4 z' sl4; replace sl15 := gs 15 z' sl15; replace sl17 := gs 17 z' sl17; replace sl18 := gs 18 z' sl18; have sl113 := gu 113 z'; clear z'; refine listF_nil ?_
           repeat ((fail_if_success refine stp ?_); with_reducible go_step)
           refine cond_E sl113 (by decide) ?_ ?_ <;> (clear sl113; intro h113 sl113)
           ·skip
            have hlt : i < l.length := by simpa using h113
            obtain ⟨b, off, rfl, hbs, c0, c1⟩ := RdSpans.ne (Rd.oldB HRl.out HB.out (by simp)) hlt
            have hlt' : (i : Int) < l.length := by omega
            have wii : IntKind.i64.wrap ((i : Int) + 1) = (i : Int) + 1 := IntWalk.i64_in _ (by omega)
            repeat ((fail_if_success refine stp ?_); with_reducible go_step)
            refine region_F ?_
            iterate 4 refine pl ?_
            refine pa (fun w123 B19 hB kb19' hb124 => ?_); have gb19 := HB.out.gB hB; have lHL121_b19 := HL121.out.gB hB; have ob4_b19 := oB qb4 hB
            have nhO17_b19 : ∀ g, v17.ownBlock = some g → g < B19 := fun g hg => by have := (World.ownsRow.lt hO17 g hg).2; omega
            have eb19 := eB hB; clear hB; clear qb4; replace kb4 := kb4.at hb124; replace hr15 := Rd.at hr15 hb124; replace HL121 := hid (HL121.out.below hb124); replace hO17 := Own.at hO17 hb124; replace HB := hid (HB.out.below hb124); clear hb124; have qb4 := kb4.1; have kb19 := kb19'; clear kb19'; have qb19 := kb19.1; have cb19_0 := kb19.cell 0 rfl; have cb19_1 := kb19.cell 1 rfl; have zb19 := kb19.2.2; refine pl ?_; refine listF_absw (fun w125 hw' => ?_); have kb19' := cells_of hw' (Cells.set (i := 1) (Cells.set (i := 0) (kb19)))
            (try simp only [vC, List.set_cons_zero, List.set_cons_succ] at kb19')
            have hb126 : OldB [B19] w123 w125 := oldset hw'; clear hw'; clear cb19_0 cb19_1 zb19; clear qb4 qb19; replace kb19 := kb19'; replace kb4 := kb4.oldB hb126 (by first | (simp; done) | (simp; omega)); replace hr15 := Rd.oldB hr15 hb126 (fun b hb => by have h9 := Hn15.out b hb; have h8 := Hu15.out b hb; cases hb; (try simp at h9); (try simp at h8); first | (simp; done) | (simp; omega)); replace HL121 := hid (HL121.out.more hb126 (by simp; try omega)); replace hO17 := Own.oldB hO17 hb126 (fun g hg => by have n0 := (World.ownsRow.lt hO17 g hg).1; have nb19 := nhO17_b19 g hg; first | (simp; done) | (simp; omega)); replace HB := hid (HB.out.more hb126 (by simp; try omega)); clear hb126; have qb4 := kb4.1; have qb19 := kb19.1; clear kb19'; refine listF_abs (fun s127 z' => ?_); replace sl1 := gs 1 z' sl1; replace sl2 := gs 2 z' sl2; replace sl3 := gs 3 z' sl3; replace sl4 := gs 4 z' sl4; replace sl15 := gs 15 z' sl15; replace sl17 := gs 17 z' sl17
            replace sl18 := gs 18 z' sl18; have sl19 := gu 19 z'; clear z' sl113; refine listF_nil ?_
            repeat ((fail_if_success refine stp ?_); with_reducible go_step)
            refine region_F ?_; refine pl ?_; refine listF_abs (fun s128 z' => ?_); replace sl1 := gs 1 z' sl1; replace sl2 := gs 2 z' sl2; replace sl3 := gs 3 z' sl3; replace sl4 := gs 4 z' sl4; replace sl15 := gs 15 z' sl15; replace sl17 := gs 17 z' sl17; replace sl18 := gs 18 z' sl18; replace sl19 := gs 19 z' sl19; have sl120 := gu 120 z'; clear z'; refine listF_nil ?_
            repeat ((fail_if_success refine stp ?_); with_reducible go_step)
            refine cond_f ?_
            repeat ((fail_if_success refine stp ?_); with_reducible go_step)
            refine region_F ?_
            iterate 4 refine pl ?_
            refine py ?_; obtain ⟨b9, o9, rfl, hb9, d0⟩ := RdInts.ne hr15 (k := 0) (by simp)
            simp at d0
            iterate 4 refine py ?_
            refine pl ?_; refine listF_abs (fun s129 z' => ?_); replace sl1 := gs 1 z' sl1; replace sl2 := gs 2 z' sl2; replace sl3 := gs 3 z' sl3; replace sl4 := gs 4 z' sl4; replace sl15 := gs 15 z' sl15; replace sl17 := gs 17 z' sl17; replace sl18 := gs 18 z' sl18; replace sl19 := gs 19 z' sl19; have sl129 := gu 129 z'; have sl130 := gu 130 z'; have sl131 := gu 131 z'; have sl132 := gu 132 z'; have sl133 := gu 133 z'; have sl134 := gu 134 z'; clear z' sl120; refine listF_nil ?_
            repeat ((fail_if_success refine stp ?_); with_reducible go_step)
            have hj130_1 := hid sl1; have hj130_2 := hid sl2; have hj130_3 := hid sl3; have hj130_4 := hid sl4; have hj130_15 := hid sl15; have hj130_17 := hid sl17; have hj130_18 := hid sl18; have hj130_19 := hid sl19; have hj130_129 := hid sl129; have hj130_130 := hid sl130; have hj130_131 := hid sl131; have hj130_132 := hid sl132; have hj130_133 := hid sl133; refine cut_any (fun sJ wJ => sJ 1 = s129 1 ∧ sJ 2 = s129 2 ∧ sJ 3 = s129 3 ∧ sJ 4 = s129 4 ∧ sJ 15 = s129 15 ∧ sJ 17 = s129 17 ∧ sJ 18 = s129 18 ∧ sJ 19 = s129 19 ∧ sJ 129 = s129 129 ∧ sJ 130 = s129 130 ∧ sJ 131 = s129 131 ∧ sJ 132 = s129 132 ∧ sJ 133 = s129 133 ∧ OldB [B19] w125 wJ ∧ Cells wJ B19 [.int .i64 (aftAt k l v false i).lo, .int .i64 (aftAt k l v false i).hi]) ?_ ?_
            ·skip
             have HL131 := hid (OldB.refl [B19] w125)
             refine cond_E sl134 (by decide) ?_ ?_ <;> (clear sl134; intro h134 sl134)
             ·skip
              have Hqi := hid (show q = i by have : (q : Int) = i := (by simpa using h134); omega); have Hat := hid (show aftAt k l v false i = agreed k l[i] v false by rw [aft_one hlt hq Hsq.out, if_pos Hqi.out])
              repeat ((fail_if_success refine stp ?_); with_reducible go_step)
              refine region_F ?_; have cb4_0 := kb4.cell 0 rfl; have cb4_1 := kb4.cell 1 rfl; have cb4_2 := kb4.cell 2 rfl; have cb4_3 := kb4.cell 3 rfl; refine pl ?_; have cb19_0 := kb19.cell 0 rfl; have cb19_1 := kb19.cell 1 rfl; refine pl ?_; refine pl ?_; refine listF_step rfl (fun K' hK => ?_); unfold opF; go_simp; refine (ragreed_any k _ c l[i] v false _ (Rd.oldB HR.out HB.out (by simp)) HK.out Hv.out).mono ?_; rintro e w132 ⟨rfl, hb133⟩; refine ⟨_, rfl, hK _ _ ?_⟩; clear hK K'; clear cb19_0 cb19_1 cb4_0 cb4_1 cb4_2 cb4_3; clear qb4 qb19; replace kb4 := kb4.at hb133; replace kb19 := kb19.at hb133; replace hr15 := Rd.at hr15 hb133; replace HL121 := hid (HL121.out.below hb133); replace HL131 := hid (HL131.out.below hb133); replace hO17 := Own.at hO17 hb133; replace HB := hid (HB.out.below hb133); clear hb133; have qb4 := kb4.1; have qb19 := kb19.1; have cb19_0 := kb19.cell 0 rfl; have cb19_1 := kb19.cell 1 rfl; have zb19 := kb19.2.2; refine pl ?_; refine listF_absw (fun w134 hw' => ?_)
              have kb19' := cells_of hw' (Cells.set (i := 1) (Cells.set (i := 0) (kb19)))
              (try simp only [vC, List.set_cons_zero, List.set_cons_succ] at kb19')
              have hb135 : OldB [B19] w132 w134 := oldset hw'; clear hw'; clear cb19_0 cb19_1 zb19; clear qb4 qb19; replace kb19 := kb19'; replace kb4 := kb4.oldB hb135 (by first | (simp; done) | (simp; omega)); replace hr15 := Rd.oldB hr15 hb135 (fun b hb => by have h9 := Hn15.out b hb; have h8 := Hu15.out b hb; cases hb; (try simp at h9); (try simp at h8); first | (simp; done) | (simp; omega)); replace HL121 := hid (HL121.out.more hb135 (by simp; try omega)); replace HL131 := hid (HL131.out.more hb135 (by simp; try omega)); replace hO17 := Own.oldB hO17 hb135 (fun g hg => by have n0 := (World.ownsRow.lt hO17 g hg).1; have nb19 := nhO17_b19 g hg; first | (simp; done) | (simp; omega)); replace HB := hid (HB.out.more hb135 (by simp; try omega)); clear hb135; have qb4 := kb4.1; have qb19 := kb19.1; clear kb19'; refine listF_abs (fun s136 z' => ?_); replace sl1 := gs 1 z' sl1; replace sl2 := gs 2 z' sl2; replace sl3 := gs 3 z' sl3; replace sl4 := gs 4 z' sl4; replace sl15 := gs 15 z' sl15; replace sl17 := gs 17 z' sl17
              replace sl18 := gs 18 z' sl18; replace sl19 := gs 19 z' sl19; replace sl129 := gs 129 z' sl129; replace sl130 := gs 130 z' sl130; replace sl131 := gs 131 z' sl131; replace sl132 := gs 132 z' sl132; replace sl133 := gs 133 z' sl133; clear z' sl134; refine listF_nil ?_
              repeat ((fail_if_success refine stp ?_); with_reducible go_step)
              exact ⟨rfl, _, rfl, (sl1.trans hj130_1.out.symm), (sl2.trans hj130_2.out.symm), (sl3.trans hj130_3.out.symm), (sl4.trans hj130_4.out.symm), (sl15.trans hj130_15.out.symm), (sl17.trans hj130_17.out.symm), (sl18.trans hj130_18.out.symm), (sl19.trans hj130_19.out.symm), (sl129.trans hj130_129.out.symm), (sl130.trans hj130_130.out.symm), (sl131.trans hj130_131.out.symm), (sl132.trans hj130_132.out.symm), (sl133.trans hj130_133.out.symm), HL131.out, (by rw [Hat.out]; exact kb19)⟩
             ·skip
              have Hqi := hid (show ¬ q = i by have : ¬ (q : Int) = i := (by simpa using h134); omega); have Hat := hid (show aftAt k l v false i = l[i] by rw [aft_one hlt hq Hsq.out, if_neg Hqi.out])
              repeat ((fail_if_success refine stp ?_); with_reducible go_step)
              exact ⟨rfl, _, rfl, (sl1.trans hj130_1.out.symm), (sl2.trans hj130_2.out.symm), (sl3.trans hj130_3.out.symm), (sl4.trans hj130_4.out.symm), (sl15.trans hj130_15.out.symm), (sl17.trans hj130_17.out.symm), (sl18.trans hj130_18.out.symm), (sl19.trans hj130_19.out.symm), (sl129.trans hj130_129.out.symm), (sl130.trans hj130_130.out.symm), (sl131.trans hj130_131.out.symm), (sl132.trans hj130_132.out.symm), (sl133.trans hj130_133.out.symm), HL131.out, (by rw [Hat.out]; exact kb19)⟩
            ·skip
             clear sl134; rintro s137 w138 ⟨e1, e2, e3, e4, e15, e17, e18, e19, e129, e130, e131, e132, e133, hb139, mb19'⟩; replace sl1 := e1.trans sl1; clear e1 hj130_1; replace sl2 := e2.trans sl2; clear e2 hj130_2; replace sl3 := e3.trans sl3; clear e3 hj130_3; replace sl4 := e4.trans sl4; clear e4 hj130_4; replace sl15 := e15.trans sl15; clear e15 hj130_15; replace sl17 := e17.trans sl17; clear e17 hj130_17; replace sl18 := e18.trans sl18; clear e18 hj130_18; replace sl19 := e19.trans sl19; clear e19 hj130_19; replace sl129 := e129.trans sl129; clear e129 hj130_129; replace sl130 := e130.trans sl130; clear e130 hj130_130; replace sl131 := e131.trans sl131; clear e131 hj130_131; replace sl132 := e132.trans sl132; clear e132 hj130_132; replace sl133 := e133.trans sl133; clear e133 hj130_133; clear qb4 qb19; replace kb19 := mb19'; replace kb4 := kb4.oldB hb139 (by first | (simp; done) | (simp; omega)); replace hr15 := Rd.oldB hr15 hb139 (fun b hb => by have h9 := Hn15.out b hb; have h8 := Hu15.out b hb; cases hb; (try simp at h9); (try simp at h8); first | (simp; done) | (simp; omega))
             replace HL121 := hid (HL121.out.more hb139 (by simp; try omega)); replace hO17 := Own.oldB hO17 hb139 (fun g hg => by have n0 := (World.ownsRow.lt hO17 g hg).1; have nb19 := nhO17_b19 g hg; first | (simp; done) | (simp; omega)); replace HB := hid (HB.out.more hb139 (by simp; try omega)); clear hb139; have qb4 := kb4.1; have qb19 := kb19.1; clear mb19'
             repeat ((fail_if_success refine stp ?_); with_reducible go_step)
             refine region_F ?_; refine pl ?_; have cb19_0 := kb19.cell 0 rfl; have cb19_1 := kb19.cell 1 rfl; refine pl ?_; refine pas (fun w140 B141 hB kb141' hb141 => ?_); have gb141 := HB.out.gB hB; have lHL121_b141 := HL121.out.gB hB; have ob4_b141 := oB qb4 hB; have ob19_b141 := oB qb19 hB
             have nhO17_b141 : ∀ g, v17.ownBlock = some g → g < B141 := fun g hg => by have := (World.ownsRow.lt hO17 g hg).2; omega
             have eb141 := eB hB; clear hB; clear cb19_0 cb19_1; clear qb4 qb19; replace kb4 := kb4.at hb141; replace kb19 := kb19.at hb141; replace hr15 := Rd.at hr15 hb141; replace HL121 := hid (HL121.out.below hb141); replace hO17 := Own.at hO17 hb141; replace HB := hid (HB.out.below hb141); clear hb141; have qb4 := kb4.1; have qb19 := kb19.1; have kb141 := kb141'; clear kb141'; have qb141 := kb141.1
             have ab4 : v17.ownBlock ≠ some B4 := fun e => by have n0 := (World.ownsRow.lt hO17 _ e).1; omega
             have ab19 : v17.ownBlock ≠ some B19 := fun e => by have n0 := (World.ownsRow.lt hO17 _ e).1; have n9 := nhO17_b19 _ e; omega
             have ab141 : v17.ownBlock ≠ some B141 := fun e => by have n0 := (World.ownsRow.lt hO17 _ e).1; have n9 := nhO17_b141 _ e; omega
             have hzz := HB.out.size; refine listF_step rfl (fun K' hK => ?_); refine opF_app (d := 142) rfl (by decide) (.tmp 139) (.tmp 141) _ rfl 23 i0 _ 16 Try.underlying44 hi0 hz0 hy0 hx0 rfl (by decide) (fun _ => rfl) span_one NB2 v17 ((aftOf k l v false).take i) [(aftAt k l v false i)] (some ⟨B141, 0, none⟩) 1 (by go_simp) (by go_simp) hO17 (Cells.rd (f := Span.cs) (m := 2) (l := [(aftAt k l v false i)]) (fun _ => rfl) kb141) (by have := aft_len k l v false; unfold maxLen; simp; omega) (by have := aft_len k l v false; simp; omega) (by omega) (fun v142 w142 hO' hG hV => hK _ _ ?_); clear hK K' hzz; clear qb4 qb19 qb141; replace kb4 := kb4.grown hG ab4; clear ab4; replace kb19 := kb19.grown hG ab19; clear ab19; replace kb141 := kb141.grown hG ab141; clear ab141; replace hr15 := Rd.grown hr15 hG (fun _ b hb e => by have n1 := Hu15.out b hb; have n2 := (World.ownsRow.lt hO17 _ e).1; omega); replace HL121 := hid (HL121.out.grown hG (fun k hk => .inl (by have := (World.ownsRow.lt hO17 k hk).1; omega)))
             replace HB := hid (HB.out.grown hG (fun k hk => .inl (by have := (World.ownsRow.lt hO17 k hk).1; omega))); clear hO17; have hO17 := hO'; clear hO' hG hV; clear nhO17_b19 nhO17_b141; have qb4 := kb4.1; have qb19 := kb19.1; have qb141 := kb141.1; refine pl ?_; refine listF_abs (fun s143 z' => ?_); replace sl1 := gs 1 z' sl1; replace sl2 := gs 2 z' sl2; replace sl3 := gs 3 z' sl3; replace sl4 := gs 4 z' sl4; replace sl15 := gs 15 z' sl15; replace sl17 := gu 17 z'; replace sl18 := gs 18 z' sl18; replace sl129 := gs 129 z' sl129; replace sl130 := gs 130 z' sl130; replace sl131 := gs 131 z' sl131; replace sl132 := gs 132 z' sl132; replace sl133 := gs 133 z' sl133; clear z' sl19; refine listF_nil ?_
             repeat ((fail_if_success refine stp ?_); with_reducible go_step)
             refine region_F ?_
             iterate 3 refine pl ?_
             refine listF_abs (fun s144 z' => ?_); replace sl1 := gs 1 z' sl1; replace sl2 := gs 2 z' sl2; replace sl3 := gs 3 z' sl3; replace sl4 := gs 4 z' sl4; replace sl15 := gs 15 z' sl15; replace sl17 := gs 17 z' sl17; replace sl18 := gu 18 z'; replace sl129 := gs 129 z' sl129; replace sl130 := gs 130 z' sl130; replace sl131 := gs 131 z' sl131; replace sl132 := gs 132 z' sl132; replace sl133 := gs 133 z' sl133; clear z'; refine listF_nil ?_
             repeat ((fail_if_success refine stp ?_); with_reducible go_step)
             refine ⟨_, _, rfl, ?_, i + 1, v142, rfl, (by first | (with_reducible exact sl17) | (rw [sl17]; (with_reducible go_num); done) | (rw [sl17, IntWalk.i64_in] <;> first | ((with_reducible go_num); done) | omega) | (rw [sl17]; go_num; done) | (rw [sl17]; simp; done) | (rw [sl17]; simp; omega)), (by first | (with_reducible exact sl18) | (rw [sl18]; (with_reducible go_num); done) | (rw [sl18, IntWalk.i64_in] <;> first | ((with_reducible go_num); done) | omega) | (rw [sl18]; go_num; done) | (rw [sl18]; simp; done) | (rw [sl18]; simp; omega)), (sl1.trans hc2_1.out.symm), (sl2.trans hc2_2.out.symm), (sl3.trans hc2_3.out.symm), (sl4.trans hc2_4.out.symm), (sl15.trans hc2_15.out.symm), HL121.out, by omega, (by rw [aft_succ hlt]; exact hO17)⟩
             omega
           ·skip
            have hge3 : ¬ i < l.length := by simpa using h113
            have Hal := hid (show (aftOf k l v false).take i = aftOf k l v false from List.take_of_length_le (by rw [aft_len]; omega)); obtain ⟨a17, c17, rfl, hr17, hn17⟩ := Own.slice (f := Span.cs) (m := 2) (fun _ => rfl) hO17; have Hn17 := hid hn17; rw [Hal.out] at hr17; have sl17' := sl17; rw [Hal.out] at sl17'; clear sl17; have sl17 := sl17'; clear sl17'
            repeat ((fail_if_success refine stp ?_); with_reducible go_step)
            clear HL121; clear hc2_1 hc2_2 hc2_3 hc2_4 hc2_15; refine region_F ?_
            iterate 5 refine pl ?_
            refine listF_abs (fun s145 z' => ?_); have sl8 := gu 8 z'; have sl9 := gu 9 z'; have sl10 := gu 10 z'; clear z' sl1 sl2 sl3 sl4 sl15 sl17 sl18 sl113; refine listF_nil ?_
            repeat ((fail_if_success refine stp ?_); with_reducible go_step)
            refine ret_F _ (res_ttt Try.results32 ((getD_F (by decide)).trans sl8) ((getD_F (by decide)).trans sl9) ((getD_F (by decide)).trans sl10)) ?_; have Hgr := hid (show grpRes k l v false = (aftOf k l v false, (susUp (needed k v) l l.length), 0) by unfold grpRes; rw [if_neg (by rw [Her.out]; decide), if_neg Hdn.out]; rfl); exact ⟨a17, c17, a15, c15, by rw [Hgr.out, Hsq.out]; rfl, by rw [Hgr.out]; exact hr17, by rw [Hgr.out, Hsq.out]; exact hr15, HB.out.toBelow, (fun b hb => by have := Hn17.out b hb; omega), (fun b hb => by have := Hn15.out b hb; omega)⟩
          ·skip
           have H1 := hid h1; have H2 := hid (show ¬ ((susUp (needed k v) l l.length).length : Int) = 1 by omega); clear h1; refine region_F ?_; obtain ⟨NB2, hNB2⟩ : ∃ n, n = w80.heap.size := ⟨_, rfl⟩
           have gNB2 : w.heap.size ≤ NB2 := by have := HB.out.size; omega
           have hb4NB2 : B4 < NB2 := by omega
           have hleNB2 : NB2 ≤ w80.heap.size := by omega
           have hgeNB2 : w80.heap.size ≤ NB2 := by omega
           have Hu15 := hid (show ∀ b, a15 = some b → b.block < NB2 from fun b hb => by have := Hv15.out b hb; omega); clear hNB2; refine pl ?_; refine listF_abs (fun s146 z' => ?_); replace sl1 := gs 1 z' sl1; replace sl2 := gs 2 z' sl2; replace sl3 := gs 3 z' sl3; replace sl4 := gs 4 z' sl4; replace sl15 := gs 15 z' sl15; have sl17 := gu 17 z'; clear z' sl109; refine listF_nil ?_
           repeat ((fail_if_success refine stp ?_); with_reducible go_step)
           refine region_F ?_; refine pl ?_; refine listF_abs (fun s147 z' => ?_); replace sl1 := gs 1 z' sl1; replace sl2 := gs 2 z' sl2; replace sl3 := gs 3 z' sl3; replace sl4 := gs 4 z' sl4; replace sl15 := gs 15 z' sl15; replace sl17 := gs 17 z' sl17; have sl18 := gu 18 z'; clear z'; refine listF_nil ?_
           repeat ((fail_if_success refine stp ?_); with_reducible go_step)
           have hc2_1 := hid sl1; have hc2_2 := hid sl2; have hc2_3 := hid sl3; have hc2_4 := hid sl4; have hc2_15 := hid sl15; refine loop_F (n := 145) (fun kJ sJ wJ => ∃ (i : Nat) (v17 : Value), kJ = l.length - i ∧ sJ 17 = v17 ∧ sJ 18 = .int .i64 (i : Int) ∧ sJ 1 = s147 1 ∧ sJ 2 = s147 2 ∧ sJ 3 = s147 3 ∧ sJ 4 = s147 4 ∧ sJ 15 = s147 15 ∧ OldB [] w80 wJ ∧ i ≤ l.length ∧ Own Span.cs 2 23 NB2 wJ v17 ((aftOf k l v false).take i)) ⟨0, .slice none 0 0, rfl, (by first | exact sl17 | (rw [sl17]; go_num) | (rw [sl17]; rfl)), (by first | exact sl18 | (rw [sl18]; go_num) | (rw [sl18]; rfl)), rfl, rfl, rfl, rfl, rfl, OldB.refl _ _, Nat.zero_le _, Own.nil _ _ _ _ _⟩ ?_; clear sl17 sl18; rintro kJ s148 w149 ⟨i, v17, rfl, sl17, sl18, e1, e2, e3, e4, e15, hb150, hil, hO17⟩; replace sl1 := e1.trans sl1; clear e1; replace sl2 := e2.trans sl2; clear e2; replace sl3 := e3.trans sl3; clear e3; replace sl4 := e4.trans sl4; clear e4
           replace sl15 := e15.trans sl15; clear e15; have hoJ := hb150; clear qb4; replace kb4 := kb4.oldB hb150 (by first | (simp; done) | (simp; omega)); replace hr15 := Rd.oldB hr15 hb150 (fun b hb => by have h9 := Hn15.out b hb; have h8 := Hu15.out b hb; cases hb; (try simp at h9); (try simp at h8); first | (simp; done) | (simp; omega)); replace HB := hid (HB.out.more hb150 (by simp; try omega)); clear hb150; have qb4 := kb4.1; have HoJ := hid hoJ; clear hoJ; have HL151 := HoJ; clear HoJ
           repeat ((fail_if_success refine stp ?_); with_reducible go_step)
           refine region_F ?_
           iterate 4 refine pl ?_
           refine listF_abs (fun s152 z' => ?_); replace sl1 := gs 1 z' sl1; replace sl2 := gs 2 z' sl2; replace sl3 := gs 3 z' sl3; replace sl4 := gs 4 z' sl4; replace sl15 := gs 15 z' sl15; replace sl17 := gs 17 z' sl17; replace sl18 := gs 18 z' sl18; have sl113 := gu 113 z'; clear z'; refine listF_nil ?_
           repeat ((fail_if_success refine stp ?_); with_reducible go_step)
           refine cond_E sl113 (by decide) ?_ ?_ <;> (clear sl113; intro h113 sl113)
           ·skip
            have hlt : i < l.length := by simpa using h113
            obtain ⟨b, off, rfl, hbs, c0, c1⟩ := RdSpans.ne (Rd.oldB HRl.out HB.out (by simp)) hlt
            have hlt' : (i : Int) < l.length := by omega
            have wii : IntKind.i64.wrap ((i : Int) + 1) = (i : Int) + 1 := IntWalk.i64_in _ (by omega)
            repeat ((fail_if_success refine stp ?_); with_reducible go_step)
            refine region_F ?_
            iterate 4 refine pl ?_
            refine pa (fun w153 B19 hB kb19' hb154 => ?_); have gb19 := HB.out.gB hB; have lHL151_b19 := HL151.out.gB hB; have ob4_b19 := oB qb4 hB
            have nhO17_b19 : ∀ g, v17.ownBlock = some g → g < B19 := fun g hg => by have := (World.ownsRow.lt hO17 g hg).2; omega
            have eb19 := eB hB; clear hB; clear qb4; replace kb4 := kb4.at hb154; replace hr15 := Rd.at hr15 hb154; replace HL151 := hid (HL151.out.below hb154); replace hO17 := Own.at hO17 hb154; replace HB := hid (HB.out.below hb154); clear hb154; have qb4 := kb4.1; have kb19 := kb19'; clear kb19'; have qb19 := kb19.1; have cb19_0 := kb19.cell 0 rfl; have cb19_1 := kb19.cell 1 rfl; have zb19 := kb19.2.2; refine pl ?_; refine listF_absw (fun w155 hw' => ?_); have kb19' := cells_of hw' (Cells.set (i := 1) (Cells.set (i := 0) (kb19)))
            (try simp only [vC, List.set_cons_zero, List.set_cons_succ] at kb19')
            have hb156 : OldB [B19] w153 w155 := oldset hw'; clear hw'; clear cb19_0 cb19_1 zb19; clear qb4 qb19; replace kb19 := kb19'; replace kb4 := kb4.oldB hb156 (by first | (simp; done) | (simp; omega)); replace hr15 := Rd.oldB hr15 hb156 (fun b hb => by have h9 := Hn15.out b hb; have h8 := Hu15.out b hb; cases hb; (try simp at h9); (try simp at h8); first | (simp; done) | (simp; omega)); replace HL151 := hid (HL151.out.more hb156 (by simp; try omega)); replace hO17 := Own.oldB hO17 hb156 (fun g hg => by have n0 := (World.ownsRow.lt hO17 g hg).1; have nb19 := nhO17_b19 g hg; first | (simp; done) | (simp; omega)); replace HB := hid (HB.out.more hb156 (by simp; try omega)); clear hb156; have qb4 := kb4.1; have qb19 := kb19.1; clear kb19'; refine listF_abs (fun s157 z' => ?_); replace sl1 := gs 1 z' sl1; replace sl2 := gs 2 z' sl2; replace sl3 := gs 3 z' sl3; replace sl4 := gs 4 z' sl4; replace sl15 := gs 15 z' sl15; replace sl17 := gs 17 z' sl17
            replace sl18 := gs 18 z' sl18; have sl19 := gu 19 z'; clear z' sl113; refine listF_nil ?_
            repeat ((fail_if_success refine stp ?_); with_reducible go_step)
            refine region_F ?_; refine pl ?_; refine listF_abs (fun s158 z' => ?_); replace sl1 := gs 1 z' sl1; replace sl2 := gs 2 z' sl2; replace sl3 := gs 3 z' sl3; replace sl4 := gs 4 z' sl4; replace sl15 := gs 15 z' sl15; replace sl17 := gs 17 z' sl17; replace sl18 := gs 18 z' sl18; replace sl19 := gs 19 z' sl19; have sl120 := gu 120 z'; clear z'; refine listF_nil ?_
            repeat ((fail_if_success refine stp ?_); with_reducible go_step)
            refine cond_f ?_
            repeat ((fail_if_success refine stp ?_); with_reducible go_step)
            refine region_F ?_
            iterate 4 refine pl ?_
            refine listF_abs (fun s159 z' => ?_); replace sl1 := gs 1 z' sl1; replace sl2 := gs 2 z' sl2; replace sl3 := gs 3 z' sl3; replace sl4 := gs 4 z' sl4; replace sl15 := gs 15 z' sl15; replace sl17 := gs 17 z' sl17; replace sl18 := gs 18 z' sl18; replace sl19 := gs 19 z' sl19; have sl128 := gu 128 z'; clear z' sl120
            refine boolG sl128 (fun sl128' h128 => ?_) (fun sl128' h128 => ?_) <;> (clear sl128; have sl128 := sl128'; clear sl128')
            ·skip
             exact absurd (by simpa using h128) H2.out
            ·skip
             have Hat := hid (aft_not (k := k) (v := v) hlt H1.out)
             refine pn false ?_
             refine pn false ?_
             refine pn false ?_; refine pn false ?_; refine pn false ?_; refine pl ?_; refine listF_abs (fun s160 z' => ?_); replace sl1 := gs 1 z' sl1; replace sl2 := gs 2 z' sl2; replace sl3 := gs 3 z' sl3; replace sl4 := gs 4 z' sl4; replace sl15 := gs 15 z' sl15; replace sl17 := gs 17 z' sl17; replace sl18 := gs 18 z' sl18; replace sl19 := gs 19 z' sl19; have sl134 := gu 134 z'; clear z' sl128; refine listF_nil ?_
             repeat ((fail_if_success refine stp ?_); with_reducible go_step)
             have hj161_1 := hid sl1; have hj161_2 := hid sl2; have hj161_3 := hid sl3; have hj161_4 := hid sl4; have hj161_15 := hid sl15; have hj161_17 := hid sl17; have hj161_18 := hid sl18; have hj161_19 := hid sl19; refine cut_any (fun sJ wJ => sJ 1 = s160 1 ∧ sJ 2 = s160 2 ∧ sJ 3 = s160 3 ∧ sJ 4 = s160 4 ∧ sJ 15 = s160 15 ∧ sJ 17 = s160 17 ∧ sJ 18 = s160 18 ∧ sJ 19 = s160 19 ∧ OldB [B19] w155 wJ ∧ Cells wJ B19 [.int .i64 (aftAt k l v false i).lo, .int .i64 (aftAt k l v false i).hi]) ?_ ?_
             ·skip
              have HL162 := hid (OldB.refl [B19] w155); refine cond_f ?_
              repeat ((fail_if_success refine stp ?_); with_reducible go_step)
              exact ⟨rfl, _, rfl, (sl1.trans hj161_1.out.symm), (sl2.trans hj161_2.out.symm), (sl3.trans hj161_3.out.symm), (sl4.trans hj161_4.out.symm), (sl15.trans hj161_15.out.symm), (sl17.trans hj161_17.out.symm), (sl18.trans hj161_18.out.symm), (sl19.trans hj161_19.out.symm), HL162.out, (by rw [Hat.out]; exact kb19)⟩
             ·skip
              clear sl134; rintro s163 w164 ⟨e1, e2, e3, e4, e15, e17, e18, e19, hb165, mb19'⟩; replace sl1 := e1.trans sl1; clear e1 hj161_1; replace sl2 := e2.trans sl2; clear e2 hj161_2; replace sl3 := e3.trans sl3; clear e3 hj161_3; replace sl4 := e4.trans sl4; clear e4 hj161_4; replace sl15 := e15.trans sl15; clear e15 hj161_15; replace sl17 := e17.trans sl17; clear e17 hj161_17; replace sl18 := e18.trans sl18; clear e18 hj161_18; replace sl19 := e19.trans sl19; clear e19 hj161_19; clear qb4 qb19; replace kb19 := mb19'; replace kb4 := kb4.oldB hb165 (by first | (simp; done) | (simp; omega)); replace hr15 := Rd.oldB hr15 hb165 (fun b hb => by have h9 := Hn15.out b hb; have h8 := Hu15.out b hb; cases hb; (try simp at h9); (try simp at h8); first | (simp; done) | (simp; omega)); replace HL151 := hid (HL151.out.more hb165 (by simp; try omega)); replace hO17 := Own.oldB hO17 hb165 (fun g hg => by have n0 := (World.ownsRow.lt hO17 g hg).1; have nb19 := nhO17_b19 g hg; first | (simp; done) | (simp; omega))
              replace HB := hid (HB.out.more hb165 (by simp; try omega)); clear hb165; have qb4 := kb4.1; have qb19 := kb19.1; clear mb19'
              repeat ((fail_if_success refine stp ?_); with_reducible go_step)
              refine region_F ?_; refine pl ?_; have cb19_0 := kb19.cell 0 rfl; have cb19_1 := kb19.cell 1 rfl; refine pl ?_; refine pas (fun w166 B141 hB kb141' hb167 => ?_); have gb141 := HB.out.gB hB; have lHL151_b141 := HL151.out.gB hB; have ob4_b141 := oB qb4 hB; have ob19_b141 := oB qb19 hB
              have nhO17_b141 : ∀ g, v17.ownBlock = some g → g < B141 := fun g hg => by have := (World.ownsRow.lt hO17 g hg).2; omega
              have eb141 := eB hB; clear hB; clear cb19_0 cb19_1; clear qb4 qb19; replace kb4 := kb4.at hb167; replace kb19 := kb19.at hb167; replace hr15 := Rd.at hr15 hb167; replace HL151 := hid (HL151.out.below hb167); replace hO17 := Own.at hO17 hb167; replace HB := hid (HB.out.below hb167); clear hb167; have qb4 := kb4.1; have qb19 := kb19.1; have kb141 := kb141'; clear kb141'; have qb141 := kb141.1
              have ab4 : v17.ownBlock ≠ some B4 := fun e => by have n0 := (World.ownsRow.lt hO17 _ e).1; omega
              have ab19 : v17.ownBlock ≠ some B19 := fun e => by have n0 := (World.ownsRow.lt hO17 _ e).1; have n9 := nhO17_b19 _ e; omega
              have ab141 : v17.ownBlock ≠ some B141 := fun e => by have n0 := (World.ownsRow.lt hO17 _ e).1; have n9 := nhO17_b141 _ e; omega
              have hzz := HB.out.size; refine listF_step rfl (fun K' hK => ?_); refine opF_app (d := 142) rfl (by decide) (.tmp 139) (.tmp 141) _ rfl 23 i0 _ 16 Try.underlying44 hi0 hz0 hy0 hx0 rfl (by decide) (fun _ => rfl) span_one NB2 v17 ((aftOf k l v false).take i) [(aftAt k l v false i)] (some ⟨B141, 0, none⟩) 1 (by go_simp) (by go_simp) hO17 (Cells.rd (f := Span.cs) (m := 2) (l := [(aftAt k l v false i)]) (fun _ => rfl) kb141) (by have := aft_len k l v false; unfold maxLen; simp; omega) (by have := aft_len k l v false; simp; omega) (by omega) (fun v142 w168 hO' hG hV => hK _ _ ?_); clear hK K' hzz; clear qb4 qb19 qb141; replace kb4 := kb4.grown hG ab4; clear ab4; replace kb19 := kb19.grown hG ab19; clear ab19; replace kb141 := kb141.grown hG ab141; clear ab141; replace hr15 := Rd.grown hr15 hG (fun _ b hb e => by have n1 := Hu15.out b hb; have n2 := (World.ownsRow.lt hO17 _ e).1; omega); replace HL151 := hid (HL151.out.grown hG (fun k hk => .inl (by have := (World.ownsRow.lt hO17 k hk).1; omega)))
              replace HB := hid (HB.out.grown hG (fun k hk => .inl (by have := (World.ownsRow.lt hO17 k hk).1; omega))); clear hO17; have hO17 := hO'; clear hO' hG hV; clear nhO17_b19 nhO17_b141; have qb4 := kb4.1; have qb19 := kb19.1; have qb141 := kb141.1; refine pl ?_; refine listF_abs (fun s169 z' => ?_); replace sl1 := gs 1 z' sl1; replace sl2 := gs 2 z' sl2; replace sl3 := gs 3 z' sl3; replace sl4 := gs 4 z' sl4; replace sl15 := gs 15 z' sl15; replace sl17 := gu 17 z'; replace sl18 := gs 18 z' sl18; clear z' sl19; refine listF_nil ?_
              repeat ((fail_if_success refine stp ?_); with_reducible go_step)
              refine region_F ?_
              iterate 3 refine pl ?_
              refine listF_abs (fun s170 z' => ?_); replace sl1 := gs 1 z' sl1; replace sl2 := gs 2 z' sl2; replace sl3 := gs 3 z' sl3; replace sl4 := gs 4 z' sl4; replace sl15 := gs 15 z' sl15; replace sl17 := gs 17 z' sl17; replace sl18 := gu 18 z'; clear z'; refine listF_nil ?_
              repeat ((fail_if_success refine stp ?_); with_reducible go_step)
              refine ⟨_, _, rfl, ?_, i + 1, v142, rfl, (by first | (with_reducible exact sl17) | (rw [sl17]; (with_reducible go_num); done) | (rw [sl17, IntWalk.i64_in] <;> first | ((with_reducible go_num); done) | omega) | (rw [sl17]; go_num; done) | (rw [sl17]; simp; done) | (rw [sl17]; simp; omega)), (by first | (with_reducible exact sl18) | (rw [sl18]; (with_reducible go_num); done) | (rw [sl18, IntWalk.i64_in] <;> first | ((with_reducible go_num); done) | omega) | (rw [sl18]; go_num; done) | (rw [sl18]; simp; done) | (rw [sl18]; simp; omega)), (sl1.trans hc2_1.out.symm), (sl2.trans hc2_2.out.symm), (sl3.trans hc2_3.out.symm), (sl4.trans hc2_4.out.symm), (sl15.trans hc2_15.out.symm), HL151.out, by omega, (by rw [aft_succ hlt]; exact hO17)⟩
              omega
           ·skip
            have hge3 : ¬ i < l.length := by simpa using h113
            have Hal := hid (show (aftOf k l v false).take i = aftOf k l v false from List.take_of_length_le (by rw [aft_len]; omega)); obtain ⟨a17, c17, rfl, hr17, hn17⟩ := Own.slice (f := Span.cs) (m := 2) (fun _ => rfl) hO17; have Hn17 := hid hn17; rw [Hal.out] at hr17; have sl17' := sl17; rw [Hal.out] at sl17'; clear sl17; have sl17 := sl17'; clear sl17'
            repeat ((fail_if_success refine stp ?_); with_reducible go_step)
            clear HL151; clear hc2_1 hc2_2 hc2_3 hc2_4 hc2_15; refine region_F ?_
            iterate 5 refine pl ?_
            refine listF_abs (fun s171 z' => ?_); have sl8 := gu 8 z'; have sl9 := gu 9 z'; have sl10 := gu 10 z'; clear z' sl1 sl2 sl3 sl4 sl15 sl17 sl18 sl113; refine listF_nil ?_
            repeat ((fail_if_success refine stp ?_); with_reducible go_step)
            refine ret_F _ (res_ttt Try.results32 ((getD_F (by decide)).trans sl8) ((getD_F (by decide)).trans sl9) ((getD_F (by decide)).trans sl10)) ?_; have Hgr := hid (show grpRes k l v false = (aftOf k l v false, (susUp (needed k v) l l.length), 0) by unfold grpRes; rw [if_neg (by rw [Her.out]; decide), if_neg Hdn.out]; rfl); exact ⟨a17, c17, a15, c15, by rw [Hgr.out], by rw [Hgr.out]; exact hr17, by rw [Hgr.out]; exact hr15, HB.out.toBelow, (fun b hb => by have := Hn17.out b hb; omega), (fun b hb => by have := Hn15.out b hb; omega)⟩

end Go.Proofs.Ytndcmmghgljinaa
