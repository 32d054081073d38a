/- The reference's Plans. -/
import Derived.Test.YtndcmmghgljinaardW31
set_option linter.all false
namespace Go.Proofs.Ytndcmmghgljinaa

open Go.RowKit

set_option maxRecDepth 100000 in
set_option maxHeartbeats 1000000 in
theorem rplans_any (al : Option Addr) (cl : Nat) (l : List Sl) (am : Option Addr) (cm : Nat) (m : List Sl) (w : World) (hRl : RdPlan w al l) (hRm : RdPlan w am m) (hll : l.length ≤ 9223372036854775807) (hlm : m.length ≤ 9223372036854775807) (hsl : ∀ x ∈ l, x.l.length ≤ 9223372036854775807) (hsm : ∀ x ∈ m, x.l.length ≤ 9223372036854775807) :
    Calls Try.prog 37 #[.slice al l.length cl, .slice am m.length cm] w (fun e w' => e = .returned (.bool (decide (l.map Sl.l = m.map Sl.l))) ∧ Below w.heap.size w w') := by
 have HRl := hid hRl.1; have HRm := hid hRm.1; have HSl := hid hRl.2; have HSm := hid hRm.2; have Hsl := hid hsl; have Hsm := hid hsm; clear hRl hRm hsl hsm
 refine enter_F Try.func37 rfl Try.ntmps37 (by simp) ?_
 intro s0 hs; have sl0 : s0 0 = .slice al l.length cl := hs 0 (by simp); have sl1 : s0 1 = .slice am m.length cm := hs 1 (by simp); clear hs; have HB := hid (OldB.refl [] w)
 repeat ((fail_if_success refine stp ?_); with_reducible go_step)
 refine region_F ?_; refine pl ?_; refine listF_abs (fun s1 z' => ?_); replace sl0 := gs 0 z' sl0; replace sl1 := gs 1 z' sl1; clear z'; refine listF_nil ?_
 repeat ((fail_if_success refine stp ?_); with_reducible go_step)
 refine region_F ?_
 iterate 5 refine pl ?_
 refine listF_abs (fun s2 z' => ?_); replace sl0 := gs 0 z' sl0; replace sl1 := gs 1 z' sl1; have sl10 := gu 10 z'; clear z'; refine listF_nil ?_
 repeat ((fail_if_success refine stp ?_); with_reducible go_step)
 refine cond_E sl10 (by decide) ?_ ?_ <;> (clear sl10; intro h10 sl10)
 ·skip
  have Hne := hid (show ¬ l.map Sl.l = m.map Sl.l by intro e; have e2 := congrArg List.length e; simp at e2 h10; omega)
  repeat ((fail_if_success refine stp ?_); with_reducible go_step)
  refine region_F ?_; refine pl ?_; refine listF_abs (fun s3 z' => ?_); have sl4 := gu 4 z'; clear z' sl0 sl1 sl10; refine listF_nil ?_
  repeat ((fail_if_success refine stp ?_); with_reducible go_step)
  refine ret_F _ (res_t Try.results37 ((getD_F (by decide)).trans sl4)) ?_; exact ⟨by rw [decide_eq_false Hne.out], HB.out.toBelow⟩
 ·skip
  have hlen : l.length = m.length := by simp at h10; omega
  have Hlen := hid hlen; clear hlen
  repeat ((fail_if_success refine stp ?_); with_reducible go_step)
  refine region_F ?_; refine pl ?_; refine listF_abs (fun s4 z' => ?_); replace sl0 := gs 0 z' sl0; replace sl1 := gs 1 z' sl1; have sl5 := gu 5 z'; clear z' sl10; refine listF_nil ?_
  repeat ((fail_if_success refine stp ?_); with_reducible go_step)
  have hc0_0 := hid sl0; have hc0_1 := hid sl1; refine loop_F (n := 27) (fun kJ sJ wJ => ∃ (i : Nat), kJ = l.length - i ∧ sJ 5 = .int .i64 (i : Int) ∧ sJ 0 = s4 0 ∧ sJ 1 = s4 1 ∧ OldB [] w wJ ∧ i ≤ l.length ∧ Hid ((l.map Sl.l).take i = (m.map Sl.l).take i)) ⟨0, rfl, (by first | exact sl5 | (rw [sl5]; go_num) | (rw [sl5]; rfl)), rfl, rfl, OldB.refl _ _, Nat.zero_le _, hid (by simp)⟩ ?_; clear sl5; rintro kJ s5 w6 ⟨i, rfl, sl5, e0, e1, hb7, hil, htk⟩; replace sl0 := e0.trans sl0; clear e0; replace sl1 := e1.trans sl1; clear e1; have hoJ := hb7; replace HB := hid (HB.out.more hb7 (by simp; try omega)); clear hb7; have HoJ := hid hoJ; clear hoJ; have HL8 := HoJ; clear HoJ
  repeat ((fail_if_success refine stp ?_); with_reducible go_step)
  refine region_F ?_
  iterate 4 refine pl ?_
  refine listF_abs (fun s9 z' => ?_); replace sl0 := gs 0 z' sl0; replace sl1 := gs 1 z' sl1; replace sl5 := gs 5 z' sl5; have sl14 := gu 14 z'; clear z'; refine listF_nil ?_
  repeat ((fail_if_success refine stp ?_); with_reducible go_step)
  refine cond_E sl14 (by decide) ?_ ?_ <;> (clear sl14; intro h14 sl14)
  ·skip
   have hlt : i < l.length := by simpa using h14
   have hlt2 : i < m.length := by rw [← Hlen.out]; exact hlt
   have hlt' : (i : Int) < l.length := by omega
   have hlt2' : (i : Int) < m.length := by omega
   obtain ⟨b, off, rfl, hbs, c0⟩ := RdSls.ne (Rd.oldB HRl.out HB.out (by simp)) hlt; obtain ⟨b2, off2, rfl, hbs2, d0⟩ := RdSls.ne (Rd.oldB HRm.out HB.out (by simp)) hlt2; have wii : IntKind.i64.wrap ((i : Int) + 1) = (i : Int) + 1 := IntWalk.i64_in _ (by omega)
   repeat ((fail_if_success refine stp ?_); with_reducible go_step)
   refine regionQ_F (Below w6.heap.size w6) (by kernel_rfl) (by kernel_rfl) (Below.refl _ _).drew ?_
   iterate 8 refine lq ?_
   refine listQ_step (v := ?_) rfl ?_ ?_; rotate_left
   · focus (intro wq hwq; obtain ⟨hcq, hfq⟩ := bcell hwq; go_simp; have hQ := callQ (rints_any l[i].a l[i].c l[i].l m[i].a m[i].c m[i].l _ (Rd.oldB (HSl.out _ (List.getElem_mem hlt)) (HB.out.below hwq) (by simp)) (Rd.oldB (HSm.out _ (List.getElem_mem hlt2)) (HB.out.below hwq) (by simp)) (Hsl.out _ (List.getElem_mem hlt)) (Hsm.out _ (List.getElem_mem hlt2))) hwq; exact hQ)
   refine lq ?_; refine listQ_nil ?_; intro w10 hb11; replace HL8 := hid (HL8.out.below hb11); replace HB := hid (HB.out.below hb11); clear hb11
   repeat ((fail_if_success refine stp ?_); with_reducible go_step)
   refine wp_abs (fun s12 z' => ?_); replace sl0 := gs 0 z' sl0; replace sl1 := gs 1 z' sl1; replace sl5 := gs 5 z' sl5; have sl26 := gu 26 z'; clear z' sl14
   refine cond_E sl26 (by decide) ?_ ?_ <;> (clear sl26; intro h26 sl26)
   ·skip
    have Hne := hid (show ¬ l.map Sl.l = m.map Sl.l by intro e; have e3 : (l.map Sl.l)[i]'(by simpa using hlt) = (m.map Sl.l)[i]'(by simpa using hlt2) := (by congr 1); simp at e3 h26; exact h26 e3)
    repeat ((fail_if_success refine stp ?_); with_reducible go_step)
    refine region_F ?_; refine pl ?_; refine listF_abs (fun s13 z' => ?_); have sl4 := gu 4 z'; clear z' sl0 sl1 sl5 sl26; refine listF_nil ?_
    repeat ((fail_if_success refine stp ?_); with_reducible go_step)
    refine ret_F _ (res_t Try.results37 ((getD_F (by decide)).trans sl4)) ?_; exact ⟨by rw [decide_eq_false Hne.out], HB.out.toBelow⟩
   ·skip
    have Hnx := hid (take_more (by simpa using hlt) (by simpa using hlt2) htk.out (by simpa using h26))
    repeat ((fail_if_success refine stp ?_); with_reducible go_step)
    refine region_F ?_
    iterate 3 refine pl ?_
    refine listF_abs (fun s14 z' => ?_); replace sl0 := gs 0 z' sl0; replace sl1 := gs 1 z' sl1; replace sl5 := gu 5 z'; clear z' sl26; refine listF_nil ?_
    repeat ((fail_if_success refine stp ?_); with_reducible go_step)
    refine ⟨_, _, rfl, ?_, i + 1, rfl, (by first | (with_reducible exact sl5) | (rw [sl5]; (with_reducible go_num); done) | (rw [sl5, IntWalk.i64_in] <;> first | ((with_reducible go_num); done) | omega) | (rw [sl5]; go_num; done) | (rw [sl5]; simp; done) | (rw [sl5]; simp; omega)), (sl0.trans hc0_0.out.symm), (sl1.trans hc0_1.out.symm), HL8.out, by omega, Hnx⟩
    omega
  ·skip
   have hge : ¬ i < l.length := by simpa using h14
   have Heq := hid (show l.map Sl.l = m.map Sl.l by have := htk.out; rwa [List.take_of_length_le (by simp; omega), List.take_of_length_le (by simp; rw [← Hlen.out]; omega)] at this)
   repeat ((fail_if_success refine stp ?_); with_reducible go_step)
   clear HL8; clear hc0_0 hc0_1; refine region_F ?_; refine pl ?_; refine listF_abs (fun s15 z' => ?_); have sl4 := gu 4 z'; clear z' sl0 sl1 sl5 sl14; refine listF_nil ?_
   repeat ((fail_if_success refine stp ?_); with_reducible go_step)
   refine ret_F _ (res_t Try.results37 ((getD_F (by decide)).trans sl4)) ?_; exact ⟨by rw [decide_eq_true Heq.out], HB.out.toBelow⟩

end Go.Proofs.Ytndcmmghgljinaa
