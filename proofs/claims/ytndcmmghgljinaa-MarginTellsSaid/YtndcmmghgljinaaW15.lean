/- Now, Fails. -/
import Derived.Test.YtndcmmghgljinaaW14
set_option linter.all false
namespace Go.Proofs.Ytndcmmghgljinaa
open Go.RowKit


theorem asked_zero {k : Kd} {cs : List MCk} {h : Int} (he : (asked k cs h).2 ≠ 0) : (asked k cs h).1 = Span.zero := by
  unfold asked at *
  split
  · rfl
  split
  · rfl
  split
  · rfl
  rename_i h1 h2 h3
  rw [if_neg h1, if_neg h2, if_neg h3] at he
  split at he
  · rfl
  · split
    · rfl
    split
    · rfl
    rename_i h4 h5
    rw [if_neg h4, if_neg h5] at he; exact absurd rfl he
theorem asked_in {k : Kd} {cs : List MCk} {h : Int} (he : (asked k cs h).2 = 0) : KOk k ∧ kdErr k = 0 ∧ spanOk (asked k cs h).1 ∧ (asked k cs h).1.lo ≤ (asked k cs h).1.hi ∧ 0 ≤ h ∧ h ≤ 100000 ∧ 0 ≤ (asked k cs h).1.lo ∧ 0 ≤ (asked k cs h).1.hi := by
  have ha := asked_ok he; have hK := kok_of ha.1; rw [asked_of ha]; obtain ⟨hE, _, hc, hv, h0, h1, hh⟩ := ha; have hn1 := hK.n1; have hn0 := hK.n0; have hw0 := hK.w0; have hw1 := hK.w1
  have hmul : ∀ x, 0 ≤ x → 0 ≤ x * k.wear.hi := fun x hx => Int.mul_nonneg hx (by omega)
  have hml : 0 ≤ h * k.wear.lo := Int.mul_nonneg h0 hw0
  have a1 : loC k cs h ≤ 1000000 := loC_le.2 ⟨by omega, by have := hmul h h0; omega, fun c hc' hp => by
    have hcb := chk_bd (hc c hc'); have hnb := needed_bd hK hcb.2; have hlh := (lastH_iff.1 hh).2 c hc'; have := hmul (h - c.hour) (by omega)
    omega⟩
  have a0 := loC_nn k cs h; have a2 : hiC k cs h ≤ k.new - h * k.wear.lo := (le_hiC.1 (Int.le_refl (hiC k cs h))).1
  refine ⟨hK, hE, ⟨⟨?_, ?_⟩, ?_, ?_⟩, ?_, h0, h1, ?_, ?_⟩ <;> simp only [closed]
  · omega
  · exact a1
  · omega
  · omega
  · -- the ends of the span
    have key : loC k cs h ≤ max 0 (hiC k cs h) := by
      by_cases hcs : cs = []
      · subst hcs
        have e1 : loC k [] h = max 0 (k.new - h * k.wear.hi) := rfl; have e2 : hiC k [] h = k.new - h * k.wear.lo := rfl; have : h * k.wear.lo ≤ h * k.wear.hi := Int.mul_le_mul_of_nonneg_left hw1 h0
        omega
      · obtain ⟨c, hc', hcl⟩ : ∃ c ∈ cs, c.hour = lastH cs := by
          clear hv hh a1 a0 a2
          have hne : ∀ l : List MCk, l ≠ [] → (∀ c ∈ l, 0 ≤ c.hour) → ∃ c ∈ l, c.hour = lastH l := by
            intro l
            induction l using snoc_ind with
            | h0 => intro h; exact absurd rfl h
            | hs l a ih =>
              intro _ hp; rw [lastH_snoc]
              by_cases hl : l = []
              · subst hl; refine ⟨a, by simp, ?_⟩; have := hp a (by simp); show a.hour = max (lastH []) a.hour; show a.hour = max 0 a.hour; omega
              · obtain ⟨c, hc, he⟩ := ih hl (fun c hc => hp c (by simp [hc]))
                by_cases hle : a.hour ≤ lastH l
                · exact ⟨c, by simp [hc], by omega⟩
                · exact ⟨a, by simp, by omega⟩
          exact hne cs hcs (fun c hc' => (chk_bd (hc c hc')).1.1)
        have h5 := (hv c hc').1; rw [hcl, upto_all (fun x hx => (lastH_iff.1 (Int.le_refl (lastH cs))).2 x hx)] at h5; have e := later_closed hK hh
        have e1 : (later k (closed k cs (lastH cs)) (h - lastH cs)).lo ≤ (later k (closed k cs (lastH cs)) (h - lastH cs)).hi := by
          unfold later closed
          simp only
          have : (h - lastH cs) * k.wear.lo ≤ (h - lastH cs) * k.wear.hi := Int.mul_le_mul_of_nonneg_left hw1 (by omega)
          omega
        rw [e] at e1; exact e1
    exact key
  · exact a0
  · omega
def failsRes (k : Kd) (cs : List MCk) (h : Int) : Fail × Int := if (asked k cs h).2 = 0 then (failsOf k (asked k cs h).1 h, 0) else (Fail.zero, (asked k cs h).2)
def LookOk (k : Kd) (a : Option Addr) (c : Nat) (cs : List MCk) (h : Int) (w : World) (e : Ending) (w' : World) : Prop :=
  ∃ V, e = .returned (.tuple #[.pointer (some ⟨V, 0, none⟩), .int .i64 0]) ∧ w.heap.size ≤ V ∧ Cells w' V (vC k a c (asked k cs h).1 h) ∧ Below w.heap.size w w'

theorem look_ok (k : Kd) (a : Option Addr) (c : Nat) (ac : Option Addr) (cc : Nat) (cs : List MCk) (h : Int) (w : World) (hN : -9223372036854775808 ≤ k.new ∧ k.new ≤ 9223372036854775807) (hsl : k.steps.length ≤ 9223372036854775807) (hR : RdSteps w a k.steps) (hRc : RdCks w ac cs) (hlc : cs.length ≤ 9223372036854775807) (ha : (asked k cs h).2 = 0) :
    Calls Try.prog 53 #[.agg #[.int .i64 k.new, .int .i64 k.wear.lo, .int .i64 k.wear.hi, .slice a k.steps.length c], .slice ac cs.length cc, .int .i64 h] w (LookOk k a c cs h w) :=
  (look_any k a c ac cc cs h w hN hsl hR hRc hlc).mono fun e w' hh => by
    rcases hh with ⟨V, _, h2, h3, h4, h5⟩ | ⟨h1, _⟩
    · exact ⟨V, h2, h3, h4, h5⟩
    · exact absurd ha h1

theorem look_bad (k : Kd) (a : Option Addr) (c : Nat) (ac : Option Addr) (cc : Nat) (cs : List MCk) (h : Int) (w : World) (hN : -9223372036854775808 ≤ k.new ∧ k.new ≤ 9223372036854775807) (hsl : k.steps.length ≤ 9223372036854775807) (hR : RdSteps w a k.steps) (hRc : RdCks w ac cs) (hlc : cs.length ≤ 9223372036854775807) (ha : (asked k cs h).2 ≠ 0) :
    Calls Try.prog 53 #[.agg #[.int .i64 k.new, .int .i64 k.wear.lo, .int .i64 k.wear.hi, .slice a k.steps.length c], .slice ac cs.length cc, .int .i64 h] w fun e w' => e = .returned (.tuple #[.pointer none, .int .i64 (asked k cs h).2]) ∧ Below w.heap.size w w' :=
  (look_any k a c ac cc cs h w hN hsl hR hRc hlc).mono fun e w' hh => by
    rcases hh with ⟨V, h1, _⟩ | ⟨_, h2, h3⟩
    · exact absurd h1 ha
    · exact ⟨h2, h3⟩

set_option maxRecDepth 100000 in
set_option maxHeartbeats 1000000 in
theorem qnow_any (k : Kd) (a : Option Addr) (c : Nat) (ac : Option Addr) (cc : Nat) (cs : List MCk) (h : Int) (w : World) (hN : -9223372036854775808 ≤ k.new ∧ k.new ≤ 9223372036854775807) (hsl : k.steps.length ≤ 9223372036854775807) (hR : RdSteps w a k.steps) (hRc : RdCks w ac cs) (hlc : cs.length ≤ 9223372036854775807) :
    Calls Try.prog 23 #[.agg #[.int .i64 k.new, .int .i64 k.wear.lo, .int .i64 k.wear.hi, .slice a k.steps.length c], .slice ac cs.length cc, .int .i64 h] w (fun e w' => e = .returned (.tuple #[.agg #[.int .i64 (asked k cs h).1.lo, .int .i64 (asked k cs h).1.hi], .int .i64 (asked k cs h).2]) ∧ Below w.heap.size w w') := by
 have HR := hid hR; have HN := hid hN; have HRc := hid hRc; clear hR hN hRc
 refine enter_F Try.func23 rfl Try.ntmps23 (by simp) ?_
 intro s0 hs; have sl0 : s0 0 = .agg #[.int .i64 k.new, .int .i64 k.wear.lo, .int .i64 k.wear.hi, .slice a k.steps.length c] := hs 0 (by simp); have sl1 : s0 1 = .slice ac cs.length cc := hs 1 (by simp); have sl2 : s0 2 = .int .i64 h := hs 2 (by simp); clear hs; have HB := hid (OldB.refl [] w)
 repeat ((fail_if_success refine stp ?_); with_reducible go_step)
 refine region_F ?_; refine pa (fun w1 B3 hB kb3' hb2 => ?_); have gb3 := HB.out.gB hB; have eb3 := eB hB; clear hB; replace HB := hid (HB.out.below hb2); clear hb2; have kb3 := kb3'; clear kb3'; have qb3 := kb3.1; refine pa (fun w3 B6 hB kb6' hb4 => ?_); have gb6 := HB.out.gB hB; have ob3_b6 := oB qb3 hB; have eb6 := eB hB; clear hB; clear qb3; replace kb3 := kb3.at hb4; replace HB := hid (HB.out.below hb4); clear hb4; have qb3 := kb3.1; have kb6 := kb6'; clear kb6'; have qb6 := kb6.1; refine pl ?_; refine listF_abs (fun s5 z' => ?_); replace sl1 := gs 1 z' sl1; replace sl2 := gs 2 z' sl2; have sl3 := gu 3 z'; have sl6 := gu 6 z'; clear z' sl0; refine listF_nil ?_
 repeat ((fail_if_success refine stp ?_); with_reducible go_step)
 refine region_F ?_; have cb3_0 := kb3.cell 0 rfl; have cb3_1 := kb3.cell 1 rfl; have cb3_2 := kb3.cell 2 rfl; have cb3_3 := kb3.cell 3 rfl
 iterate 3 refine pl ?_
 by_cases ha : (asked k cs h).2 = 0
 ·skip
  obtain ⟨hK, _, hsp, hlh, hh1, hh2, hlo0, hhi0⟩ := asked_in ha; have HK := hid hK; have Hsp := hid hsp; have Ha := hid ha; clear ha hK hsp; refine listF_step rfl (fun K' hK => ?_); unfold opF; go_simp; refine (look_ok k a c ac cc cs h _ HN.out hsl (Rd.oldB HR.out HB.out (by simp)) (Rd.oldB HRc.out HB.out (by simp)) hlc Ha.out).mono ?_; rintro e w6 ⟨V, rfl, gV', hV', hb7⟩
  have gV : w.heap.size ≤ V := by have := HB.out.size; omega
  have ob3_V : B3 < V := by have := gV'; omega
  have ob6_V : B6 < V := by have := gV'; omega
  refine ⟨_, rfl, hK _ _ ?_⟩; clear hK K'; clear cb3_0 cb3_1 cb3_2 cb3_3; clear qb3 qb6; replace kb3 := kb3.at hb7; replace kb6 := kb6.at hb7; replace HB := hid (HB.out.below hb7); clear hb7; have qb3 := kb3.1; have qb6 := kb6.1; have kV := hV'; clear hV'; have qV := kV.1
  iterate 5 refine pl ?_
  refine listF_abs (fun s8 z' => ?_); replace sl6 := gs 6 z' sl6; have sl8 := gu 8 z'; have sl9 := gu 9 z'; clear z' sl1 sl2 sl3; refine listF_nil ?_
  repeat ((fail_if_success refine stp ?_); with_reducible go_step)
  refine region_F ?_; refine pl ?_; refine pl ?_; refine listF_abs (fun s9 z' => ?_); replace sl6 := gs 6 z' sl6; replace sl8 := gs 8 z' sl8; replace sl9 := gs 9 z' sl9; have sl18 := gu 18 z'; clear z'; refine listF_nil ?_
  repeat ((fail_if_success refine stp ?_); with_reducible go_step)
  refine cond_f ?_
  repeat ((fail_if_success refine stp ?_); with_reducible go_step)
  refine region_F ?_
  iterate 3 refine pl ?_
  have cV_0 := kV.cell 0 rfl; have cV_1 := kV.cell 1 rfl; have cV_2 := kV.cell 2 rfl; have cV_3 := kV.cell 3 rfl; have cV_4 := kV.cell 4 rfl; have cV_5 := kV.cell 5 rfl; have cV_6 := kV.cell 6 rfl; refine pl ?_; have cb6_0 := kb6.cell 0 rfl; have cb6_1 := kb6.cell 1 rfl; have zb6 := kb6.2.2; refine pl ?_; refine listF_absw (fun w10 hw' => ?_); have kb6' := cells_of hw' (Cells.set (i := 1) (Cells.set (i := 0) (kb6)))
  (try simp only [vC, List.set_cons_zero, List.set_cons_succ] at kb6')
  have hb11 : OldB [B6] w6 w10 := oldset hw'; clear hw'; clear cV_0 cV_1 cV_2 cV_3 cV_4 cV_5 cV_6 cb6_0 cb6_1 zb6; clear qb3 qb6 qV; replace kb6 := kb6'; replace kb3 := kb3.oldB hb11 (by first | (simp; done) | (simp; omega)); replace kV := kV.oldB hb11 (by first | (simp; done) | (simp; omega)); replace HB := hid (HB.out.more hb11 (by simp; try omega)); clear hb11; have qb3 := kb3.1; have qb6 := kb6.1; have qV := kV.1; clear kb6'; refine pl ?_; refine listF_abs (fun s12 z' => ?_); replace sl6 := gs 6 z' sl6; have sl7 := gu 7 z'; clear z' sl8 sl9 sl18; refine listF_nil ?_
  repeat ((fail_if_success refine stp ?_); with_reducible go_step)
  have cb6_0 := kb6.cell 0 rfl; have cb6_1 := kb6.cell 1 rfl; refine ret_F _ (res_ct Try.results23 ((getD_F (by decide)).trans sl6) (load_t23 cb6_0 cb6_1) ((getD_F (by decide)).trans sl7)) ?_; exact ⟨by rw [Ha.out], HB.out.toBelow⟩
 ·skip
  have Ha := hid ha
  have ha1 : ((asked k cs h).2 != 0) = true := by simpa using ha
  have Hz := hid (asked_zero ha); clear ha; refine listF_step rfl (fun K' hK => ?_); unfold opF; go_simp; refine (look_bad k a c ac cc cs h _ HN.out hsl (Rd.oldB HR.out HB.out (by simp)) (Rd.oldB HRc.out HB.out (by simp)) hlc Ha.out).mono ?_; rintro e w13 ⟨rfl, hb14⟩; refine ⟨_, rfl, hK _ _ ?_⟩; clear hK K'; clear cb3_0 cb3_1 cb3_2 cb3_3; clear qb3 qb6; replace kb3 := kb3.at hb14; replace kb6 := kb6.at hb14; replace HB := hid (HB.out.below hb14); clear hb14; have qb3 := kb3.1; have qb6 := kb6.1
  iterate 5 refine pl ?_
  refine listF_abs (fun s15 z' => ?_); replace sl6 := gs 6 z' sl6; have sl8 := gu 8 z'; have sl9 := gu 9 z'; clear z' sl1 sl2 sl3; refine listF_nil ?_
  repeat ((fail_if_success refine stp ?_); with_reducible go_step)
  refine region_F ?_; refine pl ?_; refine pl ?_; refine listF_abs (fun s16 z' => ?_); replace sl6 := gs 6 z' sl6; replace sl8 := gs 8 z' sl8; replace sl9 := gs 9 z' sl9; have sl18 := gu 18 z'; clear z'; refine listF_nil ?_
  repeat ((fail_if_success refine stp ?_); with_reducible go_step)
  refine cond_t ?_
  repeat ((fail_if_success refine stp ?_); with_reducible go_step)
  refine region_F ?_; refine pl ?_; refine pl ?_; have cb6_0 := kb6.cell 0 rfl; have cb6_1 := kb6.cell 1 rfl; have zb6 := kb6.2.2; refine pl ?_; refine listF_absw (fun w17 hw' => ?_); have kb6' := cells_of hw' (Cells.set (i := 1) (Cells.set (i := 0) (kb6)))
  (try simp only [vC, List.set_cons_zero, List.set_cons_succ] at kb6')
  have hb18 : OldB [B6] w13 w17 := oldset hw'; clear hw'; clear cb6_0 cb6_1 zb6; clear qb3 qb6; replace kb6 := kb6'; replace kb3 := kb3.oldB hb18 (by first | (simp; done) | (simp; omega)); replace HB := hid (HB.out.more hb18 (by simp; try omega)); clear hb18; have qb3 := kb3.1; have qb6 := kb6.1; clear kb6'; refine pl ?_; refine listF_abs (fun s19 z' => ?_); replace sl6 := gs 6 z' sl6; have sl7 := gu 7 z'; clear z' sl8 sl9 sl18; refine listF_nil ?_
  repeat ((fail_if_success refine stp ?_); with_reducible go_step)
  have cb6_0 := kb6.cell 0 rfl; have cb6_1 := kb6.cell 1 rfl; refine ret_F _ (res_ct Try.results23 ((getD_F (by decide)).trans sl6) (load_t23 cb6_0 cb6_1) ((getD_F (by decide)).trans sl7)) ?_; exact ⟨by rw [Hz.out]; rfl, HB.out.toBelow⟩

set_option maxRecDepth 100000 in
set_option maxHeartbeats 1000000 in
theorem qfails_any (k : Kd) (a : Option Addr) (c : Nat) (ac : Option Addr) (cc : Nat) (cs : List MCk) (h : Int) (w : World) (hN : -9223372036854775808 ≤ k.new ∧ k.new ≤ 9223372036854775807) (hsl : k.steps.length ≤ 9223372036854775807) (hR : RdSteps w a k.steps) (hRc : RdCks w ac cs) (hlc : cs.length ≤ 9223372036854775807) :
    Calls Try.prog 25 #[.agg #[.int .i64 k.new, .int .i64 k.wear.lo, .int .i64 k.wear.hi, .slice a k.steps.length c], .slice ac cs.length cc, .int .i64 h] w (fun e w' => e = .returned (.tuple #[.agg #[.int .i64 (failsRes k cs h).1.earliest, .int .i64 (failsRes k cs h).1.latest], .int .i64 (failsRes k cs h).2]) ∧ Below w.heap.size w w') := by
 have HR := hid hR; have HN := hid hN; have HRc := hid hRc; clear hR hN hRc
 refine enter_F Try.func25 rfl Try.ntmps25 (by simp) ?_
 intro s0 hs; have sl0 : s0 0 = .agg #[.int .i64 k.new, .int .i64 k.wear.lo, .int .i64 k.wear.hi, .slice a k.steps.length c] := hs 0 (by simp); have sl1 : s0 1 = .slice ac cs.length cc := hs 1 (by simp); have sl2 : s0 2 = .int .i64 h := hs 2 (by simp); clear hs; have HB := hid (OldB.refl [] w)
 repeat ((fail_if_success refine stp ?_); with_reducible go_step)
 refine region_F ?_; refine pa (fun w1 B3 hB kb3' hb2 => ?_); have gb3 := HB.out.gB hB; have eb3 := eB hB; clear hB; replace HB := hid (HB.out.below hb2); clear hb2; have kb3 := kb3'; clear kb3'; have qb3 := kb3.1; refine pa (fun w3 B6 hB kb6' hb4 => ?_); have gb6 := HB.out.gB hB; have ob3_b6 := oB qb3 hB; have eb6 := eB hB; clear hB; clear qb3; replace kb3 := kb3.at hb4; replace HB := hid (HB.out.below hb4); clear hb4; have qb3 := kb3.1; have kb6 := kb6'; clear kb6'; have qb6 := kb6.1; refine pl ?_; refine listF_abs (fun s5 z' => ?_); replace sl1 := gs 1 z' sl1; replace sl2 := gs 2 z' sl2; have sl3 := gu 3 z'; have sl6 := gu 6 z'; clear z' sl0; refine listF_nil ?_
 repeat ((fail_if_success refine stp ?_); with_reducible go_step)
 refine region_F ?_; have cb3_0 := kb3.cell 0 rfl; have cb3_1 := kb3.cell 1 rfl; have cb3_2 := kb3.cell 2 rfl; have cb3_3 := kb3.cell 3 rfl
 iterate 3 refine pl ?_
 by_cases ha : (asked k cs h).2 = 0
 ·skip
  obtain ⟨hK, _, hsp, hlh, hh1, hh2, hlo0, hhi0⟩ := asked_in ha; have HK := hid hK; have Hsp := hid hsp; have Ha := hid ha; clear ha hK hsp; refine listF_step rfl (fun K' hK => ?_); unfold opF; go_simp; refine (look_ok k a c ac cc cs h _ HN.out hsl (Rd.oldB HR.out HB.out (by simp)) (Rd.oldB HRc.out HB.out (by simp)) hlc Ha.out).mono ?_; rintro e w6 ⟨V, rfl, gV', hV', hb7⟩
  have gV : w.heap.size ≤ V := by have := HB.out.size; omega
  have ob3_V : B3 < V := by have := gV'; omega
  have ob6_V : B6 < V := by have := gV'; omega
  refine ⟨_, rfl, hK _ _ ?_⟩; clear hK K'; clear cb3_0 cb3_1 cb3_2 cb3_3; clear qb3 qb6; replace kb3 := kb3.at hb7; replace kb6 := kb6.at hb7; replace HB := hid (HB.out.below hb7); clear hb7; have qb3 := kb3.1; have qb6 := kb6.1; have kV := hV'; clear hV'; have qV := kV.1
  iterate 5 refine pl ?_
  refine listF_abs (fun s8 z' => ?_); replace sl6 := gs 6 z' sl6; have sl8 := gu 8 z'; have sl9 := gu 9 z'; clear z' sl1 sl2 sl3; refine listF_nil ?_
  repeat ((fail_if_success refine stp ?_); with_reducible go_step)
  refine region_F ?_; refine pl ?_; refine pl ?_; refine listF_abs (fun s9 z' => ?_); replace sl6 := gs 6 z' sl6; replace sl8 := gs 8 z' sl8; replace sl9 := gs 9 z' sl9; have sl18 := gu 18 z'; clear z'; refine listF_nil ?_
  repeat ((fail_if_success refine stp ?_); with_reducible go_step)
  refine cond_f ?_
  repeat ((fail_if_success refine stp ?_); with_reducible go_step)
  refine region_F ?_; refine pl ?_; refine listF_step rfl (fun K' hK => ?_); unfold opF; go_simp; refine (fails_any V k a c _ h _ kV (Rd.oldB HR.out HB.out (by simp)) HK.out Hsp.out.in ⟨hh1, hh2⟩).mono ?_; rintro e w10 ⟨rfl, hb11⟩; refine ⟨_, rfl, hK _ _ ?_⟩; clear hK K'; clear qb3 qb6 qV; replace kb3 := kb3.at hb11; replace kb6 := kb6.at hb11; replace kV := kV.at hb11; replace HB := hid (HB.out.below hb11); clear hb11; have qb3 := kb3.1; have qb6 := kb6.1; have qV := kV.1; have cb6_0 := kb6.cell 0 rfl; have cb6_1 := kb6.cell 1 rfl; have zb6 := kb6.2.2; refine pl ?_; refine listF_absw (fun w12 hw' => ?_); have kb6' := cells_of hw' (Cells.set (i := 1) (Cells.set (i := 0) (kb6)))
  (try simp only [vC, List.set_cons_zero, List.set_cons_succ] at kb6')
  have hb13 : OldB [B6] w10 w12 := oldset hw'; clear hw'; clear cb6_0 cb6_1 zb6; clear qb3 qb6 qV; replace kb6 := kb6'; replace kb3 := kb3.oldB hb13 (by first | (simp; done) | (simp; omega)); replace kV := kV.oldB hb13 (by first | (simp; done) | (simp; omega)); replace HB := hid (HB.out.more hb13 (by simp; try omega)); clear hb13; have qb3 := kb3.1; have qb6 := kb6.1; have qV := kV.1; clear kb6'; refine pl ?_; refine listF_abs (fun s14 z' => ?_); replace sl6 := gs 6 z' sl6; have sl7 := gu 7 z'; clear z' sl8 sl9 sl18; refine listF_nil ?_
  repeat ((fail_if_success refine stp ?_); with_reducible go_step)
  have cb6_0 := kb6.cell 0 rfl; have cb6_1 := kb6.cell 1 rfl; refine ret_F _ (res_ct Try.results25 ((getD_F (by decide)).trans sl6) (load_t37 cb6_0 cb6_1) ((getD_F (by decide)).trans sl7)) ?_; exact ⟨by unfold failsRes; rw [if_pos Ha.out]; rfl, HB.out.toBelow⟩
 ·skip
  have Ha := hid ha
  have ha1 : ((asked k cs h).2 != 0) = true := by simpa using ha
  have Hz := hid (asked_zero ha); clear ha; refine listF_step rfl (fun K' hK => ?_); unfold opF; go_simp; refine (look_bad k a c ac cc cs h _ HN.out hsl (Rd.oldB HR.out HB.out (by simp)) (Rd.oldB HRc.out HB.out (by simp)) hlc Ha.out).mono ?_; rintro e w15 ⟨rfl, hb16⟩; refine ⟨_, rfl, hK _ _ ?_⟩; clear hK K'; clear cb3_0 cb3_1 cb3_2 cb3_3; clear qb3 qb6; replace kb3 := kb3.at hb16; replace kb6 := kb6.at hb16; replace HB := hid (HB.out.below hb16); clear hb16; have qb3 := kb3.1; have qb6 := kb6.1
  iterate 5 refine pl ?_
  refine listF_abs (fun s17 z' => ?_); replace sl6 := gs 6 z' sl6; have sl8 := gu 8 z'; have sl9 := gu 9 z'; clear z' sl1 sl2 sl3; refine listF_nil ?_
  repeat ((fail_if_success refine stp ?_); with_reducible go_step)
  refine region_F ?_; refine pl ?_; refine pl ?_; refine listF_abs (fun s18 z' => ?_); replace sl6 := gs 6 z' sl6; replace sl8 := gs 8 z' sl8; replace sl9 := gs 9 z' sl9; have sl18 := gu 18 z'; clear z'; refine listF_nil ?_
  repeat ((fail_if_success refine stp ?_); with_reducible go_step)
  refine cond_t ?_
  repeat ((fail_if_success refine stp ?_); with_reducible go_step)
  refine region_F ?_; refine pl ?_; refine pl ?_; have cb6_0 := kb6.cell 0 rfl; have cb6_1 := kb6.cell 1 rfl; have zb6 := kb6.2.2; refine pl ?_; refine listF_absw (fun w19 hw' => ?_); have kb6' := cells_of hw' (Cells.set (i := 1) (Cells.set (i := 0) (kb6)))
  (try simp only [vC, List.set_cons_zero, List.set_cons_succ] at kb6')
  have hb20 : OldB [B6] w15 w19 := oldset hw'; clear hw'; clear cb6_0 cb6_1 zb6; clear qb3 qb6; replace kb6 := kb6'; replace kb3 := kb3.oldB hb20 (by first | (simp; done) | (simp; omega)); replace HB := hid (HB.out.more hb20 (by simp; try omega)); clear hb20; have qb3 := kb3.1; have qb6 := kb6.1; clear kb6'; refine pl ?_; refine listF_abs (fun s21 z' => ?_); replace sl6 := gs 6 z' sl6; have sl7 := gu 7 z'; clear z' sl8 sl9 sl18; refine listF_nil ?_
  repeat ((fail_if_success refine stp ?_); with_reducible go_step)
  have cb6_0 := kb6.cell 0 rfl; have cb6_1 := kb6.cell 1 rfl; refine ret_F _ (res_ct Try.results25 ((getD_F (by decide)).trans sl6) (load_t37 cb6_0 cb6_1) ((getD_F (by decide)).trans sl7)) ?_; exact ⟨by unfold failsRes; rw [if_neg Ha.out]; rfl, HB.out.toBelow⟩


theorem needed_at {k : Kd} (hK : KOk k) {i : Nat} (hi : i < k.steps.length) : voltOk k k.steps[i].volt = true ∧ needed k k.steps[i].volt = k.steps[i].need := by
  have hmono : ∀ d j, (hd : j + d < k.steps.length) → 0 < d → k.steps[j + d].volt < (k.steps[j]'(by omega)).volt := by
    intro d
    induction d with
    | zero => intro j _ h; omega
    | succ d ih =>
      intro j hd _; have h1 := (hK.dn (j + d) hd).1
      by_cases h0 : d = 0
      · subst h0; exact h1
      · have h2 := ih j (by omega) (by omega)
        have e : k.steps[j + (d + 1)] = k.steps[j + d + 1]'(by omega) := by congr 1
        rw [e]; omega
  constructor
  · unfold voltOk
    rw [getD_get (show k.steps.length - 1 < k.steps.length by omega), inb_iff]; refine ⟨?_, (hK.st i hi).1.2⟩
    by_cases h0 : i = k.steps.length - 1
    · have e : k.steps[k.steps.length - 1]'(by omega) = k.steps[i] := by congr 1; omega
      rw [e]; exact Int.le_refl _
    · have := hmono (k.steps.length - 1 - i) i (by omega) (by omega)
      have e : k.steps[i + (k.steps.length - 1 - i)]'(by omega) = k.steps[k.steps.length - 1]'(by omega) := by congr 1; omega
      rw [e] at this; omega
  · unfold needed
    have : (k.steps.find? fun x => decide (x.volt ≤ k.steps[i].volt)) = some k.steps[i] := by
      rw [List.find?_eq_some_iff_getElem]; refine ⟨by simp, i, hi, rfl, fun j hj => ?_⟩; have := hmono (i - j) j (by omega) (by omega)
      have e : k.steps[j + (i - j)]'(by omega) = k.steps[i] := by congr 1; omega
      rw [e] at this
      simp; omega
    rw [this]; rfl
def lifeSpan (k : Kd) (i : Nat) : Span := ⟨(k.steps.getD i Stp.zero).need, if i + 1 < k.steps.length then min k.new ((k.steps.getD (i + 1) Stp.zero).need - 1) else k.new⟩
def lifeRes (k : Kd) (n : Int) : Fail × Int :=
  if kdErr k ≠ 0 then (Fail.zero, kdErr k) else if inb n 0 ((k.steps.length : Int) - 1) = false then (Fail.zero, 4)
  else if (lifeSpan k n.toNat).hi < (lifeSpan k n.toNat).lo then (Fail.zero, 9) else (failsOf k (lifeSpan k n.toNat) 0, 0)
theorem life_in {k : Kd} (hK : KOk k) {i : Nat} (hi : i < k.steps.length) : spanIn (lifeSpan k i) := by
  have h1 := (hK.st i hi).2; have hn0 := hK.n0; have hn1 := hK.n1; unfold lifeSpan spanIn; rw [getD_get hi]
  simp only
  split
  · rename_i h
    rw [getD_get h]; have h2 := (hK.st (i + 1) h).2
    omega
  · omega

end Go.Proofs.Ytndcmmghgljinaa
