/- MarginMeasured. -/
import Derived.Test.YtndcmmghgljinaaW43
import Derived.Test.YtndcmmghgljinaaW44
import Derived.Test.YtndcmmghgljinaaW5
import Derived.Test.YtndcmmghgljinaaR5
set_option linter.all false
namespace Go.Proofs.Ytndcmmghgljinaa
open Go.RowKit


theorem life_ok {k : Kd} {n : Int} (he : (lifeRes k n).2 = 0) : kdErr k = 0 ∧ ∃ i : Nat, n = i ∧ i < k.steps.length ∧ (lifeSpan k i).lo ≤ (lifeSpan k i).hi ∧ (lifeRes k n).1 = failsOf k (lifeSpan k i) 0 := by
  unfold lifeRes at he ⊢
  by_cases h1 : kdErr k ≠ 0
  · rw [if_pos h1] at he; exact absurd he h1
  rw [if_neg h1] at he ⊢
  by_cases h2 : inb n 0 ((k.steps.length : Int) - 1) = false
  · rw [if_pos h2] at he; cases he
  rw [if_neg h2] at he ⊢; have h2' := (inb_iff _ _ _).1 (by simpa using h2)
  by_cases h3 : (lifeSpan k n.toNat).hi < (lifeSpan k n.toNat).lo
  · rw [if_pos h3] at he; cases he
  rw [if_neg h3]; refine ⟨by simpa using h1, n.toNat, by omega, by omega, by omega, rfl⟩
theorem life_no {k : Kd} {n : Int} (he : ¬ (lifeRes k n).2 = 0) : (lifeRes k n).1 = Fail.zero := by
  unfold lifeRes at he ⊢
  split
  · rfl
  · split
    · rfl
    · split
      · rfl
      · rename_i h1 h2 h3
        rw [if_neg h1, if_neg h2, if_neg h3] at he; exact absurd rfl he
/-- the strength after the check that passed -/
def bigB (k : Kd) (i : Nat) (s : Int) : Bool := decide (k.new < s) || (decide (i + 1 < k.steps.length) && decide ((k.steps.getD (i + 1) Stp.zero).need ≤ s))
theorem life_start {k : Kd} {i : Nat} (hi : i < k.steps.length) (hlo : (lifeSpan k i).lo ≤ (lifeSpan k i).hi) {x : Int} (hx : 0 ≤ x) :
    ((lifeSpan k i).lo ≤ k.steps[i].need ∧ k.steps[i].need ≤ (lifeSpan k i).hi) ∧
    (bigB k i (k.steps[i].need + x) = false → (lifeSpan k i).lo ≤ k.steps[i].need + x ∧ k.steps[i].need + x ≤ (lifeSpan k i).hi) := by
  have e1 : (lifeSpan k i).lo = k.steps[i].need := by unfold lifeSpan; rw [getD_get hi]
  rw [e1] at hlo ⊢; refine ⟨⟨Int.le_refl _, hlo⟩, fun h => ⟨by omega, ?_⟩⟩; unfold bigB at h
  simp only [Bool.or_eq_false_iff, Bool.and_eq_false_iff, decide_eq_false_iff_not] at h
  unfold lifeSpan
  simp only
  split <;> omega
theorem life_bd {k : Kd} (hK : KOk k) {i : Nat} (hi : i < k.steps.length) {s0 : Int} (h : (lifeSpan k i).lo ≤ s0 ∧ s0 ≤ (lifeSpan k i).hi) : 0 ≤ s0 ∧ s0 ≤ 1000000 := by
  have e1 : (lifeSpan k i).lo = k.steps[i].need := by unfold lifeSpan; rw [getD_get hi]
  have e2 : (lifeSpan k i).hi ≤ k.new := by unfold lifeSpan; simp only; split <;> omega
  have := (hK.st i hi).2.1; have := hK.n1
  omega

set_option maxRecDepth 100000 in
set_option maxHeartbeats 16000000 in
theorem measured_walk (k : Kd) (a : Option Addr) (c : Nat) (n : Int) (lh : List Int) (ah : Option Addr) (ch : Nat) (lv : List Int) (av : Option Addr) (cv : Nat) (x : Int) (lw : List Int) (aw : Option Addr) (cw : Nat) (w : World) (hK0 : KdIn w k a) (hx : 0 ≤ x ∧ x ≤ 65535) (hRw : RdU w aw lw) (hlw : lw.length ≤ 9223372036854775807) (hU : U16 lw) :
    Calls Try.prog 11 #[.agg #[.int .i64 k.new, .int .i64 k.wear.lo, .int .i64 k.wear.hi, .slice a k.steps.length c], .int .i64 n, .agg #[.slice ah lh.length ch, .slice av lv.length cv, .int .u16 x, .slice aw lw.length cw]] w (fun e w' => e = .returned (.bool true) ∧ Below w.heap.size w w') := by
 have HR := hid hK0.2.2; have hN := hK0.1; have hsl := hK0.2.1; clear hK0; have HRw := hid hRw; have HU := hid hU; clear hRw hU; have y0 := u16_wrap hx
 refine enter_F Try.func11 rfl Try.ntmps11 (by simp) ?_
 intro s0 hs; have sl0 : s0 0 = .agg #[.int .i64 k.new, .int .i64 k.wear.lo, .int .i64 k.wear.hi, .slice a k.steps.length c] := hs 0 (by simp); have sl1 : s0 1 = .int .i64 n := hs 1 (by simp); have sl2 : s0 2 = .agg #[.slice ah lh.length ch, .slice av lv.length cv, .int .u16 x, .slice aw lw.length cw] := hs 2 (by simp); clear hs; have HB := hid (OldB.refl [] w)
 repeat ((fail_if_success refine stp ?_); with_reducible go_step)
 refine region_F ?_; refine pa (fun w1 B3 hB kb3' hb2 => ?_); have gb3 := HB.out.gB hB; have eb3 := eB hB; clear hB; replace HB := hid (HB.out.below hb2); clear hb2; have kb3 := kb3'; clear kb3'; have qb3 := kb3.1; refine pa (fun w3 B5 hB kb5' hb4 => ?_); have gb5 := HB.out.gB hB; have ob3_b5 := oB qb3 hB; have eb5 := eB hB; clear hB; clear qb3; replace kb3 := kb3.at hb4; replace HB := hid (HB.out.below hb4); clear hb4; have qb3 := kb3.1; have kb5 := kb5'; clear kb5'; have qb5 := kb5.1; refine pl ?_; refine listF_abs (fun s5 z' => ?_); replace sl1 := gs 1 z' sl1; have sl3 := gu 3 z'; have sl5 := gu 5 z'; clear z' sl0 sl2; refine listF_nil ?_
 repeat ((fail_if_success refine stp ?_); with_reducible go_step)
 refine region_F ?_; have cb3_0 := kb3.cell 0 rfl; have cb3_1 := kb3.cell 1 rfl; have cb3_2 := kb3.cell 2 rfl; have cb3_3 := kb3.cell 3 rfl; refine pl ?_; refine pl ?_; refine listF_step rfl (fun K' hK => ?_); unfold opF; go_simp; refine (qlife_any k a c n _ hN hsl (Rd.oldB HR.out HB.out (by simp))).mono ?_; rintro e w6 ⟨rfl, hb7⟩; obtain ⟨r, hr⟩ : ∃ r, lifeRes k n = r := ⟨_, rfl⟩; rw [hr]; have Hr := hid hr; clear hr; refine ⟨_, rfl, hK _ _ ?_⟩; clear hK K'; clear cb3_0 cb3_1 cb3_2 cb3_3; clear qb3 qb5; replace kb3 := kb3.at hb7; replace kb5 := kb5.at hb7; replace HB := hid (HB.out.below hb7); clear hb7; have qb3 := kb3.1; have qb5 := kb5.1
 iterate 3 refine pl ?_
 refine pa (fun w8 B7 hB kb7' hb9 => ?_); have gb7 := HB.out.gB hB; have ob3_b7 := oB qb3 hB; have ob5_b7 := oB qb5 hB; have eb7 := eB hB; clear hB; clear qb3 qb5; replace kb3 := kb3.at hb9; replace kb5 := kb5.at hb9; replace HB := hid (HB.out.below hb9); clear hb9; have qb3 := kb3.1; have qb5 := kb5.1; have kb7 := kb7'; clear kb7'; have qb7 := kb7.1; have cb7_0 := kb7.cell 0 rfl; have cb7_1 := kb7.cell 1 rfl; have zb7 := kb7.2.2; refine pl ?_; refine listF_absw (fun w10 hw' => ?_); have kb7' := cells_of hw' (Cells.set (i := 1) (Cells.set (i := 0) (kb7)))
 (try simp only [vC, List.set_cons_zero, List.set_cons_succ] at kb7')
 have hb11 : OldB [B7] w8 w10 := oldset hw'; clear hw'; clear cb7_0 cb7_1 zb7; clear qb3 qb5 qb7; replace kb7 := kb7'; replace kb3 := kb3.oldB hb11 (by first | (simp; done) | (simp; omega)); replace kb5 := kb5.oldB hb11 (by first | (simp; done) | (simp; omega)); replace HB := hid (HB.out.more hb11 (by simp; try omega)); clear hb11; have qb3 := kb3.1; have qb5 := kb5.1; have qb7 := kb7.1; clear kb7'; refine pl ?_; refine listF_abs (fun s12 z' => ?_); replace sl1 := gs 1 z' sl1; replace sl3 := gs 3 z' sl3; replace sl5 := gs 5 z' sl5; have sl7 := gu 7 z'; have sl8 := gu 8 z'; clear z'; refine listF_nil ?_
 repeat ((fail_if_success refine stp ?_); with_reducible go_step)
 refine region_F ?_; refine pl ?_; refine pl ?_; refine listF_abs (fun s13 z' => ?_); replace sl1 := gs 1 z' sl1; replace sl3 := gs 3 z' sl3; replace sl5 := gs 5 z' sl5; replace sl7 := gs 7 z' sl7; have sl18 := gu 18 z'; clear z' sl8; refine listF_nil ?_
 repeat ((fail_if_success refine stp ?_); with_reducible go_step)
 refine cond_E sl18 (by decide) ?_ ?_ <;> (clear sl18; intro h18 sl18)
 ·skip
  have he : ¬ r.2 = 0 := by simpa using h18
  have hz : r.1 = Fail.zero := by rw [← Hr.out] at he ⊢; exact life_no he
  have hz0 : r.1.earliest = 0 := by rw [hz]; rfl
  have hz1 : r.1.latest = 0 := by rw [hz]; rfl
  have Hz := hid hz; clear hz
  repeat ((fail_if_success refine stp ?_); with_reducible go_step)
  refine region_F ?_; have cb7_0 := kb7.cell 0 rfl; have cb7_1 := kb7.cell 1 rfl
  iterate 4 refine pl ?_
  refine listF_yes rfl rfl (by decide) ?_ (fun K' hK => ?_); (focus (go_simp; done)); unfold opF; go_simp; refine (awake_any _).mono ?_; rintro e w14 ⟨rfl, hb15⟩; refine ⟨_, rfl, hK _ _ ?_⟩; clear hK K'; clear cb7_0 cb7_1; clear qb3 qb5 qb7; replace kb3 := kb3.at hb15; replace kb5 := kb5.at hb15; replace kb7 := kb7.at hb15; replace HB := hid (HB.out.below hb15); clear hb15; have qb3 := kb3.1; have qb5 := kb5.1; have qb7 := kb7.1; refine pl ?_; refine pl ?_; refine listF_abs (fun s16 z' => ?_); have sl6 := gu 6 z'; clear z' sl1 sl3 sl5 sl7 sl18; refine listF_nil ?_
  repeat ((fail_if_success refine stp ?_); with_reducible go_step)
  refine ret_F _ (res_t Try.results11 ((getD_F (by decide)).trans sl6)) ?_; exact ⟨rfl, HB.out.toBelow⟩
 ·skip
  have he : r.2 = 0 := by simpa using h18
  obtain ⟨hE, i, hni, hi, hlo, hf⟩ := life_ok (k := k) (n := n) (by rw [Hr.out]; exact he); rw [Hr.out] at hf; subst hni; have HK := hid (kok_of hE); obtain ⟨f, hfe⟩ : ∃ f, r.1 = f := ⟨_, rfl⟩; rw [hfe] at hf; have Hf := hid hf; clear hf; rw [hfe] at kb7; have Hfe := hid hfe; clear hfe
  have hi' : (i : Int) < k.steps.length := by omega
  have hi2 : ¬ (i : Int) < 0 := by omega
  have hi3 : ¬ (k.steps.length : Int) ≤ i := by omega
  have Hlo := hid hlo; clear hlo; obtain ⟨b, off, rfl, -, -, -⟩ := RdSteps.ne (Rd.oldB HR.out HB.out (by simp)) hi; have Hst := hid (life_start hi Hlo.out hx.1); have hnb := (HK.out.st i hi).2; have y1 : IntKind.i64.wrap (k.steps[i].need + x) = k.steps[i].need + x := IntWalk.i64_in _ (by omega); have hn1 := HK.out.n1
  repeat ((fail_if_success refine stp ?_); with_reducible go_step)
  refine region_F ?_; have cb3_0 := kb3.cell 0 rfl; have cb3_1 := kb3.cell 1 rfl; have cb3_2 := kb3.cell 2 rfl; have cb3_3 := kb3.cell 3 rfl; refine pl ?_; refine listF_step rfl (fun K' hK => ?_); unfold opF; go_simp; refine (rcheck_any k (some ⟨b, off, none⟩) c _ hsl (Rd.oldB HR.out HB.out (by simp))).mono ?_; rintro e w17 ⟨rfl, hb18⟩; rw [hE]; refine ⟨_, rfl, hK _ _ ?_⟩; clear hK K'; clear cb3_0 cb3_1 cb3_2 cb3_3; clear qb3 qb5 qb7; replace kb3 := kb3.at hb18; replace kb5 := kb5.at hb18; replace kb7 := kb7.at hb18; replace HB := hid (HB.out.below hb18); clear hb18; have qb3 := kb3.1; have qb5 := kb5.1; have qb7 := kb7.1; refine pl ?_; refine pl ?_; refine py ?_; refine py ?_; refine pl ?_; refine pl ?_; refine py ?_; refine py ?_; have cb3_0 := kb3.cell 0 rfl; have cb3_1 := kb3.cell 1 rfl; have cb3_2 := kb3.cell 2 rfl; have cb3_3 := kb3.cell 3 rfl
  iterate 3 refine py ?_
  refine pl ?_; refine listF_abs (fun s19 z' => ?_); replace sl1 := gs 1 z' sl1; replace sl3 := gs 3 z' sl3; replace sl5 := gs 5 z' sl5; replace sl7 := gs 7 z' sl7; have sl38 := gu 38 z'; clear z' sl18; refine listF_nil ?_
  repeat ((fail_if_success refine stp ?_); with_reducible go_step)
  refine cond_f ?_
  repeat ((fail_if_success refine stp ?_); with_reducible go_step)
  obtain ⟨hbs, c0, c1⟩ := RdSteps.get0 (Rd.oldB HR.out HB.out (by simp)) hi; have cb5_0 := kb5.cell 0 rfl; have cb5_1 := kb5.cell 1 rfl; have cb5_2 := kb5.cell 2 rfl; have cb5_3 := kb5.cell 3 rfl; have cb7_0 := kb7.cell 0 rfl; have cb7_1 := kb7.cell 1 rfl; refine regionR_F [] [] [] [.q [], .q [], .q [], .q [], .q [], .q [], .q [], .q [], .q []] [?v19_0, ?v19_1, ?v19_2, ?v19_3, ?v19_4, ?v19_5, ?v19_6, ?v19_7, ?v19_8] [fun _ => [], fun _ => [], fun _ => [], fun _ => [], fun _ => [], fun _ => [], fun _ => [], fun _ => [], fun _ => []] (by kernel_rfl) (by kernel_rfl) (by kernel_rfl) (by kernel_rfl) (by kernel_rfl) (by first | exact List.nodup_nil | exact List.nodup_singleton _ | (simp; done) | (simp; omega)) bc_nil ?walk19 ?dep19
  case walk19 =>
   iterate 9 refine rq ?_
   refine walkR_nil (fun X hX w20 hwz hcz => ?_); clear hX hcz
   (try clear X)
   skip; have hb21 := hwz.unDrew; clear hwz; clear cb3_0 cb3_1 cb3_2 cb3_3 cb5_0 cb5_1 cb5_2 cb5_3 cb7_0 cb7_1; clear qb3 qb5 qb7; replace kb3 := kb3.oldB hb21 (by first | (simp; done) | (simp; omega)); replace kb5 := kb5.oldB hb21 (by first | (simp; done) | (simp; omega)); replace kb7 := kb7.oldB hb21 (by first | (simp; done) | (simp; omega)); replace HB := hid (HB.out.more hb21 (by simp; try omega)); clear hb21; have qb3 := kb3.1; have qb5 := kb5.1; have qb7 := kb7.1; refine pl ?_; refine pl ?_; refine listF_abs (fun s22 z' => ?_); replace sl1 := gs 1 z' sl1; replace sl3 := gs 3 z' sl3; replace sl5 := gs 5 z' sl5; replace sl7 := gs 7 z' sl7; have sl9 := gu 9 z'; clear z' sl38; refine listF_nil ?_
   repeat ((fail_if_success refine stp ?_); with_reducible go_step)
   have hj23_1 := hid sl1; have hj23_3 := hid sl3; have hj23_5 := hid sl5; have hj23_7 := hid sl7; have hj23_9 := hid sl9; refine cut_any (fun sJ wJ => sJ 71 = .bool (bigB k i (k.steps[i].need + x)) ∧ sJ 1 = s22 1 ∧ sJ 3 = s22 3 ∧ sJ 5 = s22 5 ∧ sJ 7 = s22 7 ∧ sJ 9 = s22 9 ∧ OldB [] w20 wJ) ?_ ?_
   ·skip
    have HL24 := hid (OldB.refl [] w20)
    by_cases p1 : k.new < k.steps[i].need + x
    ·skip
     refine region_F ?_; refine pl ?_; refine pl ?_; have cb3_0 := kb3.cell 0 rfl; have cb3_1 := kb3.cell 1 rfl; have cb3_2 := kb3.cell 2 rfl; have cb3_3 := kb3.cell 3 rfl
     iterate 3 refine pl ?_
     refine pn true ?_
     refine pn true ?_
     refine pn true ?_
     refine pn true ?_
     refine pn true ?_; refine pn true ?_; refine pn true ?_
     iterate 9 refine pu ?_
     refine pn true ?_; refine pl ?_; refine listF_abs (fun s25 z' => ?_); replace sl1 := gs 1 z' sl1; replace sl3 := gs 3 z' sl3; replace sl5 := gs 5 z' sl5; replace sl7 := gs 7 z' sl7; replace sl9 := gs 9 z' sl9; have sl71 := gu 71 z'; clear z'; refine listF_nil ?_
     repeat ((fail_if_success refine stp ?_); with_reducible go_step)
     clear cb3_0 cb3_1 cb3_2 cb3_3; exact ⟨rfl, _, rfl, (by rw [sl71]; simp [bigB, p1]), (sl1.trans hj23_1.out.symm), (sl3.trans hj23_3.out.symm), (sl5.trans hj23_5.out.symm), (sl7.trans hj23_7.out.symm), (sl9.trans hj23_9.out.symm), HL24.out⟩
    ·skip
     have p1 := p1
     by_cases p2 : i + 1 < k.steps.length
     ·skip
      obtain ⟨_, c2, c3⟩ := RdSteps.get0 (Rd.oldB HR.out HB.out (by simp)) p2
      have p2' : (i : Int) + 1 < k.steps.length := by omega
      have y2 : IntKind.i64.wrap ((i : Int) + 1) = (i : Int) + 1 := IntWalk.i64_in _ (by omega)
      by_cases p3 : k.steps[i + 1].need ≤ k.steps[i].need + x
      ·skip
       refine region_F ?_; refine pl ?_; refine pl ?_; have cb3_0 := kb3.cell 0 rfl; have cb3_1 := kb3.cell 1 rfl; have cb3_2 := kb3.cell 2 rfl; have cb3_3 := kb3.cell 3 rfl
       iterate 3 refine pl ?_
       iterate 17 refine py ?_
       refine pl ?_; refine listF_abs (fun s26 z' => ?_); replace sl1 := gs 1 z' sl1; replace sl3 := gs 3 z' sl3; replace sl5 := gs 5 z' sl5; replace sl7 := gs 7 z' sl7; replace sl9 := gs 9 z' sl9; have sl71 := gu 71 z'; clear z'; refine listF_nil ?_
       repeat ((fail_if_success refine stp ?_); with_reducible go_step)
       clear cb3_0 cb3_1 cb3_2 cb3_3; exact ⟨rfl, _, rfl, (by rw [sl71]; unfold bigB; rw [getD_get p2]; simp [p1, p2, p3]), (sl1.trans hj23_1.out.symm), (sl3.trans hj23_3.out.symm), (sl5.trans hj23_5.out.symm), (sl7.trans hj23_7.out.symm), (sl9.trans hj23_9.out.symm), HL24.out⟩
      ·skip
       refine region_F ?_; refine pl ?_; refine pl ?_; have cb3_0 := kb3.cell 0 rfl; have cb3_1 := kb3.cell 1 rfl; have cb3_2 := kb3.cell 2 rfl; have cb3_3 := kb3.cell 3 rfl
       iterate 3 refine pl ?_
       iterate 17 refine py ?_
       refine pl ?_; refine listF_abs (fun s27 z' => ?_); replace sl1 := gs 1 z' sl1; replace sl3 := gs 3 z' sl3; replace sl5 := gs 5 z' sl5; replace sl7 := gs 7 z' sl7; replace sl9 := gs 9 z' sl9; have sl71 := gu 71 z'; clear z'; refine listF_nil ?_
       repeat ((fail_if_success refine stp ?_); with_reducible go_step)
       clear cb3_0 cb3_1 cb3_2 cb3_3; exact ⟨rfl, _, rfl, (by rw [sl71]; unfold bigB; rw [getD_get p2]; simp [p1, p2, p3]), (sl1.trans hj23_1.out.symm), (sl3.trans hj23_3.out.symm), (sl5.trans hj23_5.out.symm), (sl7.trans hj23_7.out.symm), (sl9.trans hj23_9.out.symm), HL24.out⟩
     ·skip
      have p2' : ¬ (i : Int) + 1 < k.steps.length := by omega
      have y2 : IntKind.i64.wrap ((i : Int) + 1) = (i : Int) + 1 := IntWalk.i64_in _ (by omega); refine region_F ?_; refine pl ?_; refine pl ?_; have cb3_0 := kb3.cell 0 rfl; have cb3_1 := kb3.cell 1 rfl; have cb3_2 := kb3.cell 2 rfl; have cb3_3 := kb3.cell 3 rfl
      iterate 3 refine pl ?_
      iterate 7 refine py ?_
      refine pn false ?_
      refine pn false ?_
      refine pn false ?_
      refine pn false ?_
      refine pn false ?_
      refine pn false ?_
      refine pn false ?_; refine pn false ?_; refine pn false ?_; refine py ?_; refine pl ?_; refine listF_abs (fun s28 z' => ?_); replace sl1 := gs 1 z' sl1; replace sl3 := gs 3 z' sl3; replace sl5 := gs 5 z' sl5; replace sl7 := gs 7 z' sl7; replace sl9 := gs 9 z' sl9; have sl71 := gu 71 z'; clear z'; refine listF_nil ?_
      repeat ((fail_if_success refine stp ?_); with_reducible go_step)
      clear cb3_0 cb3_1 cb3_2 cb3_3; exact ⟨rfl, _, rfl, (by rw [sl71]; simp [bigB, p1, p2]), (sl1.trans hj23_1.out.symm), (sl3.trans hj23_3.out.symm), (sl5.trans hj23_5.out.symm), (sl7.trans hj23_7.out.symm), (sl9.trans hj23_9.out.symm), HL24.out⟩
   ·skip
    rintro s29 w30 ⟨sl71, e1, e3, e5, e7, e9, hb31⟩; replace sl1 := e1.trans sl1; clear e1 hj23_1; replace sl3 := e3.trans sl3; clear e3 hj23_3; replace sl5 := e5.trans sl5; clear e5 hj23_5; replace sl7 := e7.trans sl7; clear e7 hj23_7; replace sl9 := e9.trans sl9; clear e9 hj23_9; clear qb3 qb5 qb7; replace kb3 := kb3.oldB hb31 (by first | (simp; done) | (simp; omega)); replace kb5 := kb5.oldB hb31 (by first | (simp; done) | (simp; omega)); replace kb7 := kb7.oldB hb31 (by first | (simp; done) | (simp; omega)); replace HB := hid (HB.out.more hb31 (by simp; try omega)); clear hb31; have qb3 := kb3.1; have qb5 := kb5.1; have qb7 := kb7.1
    repeat ((fail_if_success refine stp ?_); with_reducible go_step)
    have hj32_3 := hid sl3; have hj32_5 := hid sl5; have hj32_7 := hid sl7; refine cut_any (fun sJ wJ => ∃ (s0 : Int), sJ 9 = .int .i64 s0 ∧ sJ 3 = s29 3 ∧ sJ 5 = s29 5 ∧ sJ 7 = s29 7 ∧ OldB [] w30 wJ ∧ ((lifeSpan k i).lo ≤ s0 ∧ s0 ≤ (lifeSpan k i).hi)) ?_ ?_
    ·skip
     have HL33 := hid (OldB.refl [] w30)
     refine cond_E sl71 (by decide) ?_ ?_ <;> (clear sl71; intro h71 sl71)
     ·skip
      repeat ((fail_if_success refine stp ?_); with_reducible go_step)
      refine region_F ?_; refine pl ?_; have cb3_0 := kb3.cell 0 rfl; have cb3_1 := kb3.cell 1 rfl; have cb3_2 := kb3.cell 2 rfl; have cb3_3 := kb3.cell 3 rfl; refine pl ?_; refine pl ?_; obtain ⟨_, c0, c1⟩ := RdSteps.get0 (Rd.oldB HR.out HB.out (by simp)) hi
      iterate 4 refine pl ?_
      refine listF_abs (fun s34 z' => ?_); replace sl3 := gs 3 z' sl3; replace sl5 := gs 5 z' sl5; replace sl7 := gs 7 z' sl7; replace sl9 := gu 9 z'; clear z' sl1 sl71; refine listF_nil ?_
      repeat ((fail_if_success refine stp ?_); with_reducible go_step)
      clear cb3_0 cb3_1 cb3_2 cb3_3; exact ⟨rfl, _, rfl, k.steps[i].need, (by first | (with_reducible exact sl9) | (rw [sl9]; (with_reducible go_num); done) | (rw [sl9, IntWalk.i64_in] <;> first | ((with_reducible go_num); done) | omega) | (rw [sl9]; go_num; done) | (rw [sl9]; simp; done) | (rw [sl9]; simp; omega)), (sl3.trans hj32_3.out.symm), (sl5.trans hj32_5.out.symm), (sl7.trans hj32_7.out.symm), HL33.out, Hst.out.1⟩
     ·skip
      repeat ((fail_if_success refine stp ?_); with_reducible go_step)
      exact ⟨rfl, _, rfl, (k.steps[i].need + x), (by first | (with_reducible exact sl9) | (rw [sl9]; (with_reducible go_num); done) | (rw [sl9, IntWalk.i64_in] <;> first | ((with_reducible go_num); done) | omega) | (rw [sl9]; go_num; done) | (rw [sl9]; simp; done) | (rw [sl9]; simp; omega)), (sl3.trans hj32_3.out.symm), (sl5.trans hj32_5.out.symm), (sl7.trans hj32_7.out.symm), HL33.out, Hst.out.2 h71⟩
    ·skip
     clear sl1 sl9 sl71; rintro s35 w36 ⟨s0, sl9, e3, e5, e7, hb37, hs0⟩; replace sl3 := e3.trans sl3; clear e3 hj32_3; replace sl5 := e5.trans sl5; clear e5 hj32_5; replace sl7 := e7.trans sl7; clear e7 hj32_7; clear qb3 qb5 qb7; replace kb3 := kb3.oldB hb37 (by first | (simp; done) | (simp; omega)); replace kb5 := kb5.oldB hb37 (by first | (simp; done) | (simp; omega)); replace kb7 := kb7.oldB hb37 (by first | (simp; done) | (simp; omega)); replace HB := hid (HB.out.more hb37 (by simp; try omega)); clear hb37; have qb3 := kb3.1; have qb5 := kb5.1; have qb7 := kb7.1; have hsb := life_bd HK.out hi hs0; have Hs0 := hid hs0
     repeat ((fail_if_success refine stp ?_); with_reducible go_step)
     refine region_F ?_; refine pl ?_; refine listF_abs (fun s38 z' => ?_); replace sl3 := gs 3 z' sl3; replace sl5 := gs 5 z' sl5; replace sl7 := gs 7 z' sl7; replace sl9 := gs 9 z' sl9; have sl10 := gu 10 z'; clear z'; refine listF_nil ?_
     repeat ((fail_if_success refine stp ?_); with_reducible go_step)
     have hc0_3 := hid sl3; have hc0_5 := hid sl5; have hc0_7 := hid sl7; refine loop_F (n := 130) (fun kJ sJ wJ => ∃ (t : Nat), kJ = 801 - t ∧ sJ 9 = .int .i64 (wornS k (fun t => wearAt lw t) s0 t) ∧ sJ 10 = .int .i64 (t : Int) ∧ sJ 3 = s38 3 ∧ sJ 5 = s38 5 ∧ sJ 7 = s38 7 ∧ OldB [] w36 wJ ∧ (Hid (∀ e, e < t → k.steps[0].need ≤ wornS k (fun t => wearAt lw t) s0 e)) ∧ t ≤ 801) ⟨0, rfl, (by first | exact sl9 | (rw [sl9]; go_num) | (rw [sl9]; rfl)), (by first | exact sl10 | (rw [sl10]; go_num) | (rw [sl10]; rfl)), rfl, rfl, rfl, OldB.refl _ _, hid (fun e he => absurd he (by omega)), by omega⟩ ?_; clear sl9 sl10; rintro kJ s39 w40 ⟨t, rfl, sl9, sl10, e3, e5, e7, hb41, Hall, ht1⟩; replace sl3 := e3.trans sl3; clear e3; replace sl5 := e5.trans sl5; clear e5; replace sl7 := e7.trans sl7; clear e7; have hoJ := hb41; clear qb3 qb5 qb7; replace kb3 := kb3.oldB hb41 (by first | (simp; done) | (simp; omega)); replace kb5 := kb5.oldB hb41 (by first | (simp; done) | (simp; omega))
     replace kb7 := kb7.oldB hb41 (by first | (simp; done) | (simp; omega)); replace HB := hid (HB.out.more hb41 (by simp; try omega)); clear hb41; have qb3 := kb3.1; have qb5 := kb5.1; have qb7 := kb7.1; have HoJ := hid hoJ; clear hoJ; have HL42 := HoJ; clear HoJ
     repeat ((fail_if_success refine stp ?_); with_reducible go_step)
     refine region_F ?_; refine pl ?_; refine pl ?_; refine listF_abs (fun s43 z' => ?_); replace sl3 := gs 3 z' sl3; replace sl5 := gs 5 z' sl5; replace sl7 := gs 7 z' sl7; replace sl9 := gs 9 z' sl9; replace sl10 := gs 10 z' sl10; have sl79 := gu 79 z'; clear z'; refine listF_nil ?_
     repeat ((fail_if_success refine stp ?_); with_reducible go_step)
     refine cond_E sl79 (by decide) ?_ ?_ <;> (clear sl79; intro h79 sl79)
     ·skip
      have ht8 : t ≤ 800 := by have := h79; simp at this; omega
      repeat ((fail_if_success refine stp ?_); with_reducible go_step)
      refine region_F ?_; refine pl ?_; refine pl ?_; have cb3_0 := kb3.cell 0 rfl; have cb3_1 := kb3.cell 1 rfl; have cb3_2 := kb3.cell 2 rfl; have cb3_3 := kb3.cell 3 rfl; refine pl ?_; have h00 : 0 < k.steps.length := HK.out.l0; obtain ⟨_, e0, e1⟩ := RdSteps.get0 (Rd.oldB HR.out HB.out (by simp)) h00
      simp only [Nat.zero_mul, Nat.add_zero] at e0 e1
      iterate 4 refine pl ?_
      refine listF_abs (fun s44 z' => ?_); replace sl3 := gs 3 z' sl3; replace sl5 := gs 5 z' sl5; replace sl7 := gs 7 z' sl7; replace sl9 := gs 9 z' sl9; replace sl10 := gs 10 z' sl10; have sl88 := gu 88 z'; clear z' sl79; refine listF_nil ?_
      repeat ((fail_if_success refine stp ?_); with_reducible go_step)
      refine cond_E sl88 (by decide) ?_ ?_ <;> (clear sl88; intro h88 sl88)
      ·skip
       have ht8 : t ≤ 800 := by omega
       have hfo := first_ok HK.out (wornS_worn HK.out (u := fun t => wearAt lw t) hsb.1) (s := lifeSpan k i) (a := 0) Hs0.out.1 Hs0.out.2 (Nat.zero_le t) (by rw [needed_top HK.out, getD_get HK.out.l0]; simpa using h88) (fun e _ he => by rw [needed_top HK.out, getD_get HK.out.l0]; exact Hall.out e he); rw [show ((0 : Nat) : Int) = 0 from rfl, ← Hf.out] at hfo; obtain ⟨o1, o2, o3⟩ := hfo; have o2' : f.earliest ≤ (t : Int) := o2
       repeat ((fail_if_success refine stp ?_); with_reducible go_step)
       by_cases fl : f.latest < 0
       ·skip
        refine region_F ?_; refine pl ?_; have cb7_0 := kb7.cell 0 rfl; have cb7_1 := kb7.cell 1 rfl
        iterate 3 refine pl ?_
        iterate 4 refine py ?_
        refine pl ?_; refine pl ?_
        iterate 4 refine py ?_
        refine pn true ?_
        refine pn true ?_; refine pn true ?_; refine pn true ?_; refine py ?_; refine pl ?_; refine pl ?_; refine listF_yes rfl rfl (by decide) ?_ (fun K' hK => ?_); (focus (go_simp; done)); unfold opF; go_simp; refine (awake_any _).mono ?_; rintro e w45 ⟨rfl, hb46⟩; refine ⟨_, rfl, hK _ _ ?_⟩; clear hK K'; clear cb3_0 cb3_1 cb3_2 cb3_3 cb7_0 cb7_1; clear qb3 qb5 qb7; replace kb3 := kb3.at hb46; replace kb5 := kb5.at hb46; replace kb7 := kb7.at hb46; replace HL42 := hid (HL42.out.below hb46); replace HB := hid (HB.out.below hb46); clear hb46; have qb3 := kb3.1; have qb5 := kb5.1; have qb7 := kb7.1; refine pl ?_; refine pl ?_; refine listF_abs (fun s47 z' => ?_); have sl6 := gu 6 z'; clear z' sl3 sl5 sl7 sl9 sl10 sl88; refine listF_nil ?_
        repeat ((fail_if_success refine stp ?_); with_reducible go_step)
        refine ret_F _ (res_t Try.results11 ((getD_F (by decide)).trans sl6)) ?_; exact ⟨rfl, HB.out.toBelow⟩
       ·skip
        have o4 := o3.resolve_left fl; refine region_F ?_; refine pl ?_; have cb7_0 := kb7.cell 0 rfl; have cb7_1 := kb7.cell 1 rfl
        iterate 3 refine pl ?_
        iterate 4 refine py ?_
        refine pl ?_; refine pl ?_
        iterate 9 refine py ?_
        refine pl ?_; refine pl ?_; refine listF_yes rfl rfl (by decide) ?_ (fun K' hK => ?_); (focus (go_simp; done)); unfold opF; go_simp; refine (awake_any _).mono ?_; rintro e w48 ⟨rfl, hb49⟩; refine ⟨_, rfl, hK _ _ ?_⟩; clear hK K'; clear cb3_0 cb3_1 cb3_2 cb3_3 cb7_0 cb7_1; clear qb3 qb5 qb7; replace kb3 := kb3.at hb49; replace kb5 := kb5.at hb49; replace kb7 := kb7.at hb49; replace HL42 := hid (HL42.out.below hb49); replace HB := hid (HB.out.below hb49); clear hb49; have qb3 := kb3.1; have qb5 := kb5.1; have qb7 := kb7.1; refine pl ?_; refine pl ?_; refine listF_abs (fun s50 z' => ?_); have sl6 := gu 6 z'; clear z' sl3 sl5 sl7 sl9 sl10 sl88; refine listF_nil ?_
        repeat ((fail_if_success refine stp ?_); with_reducible go_step)
        refine ret_F _ (res_t Try.results11 ((getD_F (by decide)).trans sl6)) ?_; exact ⟨rfl, HB.out.toBelow⟩
      ·skip
       repeat ((fail_if_success refine stp ?_); with_reducible go_step)
       have cb5_0 := kb5.cell 0 rfl; have cb5_1 := kb5.cell 1 rfl; have cb5_2 := kb5.cell 2 rfl; have cb5_3 := kb5.cell 3 rfl; have cb7_0 := kb7.cell 0 rfl; have cb7_1 := kb7.cell 1 rfl; refine regionR_F [] [] [] [.q [], .q [], .q [], .q [], .q [], .q []] [?v20_0, ?v20_1, ?v20_2, ?v20_3, ?v20_4, ?v20_5] [fun _ => [], fun _ => [], fun _ => [], fun _ => [], fun _ => [], fun _ => []] (by kernel_rfl) (by kernel_rfl) (by kernel_rfl) (by kernel_rfl) (by kernel_rfl) (by first | exact List.nodup_nil | exact List.nodup_singleton _ | (simp; done) | (simp; omega)) bc_nil ?walk20 ?dep20
       case walk20 =>
        iterate 5 refine rq ?_
        refine walkR_q (by rfl) (fun X hX wq hwq hrq => ?_) ?_
        · obtain ⟨hcq, hfq⟩ := hwq.b0
          clear hrq; go_simp
          (with_reducible exact (wear_any aw cw lw t _ hlw (by omega) (Rd.oldB HRw.out (HB.out.more hwq.unDrew (by simp; try omega)) (by simp))))
        refine walkR_nil (fun X hX w51 hwz hcz => ?_); clear hX hcz
        (try clear X)
        skip; have hb52 := hwz.unDrew; clear hwz; clear cb3_0 cb3_1 cb3_2 cb3_3 cb5_0 cb5_1 cb5_2 cb5_3 cb7_0 cb7_1; clear qb3 qb5 qb7; replace kb3 := kb3.oldB hb52 (by first | (simp; done) | (simp; omega)); replace kb5 := kb5.oldB hb52 (by first | (simp; done) | (simp; omega)); replace kb7 := kb7.oldB hb52 (by first | (simp; done) | (simp; omega)); replace HL42 := hid (HL42.out.more hb52 (by simp; try omega)); replace HB := hid (HB.out.more hb52 (by simp; try omega)); clear hb52; have qb3 := kb3.1; have qb5 := kb5.1; have qb7 := kb7.1; refine listF_step rfl (fun K' hK => ?_); unfold opF; go_simp; refine (worn_any k (some ⟨b, off, none⟩) c _ _ _ HK.out (wornS_bd HK.out hsb.1 hsb.2 t) (wearAt_bd HU.out t)).mono ?_; rintro e w53 ⟨rfl, hb54⟩; refine ⟨_, rfl, hK _ _ ?_⟩; clear hK K'; clear qb3 qb5 qb7; replace kb3 := kb3.at hb54; replace kb5 := kb5.at hb54; replace kb7 := kb7.at hb54; replace HL42 := hid (HL42.out.below hb54); replace HB := hid (HB.out.below hb54)
        clear hb54; have qb3 := kb3.1; have qb5 := kb5.1; have qb7 := kb7.1; refine pl ?_; refine listF_abs (fun s55 z' => ?_); replace sl3 := gs 3 z' sl3; replace sl5 := gs 5 z' sl5; replace sl7 := gs 7 z' sl7; replace sl9 := gu 9 z'; replace sl10 := gs 10 z' sl10; clear z' sl88; refine listF_nil ?_
        repeat ((fail_if_success refine stp ?_); with_reducible go_step)
        refine region_F ?_
        iterate 3 refine pl ?_
        refine listF_abs (fun s56 z' => ?_); replace sl3 := gs 3 z' sl3; replace sl5 := gs 5 z' sl5; replace sl7 := gs 7 z' sl7; replace sl9 := gs 9 z' sl9; replace sl10 := gu 10 z'; clear z'; refine listF_nil ?_
        repeat ((fail_if_success refine stp ?_); with_reducible go_step)
        refine ⟨_, _, rfl, ?_, t + 1, rfl, (by first | (with_reducible exact sl9) | (rw [sl9]; (with_reducible go_num); done) | (rw [sl9, IntWalk.i64_in] <;> first | ((with_reducible go_num); done) | omega) | (rw [sl9]; go_num; done) | (rw [sl9]; simp; done) | (rw [sl9]; simp; omega)), (by first | (with_reducible exact sl10) | (rw [sl10]; (with_reducible go_num); done) | (rw [sl10, IntWalk.i64_in] <;> first | ((with_reducible go_num); done) | omega) | (rw [sl10]; go_num; done) | (rw [sl10]; simp; done) | (rw [sl10]; simp; omega)), (sl3.trans hc0_3.out.symm), (sl5.trans hc0_5.out.symm), (sl7.trans hc0_7.out.symm), HL42.out, hid (fun e he => by by_cases h : e = t; (subst h; exact Int.not_lt.1 (by simpa using h88)); exact Hall.out e (by omega)), by omega⟩
        omega
       case dep20 =>
         iterate 6 refine dR ?_
         exact depR_nil
     ·skip
      have ht9 : 800 < t := by have := h79; simp at this; omega
      have hln := first_none HK.out (wornS_worn HK.out (u := fun t => wearAt lw t) hsb.1) (s := lifeSpan k i) (a := 0) Hs0.out.2 (m := 800) (by omega) (fun e _ he => by rw [needed_top HK.out, getD_get HK.out.l0]; exact Hall.out e (by omega)); rw [show ((0 : Nat) : Int) = 0 from rfl, ← Hf.out] at hln
      repeat ((fail_if_success refine stp ?_); with_reducible go_step)
      clear HL42; clear hc0_3 hc0_5 hc0_7
      by_cases fl : f.latest < 0
      ·skip
       refine region_F ?_; refine pl ?_; have cb7_0 := kb7.cell 0 rfl; have cb7_1 := kb7.cell 1 rfl
       iterate 3 refine pl ?_
       refine pn true ?_; refine pn true ?_; refine pn true ?_; refine pl ?_; refine pl ?_; refine listF_yes rfl rfl (by decide) ?_ (fun K' hK => ?_); (focus (go_simp; done)); unfold opF; go_simp; refine (awake_any _).mono ?_; rintro e w57 ⟨rfl, hb58⟩; refine ⟨_, rfl, hK _ _ ?_⟩; clear hK K'; clear cb7_0 cb7_1; clear qb3 qb5 qb7; replace kb3 := kb3.at hb58; replace kb5 := kb5.at hb58; replace kb7 := kb7.at hb58; replace HB := hid (HB.out.below hb58); clear hb58; have qb3 := kb3.1; have qb5 := kb5.1; have qb7 := kb7.1; refine pl ?_; refine pl ?_; refine listF_abs (fun s59 z' => ?_); have sl6 := gu 6 z'; clear z' sl3 sl5 sl7 sl9 sl10 sl79; refine listF_nil ?_
       repeat ((fail_if_success refine stp ?_); with_reducible go_step)
       refine ret_F _ (res_t Try.results11 ((getD_F (by decide)).trans sl6)) ?_; exact ⟨rfl, HB.out.toBelow⟩
      ·skip
       have o4 : (800 : Int) < f.latest := hln.resolve_left fl; refine region_F ?_; refine pl ?_; have cb7_0 := kb7.cell 0 rfl; have cb7_1 := kb7.cell 1 rfl
       iterate 3 refine pl ?_
       iterate 3 refine py ?_
       refine pl ?_; refine pl ?_; refine listF_yes rfl rfl (by decide) ?_ (fun K' hK => ?_); (focus (go_simp; done)); unfold opF; go_simp; refine (awake_any _).mono ?_; rintro e w60 ⟨rfl, hb61⟩; refine ⟨_, rfl, hK _ _ ?_⟩; clear hK K'; clear cb7_0 cb7_1; clear qb3 qb5 qb7; replace kb3 := kb3.at hb61; replace kb5 := kb5.at hb61; replace kb7 := kb7.at hb61; replace HB := hid (HB.out.below hb61); clear hb61; have qb3 := kb3.1; have qb5 := kb5.1; have qb7 := kb7.1; refine pl ?_; refine pl ?_; refine listF_abs (fun s62 z' => ?_); have sl6 := gu 6 z'; clear z' sl3 sl5 sl7 sl9 sl10 sl79; refine listF_nil ?_
       repeat ((fail_if_success refine stp ?_); with_reducible go_step)
       refine ret_F _ (res_t Try.results11 ((getD_F (by decide)).trans sl6)) ?_; exact ⟨rfl, HB.out.toBelow⟩
  case dep19 =>
    iterate 9 refine dR ?_
    exact depR_nil

end Go.Proofs.Ytndcmmghgljinaa
