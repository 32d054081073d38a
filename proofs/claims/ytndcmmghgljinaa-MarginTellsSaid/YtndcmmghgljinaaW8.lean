/- The stable sort's parts: by insertion. -/
import Derived.Test.YtndcmmghgljinaaW7
set_option linter.all false
namespace Go.Proofs.Ytndcmmghgljinaa
open Go.RowKit

open Go.Sort
theorem sorted_mono {a b b' : Nat} {d : Array MCk} (h : SortedIn ltH a b d) (hb : b' ≤ b) : SortedIn ltH a b' d := fun i j h1 h2 h3 => h i j h1 h2 (by omega)
theorem ltH_t {x y : MCk} (h : x.hour - y.hour < 0) : ltH x y = true := by simp [ltH]; omega
theorem ltH_f {x y : MCk} (h : ¬ x.hour - y.hour < 0) : ltH x y = false := by simp [ltH]; omega

set_option maxRecDepth 100000 in
set_option maxHeartbeats 1000000 in
theorem insSort_any (g cap O N : Nat) (d : Array MCk) (hN : d.size = N) (a b : Nat) (w : World) (hg : Cells w g (fl d)) (hO : Cells w O [.func (.func 73) #[] #[]]) (hOg : ¬ O = g) (hsz : d.size ≤ 1000) (hab : a ≤ b) (hb : b ≤ d.size) (hA : AllH d) :
    Calls Try.prog 89 #[.slice (some ⟨g, 0, none⟩) N cap, .int .i64 (a : Int), .int .i64 (b : Int), .func (.func 85) #[] #[.pointer (some ⟨O, 0, none⟩)]] w (SortRes g w (fun d' => PermIn a b d d' ∧ SortedIn ltH a b d')) := by
 obtain rfl := hN; have HA := hid hA; clear hA; have hA := HA; clear HA; have kg := hg; have kO := hO
 refine enter_F Try.func89 rfl Try.ntmps89 (by simp) ?_
 intro s0 hs; have sl0 : s0 0 = .slice (some ⟨g, 0, none⟩) d.size cap := hs 0 (by simp); have sl1 : s0 1 = .int .i64 (a : Int) := hs 1 (by simp); have sl2 : s0 2 = .int .i64 (b : Int) := hs 2 (by simp); have sl3 : s0 3 = .func (.func 85) #[] #[.pointer (some ⟨O, 0, none⟩)] := hs 3 (by simp); clear hs; have HB := hid (OldB.refl [g] w); have qg := kg.1; have qO := kO.1
 repeat ((fail_if_success refine stp ?_); with_reducible go_step)
 refine region_F ?_; refine pl ?_; have wa1 : IntKind.i64.wrap ((a : Int) + 1) = (a : Int) + 1 := IntWalk.i64_in _ (by omega); refine pl ?_; refine pl ?_; refine listF_abs (fun s1 z' => ?_); replace sl0 := gs 0 z' sl0; replace sl1 := gs 1 z' sl1; replace sl2 := gs 2 z' sl2; replace sl3 := gs 3 z' sl3; have sl8 := gu 8 z'; clear z'; refine listF_nil ?_
 repeat ((fail_if_success refine stp ?_); with_reducible go_step)
 have hc0_0 := hid sl0; have hc0_1 := hid sl1; have hc0_2 := hid sl2; have hc0_3 := hid sl3; refine loop_F (n := 53) (fun kJ sJ wJ => ∃ (i : Nat) (d1 : Array MCk), kJ = b - i ∧ sJ 8 = .int .i64 (i : Int) ∧ sJ 0 = s1 0 ∧ sJ 1 = s1 1 ∧ sJ 2 = s1 2 ∧ sJ 3 = s1 3 ∧ OldB [g] w wJ ∧ Cells wJ g (fl d1) ∧ a < i ∧ (i ≤ b ∨ i = a + 1) ∧ Hid (PermIn a b d d1) ∧ Hid (SortedIn ltH a i d1)) ⟨a + 1, d, rfl, (by first | exact sl8 | (rw [sl8]; go_num) | (rw [sl8]; rfl)), rfl, rfl, rfl, rfl, OldB.refl _ _, (by first | (with_reducible exact kg) | (apply Cells.conv; (focus (exact kg)); (first | rfl | (simp; done)))), by omega, by omega, hid (permIn_refl d a b), hid (fun i j h1 h2 h3 => by omega)⟩ ?_; clear sl8; rintro kJ s2 w3 ⟨i, d1, rfl, sl8, e0, e1, e2, e3, hb4, mg', hai, hib, hP0, hs⟩; replace sl0 := e0.trans sl0; clear e0; replace sl1 := e1.trans sl1; clear e1; replace sl2 := e2.trans sl2; clear e2; replace sl3 := e3.trans sl3; clear e3
 have hoJ := hb4; clear qg qO; replace kg := mg'; replace kO := kO.oldB hb4 (by first | (simp; done) | (simp; omega)); replace HB := hid (HB.out.more hb4 (by simp; try omega)); clear hb4; have qg := kg.1; have qO := kO.1; clear mg'; have HoJ := hid hoJ; clear hoJ; have HL5 := HoJ; clear HoJ
 repeat ((fail_if_success refine stp ?_); with_reducible go_step)
 refine region_F ?_
 iterate 3 refine pl ?_
 refine listF_abs (fun s6 z' => ?_); replace sl0 := gs 0 z' sl0; replace sl1 := gs 1 z' sl1; replace sl2 := gs 2 z' sl2; replace sl3 := gs 3 z' sl3; replace sl8 := gs 8 z' sl8; have sl14 := gu 14 z'; clear z'; refine listF_nil ?_
 repeat ((fail_if_success refine stp ?_); with_reducible go_step)
 refine cond_E sl14 (by decide) ?_ ?_ <;> (clear sl14; intro h14 sl14)
 ·skip
  have hlt : i < b := by simpa using h14
  repeat ((fail_if_success refine stp ?_); with_reducible go_step)
  refine region_F ?_; refine pl ?_; refine pl ?_; refine listF_abs (fun s7 z' => ?_); replace sl0 := gs 0 z' sl0; replace sl1 := gs 1 z' sl1; replace sl2 := gs 2 z' sl2; replace sl3 := gs 3 z' sl3; replace sl8 := gs 8 z' sl8; have sl9 := gu 9 z'; clear z' sl14; refine listF_nil ?_
  repeat ((fail_if_success refine stp ?_); with_reducible go_step)
  have hc1_0 := hid sl0; have hc1_1 := hid sl1; have hc1_2 := hid sl2; have hc1_3 := hid sl3; have hc1_8 := hid sl8; refine loop_F (n := 53) (fun kJ sJ wJ => ∃ (j : Nat) (d2 : Array MCk), kJ = j + 1 ∧ sJ 9 = .int .i64 (j : Int) ∧ sJ 0 = s7 0 ∧ sJ 1 = s7 1 ∧ sJ 2 = s7 2 ∧ sJ 3 = s7 3 ∧ sJ 8 = s7 8 ∧ OldB [g] w3 wJ ∧ Cells wJ g (fl d2) ∧ a ≤ j ∧ j ≤ i ∧ Hid (PermIn a b d d2) ∧ Hid (Ins ltH a j i d2)) ⟨i, d1, rfl, (by first | exact sl9 | (rw [sl9]; go_num) | (rw [sl9]; rfl)), rfl, rfl, rfl, rfl, rfl, OldB.refl _ _, (by first | (with_reducible exact kg) | (apply Cells.conv; (focus (exact kg)); (first | rfl | (simp; done)))), by omega, Nat.le_refl _, hP0, hid ⟨fun p q hap hpq hqi _ hq => hs.out p q hap hpq (by omega), fun q h1 h2 => by omega⟩⟩ ?_; clear sl9; rintro kJ s8 w9 ⟨j, d2, rfl, sl9, e0, e1, e2, e3, e8, hb10, mg', hja, hji, hP, hI⟩; replace sl0 := e0.trans sl0; clear e0; replace sl1 := e1.trans sl1; clear e1
  replace sl2 := e2.trans sl2; clear e2; replace sl3 := e3.trans sl3; clear e3; replace sl8 := e8.trans sl8; clear e8; have hoJ := hb10; clear qg qO; replace kg := mg'; replace kO := kO.oldB hb10 (by first | (simp; done) | (simp; omega)); replace HL5 := hid (HL5.out.more hb10 (by simp; try omega)); replace HB := hid (HB.out.more hb10 (by simp; try omega)); clear hb10; have qg := kg.1; have qO := kO.1; clear mg'; have HoJ := hid hoJ; clear hoJ; have hz2 : d2.size = d.size := hP.out.1; have Hz2 := hid hz2
  have hb2 : b ≤ d2.size := by omega
  have hz3 : d2.size ≤ 1000 := by omega
  have hz4 : (d2.size : Int) = d.size := by omega
  have Hz4 := hid hz4; clear hz2 hz4; have HL11 := HoJ; clear HoJ
  repeat ((fail_if_success refine stp ?_); with_reducible go_step)
  rcases Nat.lt_or_ge a j with hj | hj
  ·skip
   obtain ⟨m, rfl⟩ : ∃ m, j = m + 1 := ⟨j - 1, by omega⟩; obtain ⟨x, hx, x0, x1, x2⟩ := fl_el kg (d := d2) (i := m + 1) (by omega); obtain ⟨y, hy, y0, y1, y2⟩ := fl_el kg (d := d2) (i := m) (by omega)
   have hkx : hourOk x := by have := allH_perm hb hP.out hA.out (m + 1) (by omega); rwa [hx.out] at this
   have hky : hourOk y := by have := allH_perm hb hP.out hA.out (m) (by omega); rwa [hy.out] at this
   have w1 : IntKind.i64.wrap ((m : Int) + 1 - 1) = (m : Int) + 1 - 1 := IntWalk.i64_in _ (by omega)
   have e1 : (m : Int) + 1 - 1 = m := by omega
   have e2 : ((m : Int) + 1).toNat = m + 1 := by omega
   have b1 : (m : Int) + 1 < d.size := by have := Hz4.out; omega
   have b2 : (m : Int) < d.size := by have := Hz4.out; omega
   have b3 : (a : Int) < (m : Int) + 1 := by omega
   obtain ⟨x3, x4⟩ := hkx; obtain ⟨y3, y4⟩ := hky; have w2 : IntKind.i64.wrap (x.hour - y.hour) = x.hour - y.hour := IntWalk.i64_in _ (by omega); have w3 : IntKind.i64.wrap ((m : Int)) = (m : Int) := IntWalk.i64_in _ (by omega); have cO_0 := kO.cell 0 rfl; refine regionQ_F (Below w9.heap.size w9) (by kernel_rfl) (by kernel_rfl) (Below.refl _ _).drew ?_
   iterate 4 refine lq ?_
   iterate 10 refine lqy ?_
   refine listQ_yes (v := ?_) rfl rfl (by decide) ?_ ?_ ?_; rotate_left; (focus (go_simp; done))
   · focus (intro wq hwq; obtain ⟨hcq, hfq⟩ := bcell hwq; go_simp; have hQ := callQ (cmp_any x y O _ (kO.at hwq) ⟨x3, x4⟩ ⟨y3, y4⟩) hwq; exact hQ)
   refine lqy ?_; refine lq ?_; refine listQ_nil ?_; intro w12 hb13; clear cO_0; clear qg qO; replace kg := kg.at hb13; replace kO := kO.at hb13; replace HL5 := hid (HL5.out.below hb13); replace HL11 := hid (HL11.out.below hb13); replace HB := hid (HB.out.below hb13); clear hb13; have qg := kg.1; have qO := kO.1
   repeat ((fail_if_success refine stp ?_); with_reducible go_step)
   refine wp_abs (fun s14 z' => ?_); replace sl0 := gs 0 z' sl0; replace sl1 := gs 1 z' sl1; replace sl2 := gs 2 z' sl2; replace sl3 := gs 3 z' sl3; replace sl8 := gs 8 z' sl8; replace sl9 := gs 9 z' sl9; have sl22 := gu 22 z'; have sl23 := gu 23 z'; have sl24 := gu 24 z'; have sl25 := gu 25 z'; have sl26 := gu 26 z'; have sl27 := gu 27 z'; have sl28 := gu 28 z'; have sl29 := gu 29 z'; have sl30 := gu 30 z'; have sl31 := gu 31 z'; have sl32 := gu 32 z'; have sl33 := gu 33 z'; have sl34 := gu 34 z'; clear z'
   refine cond_E sl34 (by decide) ?_ ?_ <;> (clear sl34; intro h34 sl34)
   ·skip
    have h34' : x.hour - y.hour < 0 := by simpa using h34
    have hlt2 : ltH d2[m + 1]! d2[m]! = true := by rw [hx.out, hy.out]; exact ltH_t h34'
    have Hlt2 := hid hlt2; clear hlt2; have hlt2 := Hlt2.out
    have hi_ : m + 1 < d2.size := by omega
    have hj_ : m < d2.size := by omega
    repeat ((fail_if_success refine stp ?_); with_reducible go_step)
    have cO_0 := kO.cell 0 rfl
    have nO_g : ¬ O = g := by omega
    refine regionR_F [g] [(fl d2)] [18] [.q [], .q [], .q [], .q [], .q [], .q [], .q [], .q [], .q [], .q [18], .q [], .q [], .q [], .q [18], .q [], .st 18] [?v6_0, ?v6_1, ?v6_2, ?v6_3, ?v6_4, ?v6_5, ?v6_6, ?v6_7, ?v6_8, ?v6_9, ?v6_10, ?v6_11, ?v6_12, ?v6_13, ?v6_14, fun _ => undef] [fun _ => [], fun _ => [], fun _ => [], fun _ => [], fun _ => [], fun _ => [], fun _ => [], fun _ => [], fun _ => [], fun _ => [], fun _ => [], fun _ => [], fun _ => [], fun _ => [], fun _ => [], ?c6_15] (by kernel_rfl) (by kernel_rfl) (by kernel_rfl) (by kernel_rfl) (by kernel_rfl) (by first | exact List.nodup_nil | exact List.nodup_singleton _ | (simp; done) | (simp; omega)) (bc_cons (by repeat (first | (with_reducible exact kg) | (with_reducible refine Cells.drew ?_) | (with_reducible refine Cells.up ?_ _) | (with_reducible refine Cells.setFar ?_ (by omega)))) bc_nil) ?walk6 ?dep6
    case walk6 =>
     iterate 9 refine rq ?_
     refine walkR_q (by rfl) (fun X hX wq hwq hrq => ?_) ?_
     · obtain ⟨hcq, hfq⟩ := hwq.b1
       have kq18 := hrq 18 (by simp); rw [show X 18 = g from hX.at0 0 _ rfl] at kq18; replace kq18 : Cells wq g ((fl d2)) := kq18; have kqs18 := kq18.1; obtain ⟨f0, f1, f2⟩ := fl_is kq18 hi_ hx; obtain ⟨f3, f4, f5⟩ := fl_is kq18 hj_ hy; clear hrq; go_simp
       (first | rfl | exact ⟨rfl, rfl⟩ | (refine ⟨?_, ?_⟩ <;> rfl))
     iterate 3 refine rq ?_
     refine walkR_q (by rfl) (fun X hX wq hwq hrq => ?_) ?_
     · obtain ⟨hcq, hfq⟩ := hwq.b1
       have kq18 := hrq 18 (by simp); rw [show X 18 = g from hX.at0 0 _ rfl] at kq18; replace kq18 : Cells wq g ((fl d2)) := kq18; have kqs18 := kq18.1; obtain ⟨f0, f1, f2⟩ := fl_is kq18 hi_ hx; obtain ⟨f3, f4, f5⟩ := fl_is kq18 hj_ hy; clear hrq; go_simp
       (first | rfl | exact ⟨rfl, rfl⟩ | (refine ⟨?_, ?_⟩ <;> rfl))
     refine rq ?_; refine walkR_st (by rfl) (fun X hX wq hwq hkq => ?_) ?_
     · rw [show X 18 = g from hX.at0 0 _ rfl] at hkq ⊢
       replace hkq : Cells wq g ((fl d2)) := hkq; have hks := hkq.1; have hkz := hkq.2.2; obtain ⟨f0, f1, f2⟩ := fl_is hkq hi_ hx; go_simp
       (first | ((with_reducible refine writeB_mk (Cells.set (Cells.set (Cells.set hkq))) ?_ ?_); (focus (repeat (first | (with_reducible exact Only.refl _ _) | (with_reducible refine Only.set ?_)))); rfl))
     refine walkR_nil (fun X hX w15 hwz hcz => ?_); have kz0 := hcz 18 (by simp); rw [show X 18 = g from hX.at0 0 _ rfl] at kz0
     simp only [updC_some, updC_none, Nat.reduceEqDiff, ↓reduceIte] at kz0
     clear hX hcz
     (try clear X)
     clear nO_g; have hb16 := hwz.unDrew; clear hwz
     (try simp only [vC, List.set_cons_zero, List.set_cons_succ] at kz0)
     clear cO_0; clear qg qO; replace kg := kz0; replace kO := kO.oldB hb16 (by first | (simp; done) | (simp; omega)); replace HL5 := hid (HL5.out.more hb16 (by simp; try omega)); replace HL11 := hid (HL11.out.more hb16 (by simp; try omega)); replace HB := hid (HB.out.more hb16 (by simp; try omega)); clear hb16; have qg := kg.1; have qO := kO.1; clear kz0; rw [fl_set _ hi_] at kg; refine pl ?_; have zg := kg.2.2; obtain ⟨f3, f4, f5⟩ := fl_get kg (i := m) (by simpa using hj_); refine pl ?_; refine listF_absw ?_; intro w17 hw'; have kg' := cells_of hw' (Cells.set (Cells.set (Cells.set (kg)))); rw [fl_set _ (by simpa using hj_)] at kg'; replace kg' := fl_swap hx hy kg'; have hb18 : OldB [g] w15 w17 := oldset hw'; clear hw'; clear zg; clear qg qO; replace kg := kg'; replace kO := kO.oldB hb18 (by first | (simp; done) | (simp; omega)); replace HL5 := hid (HL5.out.more hb18 (by simp; try omega)); replace HL11 := hid (HL11.out.more hb18 (by simp; try omega))
     replace HB := hid (HB.out.more hb18 (by simp; try omega)); clear hb18; have qg := kg.1; have qO := kO.1; clear kg'; refine listF_abs (fun s19 z' => ?_); replace sl0 := gs 0 z' sl0; replace sl1 := gs 1 z' sl1; replace sl2 := gs 2 z' sl2; replace sl3 := gs 3 z' sl3; replace sl8 := gs 8 z' sl8; replace sl9 := gs 9 z' sl9; replace sl22 := gs 22 z' sl22; replace sl23 := gs 23 z' sl23; replace sl24 := gs 24 z' sl24; replace sl25 := gs 25 z' sl25; replace sl26 := gs 26 z' sl26; replace sl27 := gs 27 z' sl27; replace sl28 := gs 28 z' sl28; replace sl29 := gs 29 z' sl29; replace sl30 := gs 30 z' sl30; replace sl31 := gs 31 z' sl31; replace sl32 := gs 32 z' sl32; replace sl33 := gs 33 z' sl33; clear z' sl34; refine listF_nil ?_
     repeat ((fail_if_success refine stp ?_); with_reducible go_step)
     refine region_F ?_
     iterate 3 refine pl ?_
     refine listF_abs (fun s20 z' => ?_); replace sl0 := gs 0 z' sl0; replace sl1 := gs 1 z' sl1; replace sl2 := gs 2 z' sl2; replace sl3 := gs 3 z' sl3; replace sl8 := gs 8 z' sl8; replace sl9 := gu 9 z'; replace sl22 := gs 22 z' sl22; replace sl23 := gs 23 z' sl23; replace sl24 := gs 24 z' sl24; replace sl25 := gs 25 z' sl25; replace sl26 := gs 26 z' sl26; replace sl27 := gs 27 z' sl27; replace sl28 := gs 28 z' sl28; replace sl29 := gs 29 z' sl29; replace sl30 := gs 30 z' sl30; replace sl31 := gs 31 z' sl31; replace sl32 := gs 32 z' sl32; replace sl33 := gs 33 z' sl33; clear z'; refine listF_nil ?_
     repeat ((fail_if_success refine stp ?_); with_reducible go_step)
     refine ⟨_, _, rfl, ?_, m, swp d2 (m + 1) m, rfl, (by first | (with_reducible exact sl9) | (rw [sl9]; (with_reducible go_num); done) | (rw [sl9, IntWalk.i64_in] <;> first | ((with_reducible go_num); done) | omega) | (rw [sl9]; go_num; done) | (rw [sl9]; simp; done) | (rw [sl9]; simp; omega)), (sl0.trans hc1_0.out.symm), (sl1.trans hc1_1.out.symm), (sl2.trans hc1_2.out.symm), (sl3.trans hc1_3.out.symm), (sl8.trans hc1_8.out.symm), HL11.out, (by first | (with_reducible exact kg) | (apply Cells.conv; (focus (exact kg)); (first | rfl | (simp; done)))), by omega, by omega, hid (permIn_trans _ _ _ _ _ hP.out (swp_permIn d2 a b (m + 1) m (by omega) (by omega) (by omega) (by omega) (by omega))), hid (hI.out.step hlt2 (by omega) (by omega))⟩
     omega
    case dep6 =>
      iterate 16 refine dR ?_
      exact depR_nil
   ·skip
    have h34' : ¬ x.hour - y.hour < 0 := by simpa using h34
    have hge2 : ltH d2[m + 1]! d2[m]! = false := by rw [hx.out, hy.out]; exact ltH_f h34'
    have Hs2 := hid (hI.out.stop ltH_swo (.inr (by simpa using hge2))); clear hge2; have hP := hP
    repeat ((fail_if_success refine stp ?_); with_reducible go_step)
    clear HL11; clear hc1_0 hc1_1 hc1_2 hc1_3 hc1_8; refine region_F ?_
    iterate 3 refine pl ?_
    refine listF_abs (fun s21 z' => ?_); replace sl0 := gs 0 z' sl0; replace sl1 := gs 1 z' sl1; replace sl2 := gs 2 z' sl2; replace sl3 := gs 3 z' sl3; replace sl8 := gu 8 z'; replace sl22 := gs 22 z' sl22; replace sl23 := gs 23 z' sl23; replace sl24 := gs 24 z' sl24; replace sl25 := gs 25 z' sl25; replace sl26 := gs 26 z' sl26; replace sl27 := gs 27 z' sl27; replace sl28 := gs 28 z' sl28; replace sl29 := gs 29 z' sl29; replace sl30 := gs 30 z' sl30; replace sl31 := gs 31 z' sl31; replace sl32 := gs 32 z' sl32; replace sl33 := gs 33 z' sl33; clear z' sl9 sl34; refine listF_nil ?_
    repeat ((fail_if_success refine stp ?_); with_reducible go_step)
    refine ⟨_, _, rfl, ?_, i + 1, d2, rfl, (by first | (with_reducible exact sl8) | (rw [sl8]; (with_reducible go_num); done) | (rw [sl8, IntWalk.i64_in] <;> first | ((with_reducible go_num); done) | omega) | (rw [sl8]; go_num; done) | (rw [sl8]; simp; done) | (rw [sl8]; simp; omega)), (sl0.trans hc0_0.out.symm), (sl1.trans hc0_1.out.symm), (sl2.trans hc0_2.out.symm), (sl3.trans hc0_3.out.symm), HL5.out, (by first | (with_reducible exact kg) | (apply Cells.conv; (focus (exact kg)); (first | rfl | (simp; done)))), by omega, by omega, hP, Hs2⟩
    omega
  ·skip
   have hj' : ¬ (a : Int) < (j : Int) := by omega
   have Hs2 := hid (hI.out.stop ltH_swo (.inl hj)); have cO_0 := kO.cell 0 rfl; refine regionQ_F (Below w9.heap.size w9) (by kernel_rfl) (by kernel_rfl) (Below.refl _ _).drew ?_
   iterate 4 refine lq ?_
   refine lqn false ?_
   refine lqn false ?_
   refine lqn false ?_
   refine lqn false ?_
   refine lqn false ?_
   refine lqn false ?_
   refine lqn false ?_
   refine lqn false ?_
   refine lqn false ?_
   refine lqn false ?_; refine lqn false ?_; refine lqn false ?_; refine lq ?_; refine listQ_nil ?_; intro w22 hb23; clear cO_0; clear qg qO; replace kg := kg.at hb23; replace kO := kO.at hb23; replace HL5 := hid (HL5.out.below hb23); replace HL11 := hid (HL11.out.below hb23); replace HB := hid (HB.out.below hb23); clear hb23; have qg := kg.1; have qO := kO.1
   repeat ((fail_if_success refine stp ?_); with_reducible go_step)
   refine wp_abs (fun s24 z' => ?_); replace sl0 := gs 0 z' sl0; replace sl1 := gs 1 z' sl1; replace sl2 := gs 2 z' sl2; replace sl3 := gs 3 z' sl3; replace sl8 := gs 8 z' sl8; replace sl9 := gs 9 z' sl9; have sl34 := gu 34 z'; clear z'; refine cond_f ?_
   repeat ((fail_if_success refine stp ?_); with_reducible go_step)
   clear HL11; clear hc1_0 hc1_1 hc1_2 hc1_3 hc1_8; refine region_F ?_
   iterate 3 refine pl ?_
   refine listF_abs (fun s25 z' => ?_); replace sl0 := gs 0 z' sl0; replace sl1 := gs 1 z' sl1; replace sl2 := gs 2 z' sl2; replace sl3 := gs 3 z' sl3; replace sl8 := gu 8 z'; clear z' sl9 sl34; refine listF_nil ?_
   repeat ((fail_if_success refine stp ?_); with_reducible go_step)
   refine ⟨_, _, rfl, ?_, i + 1, d2, rfl, (by first | (with_reducible exact sl8) | (rw [sl8]; (with_reducible go_num); done) | (rw [sl8, IntWalk.i64_in] <;> first | ((with_reducible go_num); done) | omega) | (rw [sl8]; go_num; done) | (rw [sl8]; simp; done) | (rw [sl8]; simp; omega)), (sl0.trans hc0_0.out.symm), (sl1.trans hc0_1.out.symm), (sl2.trans hc0_2.out.symm), (sl3.trans hc0_3.out.symm), HL5.out, (by first | (with_reducible exact kg) | (apply Cells.conv; (focus (exact kg)); (first | rfl | (simp; done)))), by omega, by omega, hP, Hs2⟩
   omega
 ·skip
  have hge : ¬ i < b := by simpa using h14
  have Hs := hid (sorted_mono hs.out (show b ≤ i by omega))
  repeat ((fail_if_success refine stp ?_); with_reducible go_step)
  clear HL5; clear hc0_0 hc0_1 hc0_2 hc0_3; refine norm_F _ (res_none Try.results89) ?_; exact ⟨rfl, d1, kg, ⟨hP0.out, Hs.out⟩, HB.out⟩

end Go.Proofs.Ytndcmmghgljinaa
