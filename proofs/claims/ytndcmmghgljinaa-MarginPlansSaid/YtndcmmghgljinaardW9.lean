/- The stable sort's parts: merging one with many. -/
import Derived.Test.YtndcmmghgljinaardW7
set_option linter.all false
namespace Go.Proofs.Ytndcmmghgljinaa

section
open Go.RowKit

open Go.Sort
theorem sorted_mono {a b b' : Nat} {d : Array MCk} (h : SortedIn ltH a b d) (hb : b' ≤ b) : SortedIn ltH a b' d := fun i j h1 h2 h3 => h i j h1 h2 (by omega)
theorem ltH_t {x y : MCk} (h : x.hour - y.hour < 0) : ltH x y = true := by simp [ltH]; omega
theorem ltH_f {x y : MCk} (h : ¬ x.hour - y.hour < 0) : ltH x y = false := by simp [ltH]; omega

set_option maxRecDepth 100000 in
set_option maxHeartbeats 1000000 in
theorem insSort_any (g cap O N : Nat) (d : Array MCk) (hN : d.size = N) (a b : Nat) (w : World) (hg : Cells w g (fl d)) (hO : Cells w O [.func (.func 73) #[] #[]]) (hOg : ¬ O = g) (hsz : d.size ≤ 1000) (hab : a ≤ b) (hb : b ≤ d.size) (hA : AllH d) :
    Calls Try.prog 89 #[.slice (some ⟨g, 0, none⟩) N cap, .int .i64 (a : Int), .int .i64 (b : Int), .func (.func 85) #[] #[.pointer (some ⟨O, 0, none⟩)]] w (SortRes g w (fun d' => PermIn a b d d' ∧ SortedIn ltH a b d')) := by
 obtain rfl := hN; have HA := hid hA; clear hA; have hA := HA; clear HA; have kg := hg; have kO := hO
 refine enter_F Try.func89 rfl Try.ntmps89 (by simp) ?_
 intro s0 hs; have sl0 : s0 0 = .slice (some ⟨g, 0, none⟩) d.size cap := hs 0 (by simp); have sl1 : s0 1 = .int .i64 (a : Int) := hs 1 (by simp); have sl2 : s0 2 = .int .i64 (b : Int) := hs 2 (by simp); have sl3 : s0 3 = .func (.func 85) #[] #[.pointer (some ⟨O, 0, none⟩)] := hs 3 (by simp); clear hs; have HB := hid (OldB.refl [g] w); have qg := kg.1; have qO := kO.1
 repeat ((fail_if_success refine stp ?_); with_reducible go_step)
 refine region_F ?_; refine pl ?_; have wa1 : IntKind.i64.wrap ((a : Int) + 1) = (a : Int) + 1 := IntWalk.i64_in _ (by omega); refine pl ?_; refine pl ?_; refine listF_abs (fun s1 z' => ?_); replace sl0 := gs 0 z' sl0; replace sl1 := gs 1 z' sl1; replace sl2 := gs 2 z' sl2; replace sl3 := gs 3 z' sl3; have sl8 := gu 8 z'; clear z'; refine listF_nil ?_
 repeat ((fail_if_success refine stp ?_); with_reducible go_step)
 have hc0_0 := hid sl0; have hc0_1 := hid sl1; have hc0_2 := hid sl2; have hc0_3 := hid sl3; refine loop_F (n := 53) (fun kJ sJ wJ => ∃ (i : Nat) (d1 : Array MCk), kJ = b - i ∧ sJ 8 = .int .i64 (i : Int) ∧ sJ 0 = s1 0 ∧ sJ 1 = s1 1 ∧ sJ 2 = s1 2 ∧ sJ 3 = s1 3 ∧ OldB [g] w wJ ∧ Cells wJ g (fl d1) ∧ a < i ∧ (i ≤ b ∨ i = a + 1) ∧ Hid (PermIn a b d d1) ∧ Hid (SortedIn ltH a i d1)) ⟨a + 1, d, rfl, (by first | exact sl8 | (rw [sl8]; go_num) | (rw [sl8]; rfl)), rfl, rfl, rfl, rfl, OldB.refl _ _, (by first | (with_reducible exact kg) | (apply Cells.conv; (focus (exact kg)); (first | rfl | (simp; done)))), by omega, by omega, hid (permIn_refl d a b), hid (fun i j h1 h2 h3 => by omega)⟩ ?_; clear sl8; rintro kJ s2 w3 ⟨i, d1, rfl, sl8, e0, e1, e2, e3, hb4, mg', hai, hib, hP0, hs⟩; replace sl0 := e0.trans sl0; clear e0; replace sl1 := e1.trans sl1; clear e1; replace sl2 := e2.trans sl2; clear e2; replace sl3 := e3.trans sl3; clear e3
 have hoJ := hb4; clear qg qO; replace kg := mg'; replace kO := kO.oldB hb4 (by first | (simp; done) | (simp; omega)); replace HB := hid (HB.out.more hb4 (by simp; try omega)); clear hb4; have qg := kg.1; have qO := kO.1; clear mg'; have HoJ := hid hoJ; clear hoJ; have HL5 := HoJ; clear HoJ
 repeat ((fail_if_success refine stp ?_); with_reducible go_step)
 refine region_F ?_
 iterate 3 refine pl ?_
 refine listF_abs (fun s6 z' => ?_); replace sl0 := gs 0 z' sl0; replace sl1 := gs 1 z' sl1; replace sl2 := gs 2 z' sl2; replace sl3 := gs 3 z' sl3; replace sl8 := gs 8 z' sl8; have sl14 := gu 14 z'; clear z'; refine listF_nil ?_
 repeat ((fail_if_success refine stp ?_); with_reducible go_step)
 refine cond_E sl14 (by decide) ?_ ?_ <;> (clear sl14; intro h14 sl14)
 ·skip
  have hlt : i < b := by simpa using h14
  repeat ((fail_if_success refine stp ?_); with_reducible go_step)
  refine region_F ?_; refine pl ?_; refine pl ?_; refine listF_abs (fun s7 z' => ?_); replace sl0 := gs 0 z' sl0; replace sl1 := gs 1 z' sl1; replace sl2 := gs 2 z' sl2; replace sl3 := gs 3 z' sl3; replace sl8 := gs 8 z' sl8; have sl9 := gu 9 z'; clear z' sl14; refine listF_nil ?_
  repeat ((fail_if_success refine stp ?_); with_reducible go_step)
  have hc1_0 := hid sl0; have hc1_1 := hid sl1; have hc1_2 := hid sl2; have hc1_3 := hid sl3; have hc1_8 := hid sl8; refine loop_F (n := 53) (fun kJ sJ wJ => ∃ (j : Nat) (d2 : Array MCk), kJ = j + 1 ∧ sJ 9 = .int .i64 (j : Int) ∧ sJ 0 = s7 0 ∧ sJ 1 = s7 1 ∧ sJ 2 = s7 2 ∧ sJ 3 = s7 3 ∧ sJ 8 = s7 8 ∧ OldB [g] w3 wJ ∧ Cells wJ g (fl d2) ∧ a ≤ j ∧ j ≤ i ∧ Hid (PermIn a b d d2) ∧ Hid (Ins ltH a j i d2)) ⟨i, d1, rfl, (by first | exact sl9 | (rw [sl9]; go_num) | (rw [sl9]; rfl)), rfl, rfl, rfl, rfl, rfl, OldB.refl _ _, (by first | (with_reducible exact kg) | (apply Cells.conv; (focus (exact kg)); (first | rfl | (simp; done)))), by omega, Nat.le_refl _, hP0, hid ⟨fun p q hap hpq hqi _ hq => hs.out p q hap hpq (by omega), fun q h1 h2 => by omega⟩⟩ ?_; clear sl9; rintro kJ s8 w9 ⟨j, d2, rfl, sl9, e0, e1, e2, e3, e8, hb10, mg', hja, hji, hP, hI⟩; replace sl0 := e0.trans sl0; clear e0; replace sl1 := e1.trans sl1; clear e1
  replace sl2 := e2.trans sl2; clear e2; replace sl3 := e3.trans sl3; clear e3; replace sl8 := e8.trans sl8; clear e8; have hoJ := hb10; clear qg qO; replace kg := mg'; replace kO := kO.oldB hb10 (by first | (simp; done) | (simp; omega)); replace HL5 := hid (HL5.out.more hb10 (by simp; try omega)); replace HB := hid (HB.out.more hb10 (by simp; try omega)); clear hb10; have qg := kg.1; have qO := kO.1; clear mg'; have HoJ := hid hoJ; clear hoJ; have hz2 : d2.size = d.size := hP.out.1; have Hz2 := hid hz2
  have hb2 : b ≤ d2.size := by omega
  have hz3 : d2.size ≤ 1000 := by omega
  have hz4 : (d2.size : Int) = d.size := by omega
  have Hz4 := hid hz4; clear hz2 hz4; have HL11 := HoJ; clear HoJ
  repeat ((fail_if_success refine stp ?_); with_reducible go_step)
  rcases Nat.lt_or_ge a j with hj | hj
  ·skip
   obtain ⟨m, rfl⟩ : ∃ m, j = m + 1 := ⟨j - 1, by omega⟩; obtain ⟨x, hx, x0, x1, x2⟩ := fl_el kg (d := d2) (i := m + 1) (by omega); obtain ⟨y, hy, y0, y1, y2⟩ := fl_el kg (d := d2) (i := m) (by omega)
   have hkx : hourOk x := by have := allH_perm hb hP.out hA.out (m + 1) (by omega); rwa [hx.out] at this
   have hky : hourOk y := by have := allH_perm hb hP.out hA.out (m) (by omega); rwa [hy.out] at this
   have w1 : IntKind.i64.wrap ((m : Int) + 1 - 1) = (m : Int) + 1 - 1 := IntWalk.i64_in _ (by omega)
   have e1 : (m : Int) + 1 - 1 = m := by omega
   have e2 : ((m : Int) + 1).toNat = m + 1 := by omega
   have b1 : (m : Int) + 1 < d.size := by have := Hz4.out; omega
   have b2 : (m : Int) < d.size := by have := Hz4.out; omega
   have b3 : (a : Int) < (m : Int) + 1 := by omega
   obtain ⟨x3, x4⟩ := hkx; obtain ⟨y3, y4⟩ := hky; have w2 : IntKind.i64.wrap (x.hour - y.hour) = x.hour - y.hour := IntWalk.i64_in _ (by omega); have w3 : IntKind.i64.wrap ((m : Int)) = (m : Int) := IntWalk.i64_in _ (by omega); have cO_0 := kO.cell 0 rfl; refine regionQ_F (Below w9.heap.size w9) (by kernel_rfl) (by kernel_rfl) (Below.refl _ _).drew ?_
   iterate 4 refine lq ?_
   iterate 10 refine lqy ?_
   refine listQ_yes (v := ?_) rfl rfl (by decide) ?_ ?_ ?_; rotate_left; (focus (go_simp; done))
   · focus (intro wq hwq; obtain ⟨hcq, hfq⟩ := bcell hwq; go_simp; have hQ := callQ (cmp_any x y O _ (kO.at hwq) ⟨x3, x4⟩ ⟨y3, y4⟩) hwq; exact hQ)
   refine lqy ?_; refine lq ?_; refine listQ_nil ?_; intro w12 hb13; clear cO_0; clear qg qO; replace kg := kg.at hb13; replace kO := kO.at hb13; replace HL5 := hid (HL5.out.below hb13); replace HL11 := hid (HL11.out.below hb13); replace HB := hid (HB.out.below hb13); clear hb13; have qg := kg.1; have qO := kO.1
   repeat ((fail_if_success refine stp ?_); with_reducible go_step)
   refine wp_abs (fun s14 z' => ?_); replace sl0 := gs 0 z' sl0; replace sl1 := gs 1 z' sl1; replace sl2 := gs 2 z' sl2; replace sl3 := gs 3 z' sl3; replace sl8 := gs 8 z' sl8; replace sl9 := gs 9 z' sl9; have sl22 := gu 22 z'; have sl23 := gu 23 z'; have sl24 := gu 24 z'; have sl25 := gu 25 z'; have sl26 := gu 26 z'; have sl27 := gu 27 z'; have sl28 := gu 28 z'; have sl29 := gu 29 z'; have sl30 := gu 30 z'; have sl31 := gu 31 z'; have sl32 := gu 32 z'; have sl33 := gu 33 z'; have sl34 := gu 34 z'; clear z'
   refine cond_E sl34 (by decide) ?_ ?_ <;> (clear sl34; intro h34 sl34)
   ·skip
    have h34' : x.hour - y.hour < 0 := by simpa using h34
    have hlt2 : ltH d2[m + 1]! d2[m]! = true := by rw [hx.out, hy.out]; exact ltH_t h34'
    have Hlt2 := hid hlt2; clear hlt2; have hlt2 := Hlt2.out
    have hi_ : m + 1 < d2.size := by omega
    have hj_ : m < d2.size := by omega
    repeat ((fail_if_success refine stp ?_); with_reducible go_step)
    have cO_0 := kO.cell 0 rfl
    have nO_g : ¬ O = g := by omega
    refine regionR_F [g] [(fl d2)] [18] [.q [], .q [], .q [], .q [], .q [], .q [], .q [], .q [], .q [], .q [18], .q [], .q [], .q [], .q [18], .q [], .st 18] [?v6_0, ?v6_1, ?v6_2, ?v6_3, ?v6_4, ?v6_5, ?v6_6, ?v6_7, ?v6_8, ?v6_9, ?v6_10, ?v6_11, ?v6_12, ?v6_13, ?v6_14, fun _ => undef] [fun _ => [], fun _ => [], fun _ => [], fun _ => [], fun _ => [], fun _ => [], fun _ => [], fun _ => [], fun _ => [], fun _ => [], fun _ => [], fun _ => [], fun _ => [], fun _ => [], fun _ => [], ?c6_15] (by kernel_rfl) (by kernel_rfl) (by kernel_rfl) (by kernel_rfl) (by kernel_rfl) (by first | exact List.nodup_nil | exact List.nodup_singleton _ | (simp; done) | (simp; omega)) (bc_cons (by repeat (first | (with_reducible exact kg) | (with_reducible refine Cells.drew ?_) | (with_reducible refine Cells.up ?_ _) | (with_reducible refine Cells.setFar ?_ (by omega)))) bc_nil) ?walk6 ?dep6
    case walk6 =>
     iterate 9 refine rq ?_
     refine walkR_q (by rfl) (fun X hX wq hwq hrq => ?_) ?_
     · obtain ⟨hcq, hfq⟩ := hwq.b1
       have kq18 := hrq 18 (by simp); rw [show X 18 = g from hX.at0 0 _ rfl] at kq18; replace kq18 : Cells wq g ((fl d2)) := kq18; have kqs18 := kq18.1; obtain ⟨f0, f1, f2⟩ := fl_is kq18 hi_ hx; obtain ⟨f3, f4, f5⟩ := fl_is kq18 hj_ hy; clear hrq; go_simp
       (first | rfl | exact ⟨rfl, rfl⟩ | (refine ⟨?_, ?_⟩ <;> rfl))
     iterate 3 refine rq ?_
     refine walkR_q (by rfl) (fun X hX wq hwq hrq => ?_) ?_
     · obtain ⟨hcq, hfq⟩ := hwq.b1
       have kq18 := hrq 18 (by simp); rw [show X 18 = g from hX.at0 0 _ rfl] at kq18; replace kq18 : Cells wq g ((fl d2)) := kq18; have kqs18 := kq18.1; obtain ⟨f0, f1, f2⟩ := fl_is kq18 hi_ hx; obtain ⟨f3, f4, f5⟩ := fl_is kq18 hj_ hy; clear hrq; go_simp
       (first | rfl | exact ⟨rfl, rfl⟩ | (refine ⟨?_, ?_⟩ <;> rfl))
     refine rq ?_; refine walkR_st (by rfl) (fun X hX wq hwq hkq => ?_) ?_
     · rw [show X 18 = g from hX.at0 0 _ rfl] at hkq ⊢
       replace hkq : Cells wq g ((fl d2)) := hkq; have hks := hkq.1; have hkz := hkq.2.2; obtain ⟨f0, f1, f2⟩ := fl_is hkq hi_ hx; go_simp
       (first | ((with_reducible refine writeB_mk (Cells.set (Cells.set (Cells.set hkq))) ?_ ?_); (focus (repeat (first | (with_reducible exact Only.refl _ _) | (with_reducible refine Only.set ?_)))); rfl))
     refine walkR_nil (fun X hX w15 hwz hcz => ?_); have kz0 := hcz 18 (by simp); rw [show X 18 = g from hX.at0 0 _ rfl] at kz0
     simp only [updC_some, updC_none, Nat.reduceEqDiff, ↓reduceIte] at kz0
     clear hX hcz
     (try clear X)
     clear nO_g; have hb16 := hwz.unDrew; clear hwz
     (try simp only [vC, List.set_cons_zero, List.set_cons_succ] at kz0)
     clear cO_0; clear qg qO; replace kg := kz0; replace kO := kO.oldB hb16 (by first | (simp; done) | (simp; omega)); replace HL5 := hid (HL5.out.more hb16 (by simp; try omega)); replace HL11 := hid (HL11.out.more hb16 (by simp; try omega)); replace HB := hid (HB.out.more hb16 (by simp; try omega)); clear hb16; have qg := kg.1; have qO := kO.1; clear kz0; rw [fl_set _ hi_] at kg; refine pl ?_; have zg := kg.2.2; obtain ⟨f3, f4, f5⟩ := fl_get kg (i := m) (by simpa using hj_); refine pl ?_; refine listF_absw ?_; intro w17 hw'; have kg' := cells_of hw' (Cells.set (Cells.set (Cells.set (kg)))); rw [fl_set _ (by simpa using hj_)] at kg'; replace kg' := fl_swap hx hy kg'; have hb18 : OldB [g] w15 w17 := oldset hw'; clear hw'; clear zg; clear qg qO; replace kg := kg'; replace kO := kO.oldB hb18 (by first | (simp; done) | (simp; omega)); replace HL5 := hid (HL5.out.more hb18 (by simp; try omega)); replace HL11 := hid (HL11.out.more hb18 (by simp; try omega))
     replace HB := hid (HB.out.more hb18 (by simp; try omega)); clear hb18; have qg := kg.1; have qO := kO.1; clear kg'; refine listF_abs (fun s19 z' => ?_); replace sl0 := gs 0 z' sl0; replace sl1 := gs 1 z' sl1; replace sl2 := gs 2 z' sl2; replace sl3 := gs 3 z' sl3; replace sl8 := gs 8 z' sl8; replace sl9 := gs 9 z' sl9; replace sl22 := gs 22 z' sl22; replace sl23 := gs 23 z' sl23; replace sl24 := gs 24 z' sl24; replace sl25 := gs 25 z' sl25; replace sl26 := gs 26 z' sl26; replace sl27 := gs 27 z' sl27; replace sl28 := gs 28 z' sl28; replace sl29 := gs 29 z' sl29; replace sl30 := gs 30 z' sl30; replace sl31 := gs 31 z' sl31; replace sl32 := gs 32 z' sl32; replace sl33 := gs 33 z' sl33; clear z' sl34; refine listF_nil ?_
     repeat ((fail_if_success refine stp ?_); with_reducible go_step)
     refine region_F ?_
     iterate 3 refine pl ?_
     refine listF_abs (fun s20 z' => ?_); replace sl0 := gs 0 z' sl0; replace sl1 := gs 1 z' sl1; replace sl2 := gs 2 z' sl2; replace sl3 := gs 3 z' sl3; replace sl8 := gs 8 z' sl8; replace sl9 := gu 9 z'; replace sl22 := gs 22 z' sl22; replace sl23 := gs 23 z' sl23; replace sl24 := gs 24 z' sl24; replace sl25 := gs 25 z' sl25; replace sl26 := gs 26 z' sl26; replace sl27 := gs 27 z' sl27; replace sl28 := gs 28 z' sl28; replace sl29 := gs 29 z' sl29; replace sl30 := gs 30 z' sl30; replace sl31 := gs 31 z' sl31; replace sl32 := gs 32 z' sl32; replace sl33 := gs 33 z' sl33; clear z'; refine listF_nil ?_
     repeat ((fail_if_success refine stp ?_); with_reducible go_step)
     refine ⟨_, _, rfl, ?_, m, swp d2 (m + 1) m, rfl, (by first | (with_reducible exact sl9) | (rw [sl9]; (with_reducible go_num); done) | (rw [sl9, IntWalk.i64_in] <;> first | ((with_reducible go_num); done) | omega) | (rw [sl9]; go_num; done) | (rw [sl9]; simp; done) | (rw [sl9]; simp; omega)), (sl0.trans hc1_0.out.symm), (sl1.trans hc1_1.out.symm), (sl2.trans hc1_2.out.symm), (sl3.trans hc1_3.out.symm), (sl8.trans hc1_8.out.symm), HL11.out, (by first | (with_reducible exact kg) | (apply Cells.conv; (focus (exact kg)); (first | rfl | (simp; done)))), by omega, by omega, hid (permIn_trans _ _ _ _ _ hP.out (swp_permIn d2 a b (m + 1) m (by omega) (by omega) (by omega) (by omega) (by omega))), hid (hI.out.step hlt2 (by omega) (by omega))⟩
     omega
    case dep6 =>
      iterate 16 refine dR ?_
      exact depR_nil
   ·skip
    have h34' : ¬ x.hour - y.hour < 0 := by simpa using h34
    have hge2 : ltH d2[m + 1]! d2[m]! = false := by rw [hx.out, hy.out]; exact ltH_f h34'
    have Hs2 := hid (hI.out.stop ltH_swo (.inr (by simpa using hge2))); clear hge2; have hP := hP
    repeat ((fail_if_success refine stp ?_); with_reducible go_step)
    clear HL11; clear hc1_0 hc1_1 hc1_2 hc1_3 hc1_8; refine region_F ?_
    iterate 3 refine pl ?_
    refine listF_abs (fun s21 z' => ?_); replace sl0 := gs 0 z' sl0; replace sl1 := gs 1 z' sl1; replace sl2 := gs 2 z' sl2; replace sl3 := gs 3 z' sl3; replace sl8 := gu 8 z'; replace sl22 := gs 22 z' sl22; replace sl23 := gs 23 z' sl23; replace sl24 := gs 24 z' sl24; replace sl25 := gs 25 z' sl25; replace sl26 := gs 26 z' sl26; replace sl27 := gs 27 z' sl27; replace sl28 := gs 28 z' sl28; replace sl29 := gs 29 z' sl29; replace sl30 := gs 30 z' sl30; replace sl31 := gs 31 z' sl31; replace sl32 := gs 32 z' sl32; replace sl33 := gs 33 z' sl33; clear z' sl9 sl34; refine listF_nil ?_
    repeat ((fail_if_success refine stp ?_); with_reducible go_step)
    refine ⟨_, _, rfl, ?_, i + 1, d2, rfl, (by first | (with_reducible exact sl8) | (rw [sl8]; (with_reducible go_num); done) | (rw [sl8, IntWalk.i64_in] <;> first | ((with_reducible go_num); done) | omega) | (rw [sl8]; go_num; done) | (rw [sl8]; simp; done) | (rw [sl8]; simp; omega)), (sl0.trans hc0_0.out.symm), (sl1.trans hc0_1.out.symm), (sl2.trans hc0_2.out.symm), (sl3.trans hc0_3.out.symm), HL5.out, (by first | (with_reducible exact kg) | (apply Cells.conv; (focus (exact kg)); (first | rfl | (simp; done)))), by omega, by omega, hP, Hs2⟩
    omega
  ·skip
   have hj' : ¬ (a : Int) < (j : Int) := by omega
   have Hs2 := hid (hI.out.stop ltH_swo (.inl hj)); have cO_0 := kO.cell 0 rfl; refine regionQ_F (Below w9.heap.size w9) (by kernel_rfl) (by kernel_rfl) (Below.refl _ _).drew ?_
   iterate 4 refine lq ?_
   refine lqn false ?_
   refine lqn false ?_
   refine lqn false ?_
   refine lqn false ?_
   refine lqn false ?_
   refine lqn false ?_
   refine lqn false ?_
   refine lqn false ?_
   refine lqn false ?_
   refine lqn false ?_; refine lqn false ?_; refine lqn false ?_; refine lq ?_; refine listQ_nil ?_; intro w22 hb23; clear cO_0; clear qg qO; replace kg := kg.at hb23; replace kO := kO.at hb23; replace HL5 := hid (HL5.out.below hb23); replace HL11 := hid (HL11.out.below hb23); replace HB := hid (HB.out.below hb23); clear hb23; have qg := kg.1; have qO := kO.1
   repeat ((fail_if_success refine stp ?_); with_reducible go_step)
   refine wp_abs (fun s24 z' => ?_); replace sl0 := gs 0 z' sl0; replace sl1 := gs 1 z' sl1; replace sl2 := gs 2 z' sl2; replace sl3 := gs 3 z' sl3; replace sl8 := gs 8 z' sl8; replace sl9 := gs 9 z' sl9; have sl34 := gu 34 z'; clear z'; refine cond_f ?_
   repeat ((fail_if_success refine stp ?_); with_reducible go_step)
   clear HL11; clear hc1_0 hc1_1 hc1_2 hc1_3 hc1_8; refine region_F ?_
   iterate 3 refine pl ?_
   refine listF_abs (fun s25 z' => ?_); replace sl0 := gs 0 z' sl0; replace sl1 := gs 1 z' sl1; replace sl2 := gs 2 z' sl2; replace sl3 := gs 3 z' sl3; replace sl8 := gu 8 z'; clear z' sl9 sl34; refine listF_nil ?_
   repeat ((fail_if_success refine stp ?_); with_reducible go_step)
   refine ⟨_, _, rfl, ?_, i + 1, d2, rfl, (by first | (with_reducible exact sl8) | (rw [sl8]; (with_reducible go_num); done) | (rw [sl8, IntWalk.i64_in] <;> first | ((with_reducible go_num); done) | omega) | (rw [sl8]; go_num; done) | (rw [sl8]; simp; done) | (rw [sl8]; simp; omega)), (sl0.trans hc0_0.out.symm), (sl1.trans hc0_1.out.symm), (sl2.trans hc0_2.out.symm), (sl3.trans hc0_3.out.symm), HL5.out, (by first | (with_reducible exact kg) | (apply Cells.conv; (focus (exact kg)); (first | rfl | (simp; done)))), by omega, by omega, hP, Hs2⟩
   omega
 ·skip
  have hge : ¬ i < b := by simpa using h14
  have Hs := hid (sorted_mono hs.out (show b ≤ i by omega))
  repeat ((fail_if_success refine stp ?_); with_reducible go_step)
  clear HL5; clear hc0_0 hc0_1 hc0_2 hc0_3; refine norm_F _ (res_none Try.results89) ?_; exact ⟨rfl, d1, kg, ⟨hP0.out, Hs.out⟩, HB.out⟩
end

section
open Go.RowKit

open Go.Sort
/-- what is known of shorter merges -/
def SymIH (K : Nat) : Prop := ∀ (g cap O N : Nat) (d : Array MCk) (hN : d.size = N) (a m b : Nat) (w : World) (hg : Cells w g (fl d)) (hO : Cells w O [.func (.func 73) #[] #[]]) (hOg : ¬ O = g) (hsz : d.size ≤ 1000) (ham : a < m) (hmb : m < b) (hb : b ≤ d.size) (hs1 : SortedIn ltH a m d) (hs2 : SortedIn ltH m b d) (hA : AllH d), b - a < K → Calls Try.prog 90 #[.slice (some ⟨g, 0, none⟩) N cap, .int .i64 (a : Int), .int .i64 (m : Int), .int .i64 (b : Int), .func (.func 85) #[] #[.pointer (some ⟨O, 0, none⟩)]] w (SortRes g w (fun d' => PermIn a b d d' ∧ SortedIn ltH a b d'))

def LoHi (a m b mid lo hi : Nat) : Prop := lo ≤ hi ∧ a ≤ lo ∧ hi ≤ m ∧ hi ≤ mid ∧ mid + m ≤ b + lo ∧ (lo = a ∨ mid + m = b + lo) ∧ (hi = m ∨ hi = mid)
theorem sorted_keep {a mid x y : Nat} {d1 d2 : Array MCk} (h : SortedIn ltH x y d1) (hp : PermIn a mid d1 d2) (hx : mid ≤ x) : SortedIn ltH x y d2 := by
  intro i j h1 h2 h3; rw [hp.2.1 i (.inr (by omega)), hp.2.1 j (.inr (by omega))]; exact h i j h1 h2 h3
theorem u64_in (n : Int) (h : 0 ≤ n ∧ n ≤ 9223372036854775807) : IntKind.u64.wrap n = n := by rw [IntKind.wrap_u64]; omega

set_option maxRecDepth 100000 in
set_option maxHeartbeats 8000000 in
theorem sym_a (g cap O N : Nat) (d : Array MCk) (hN : d.size = N) (a m b : Nat) (w : World) (hg : Cells w g (fl d)) (hO : Cells w O [.func (.func 73) #[] #[]]) (hOg : ¬ O = g) (hsz : d.size ≤ 1000) (ham : a < m) (hmb : m < b) (hb : b ≤ d.size) (hs1 : SortedIn ltH a m d) (hs2 : SortedIn ltH m b d) (hA : AllH d) (ih : SymIH (b - a)) (hm1 : m = a + 1) :
    Calls Try.prog 90 #[.slice (some ⟨g, 0, none⟩) N cap, .int .i64 (a : Int), .int .i64 (m : Int), .int .i64 (b : Int), .func (.func 85) #[] #[.pointer (some ⟨O, 0, none⟩)]] w (SortRes g w (fun d' => PermIn a b d d' ∧ SortedIn ltH a b d')) := by
 obtain rfl := hN; have Ih := hid ih; have HA := hid hA; have Hs1 := hid hs1; have Hs2 := hid hs2; clear ih hA hs1 hs2
 have hc28 : (((m - a : Nat) : Int) == 1) = true := by simp; omega
 have H28 := hid hm1; clear hm1; have kg := hg; have kO := hO
 refine enter_F Try.func90 rfl Try.ntmps90 (by simp) ?_
 intro s0 hs; have sl0 : s0 0 = .slice (some ⟨g, 0, none⟩) d.size cap := hs 0 (by simp); have sl1 : s0 1 = .int .i64 (a : Int) := hs 1 (by simp); have sl2 : s0 2 = .int .i64 (m : Int) := hs 2 (by simp); have sl3 : s0 3 = .int .i64 (b : Int) := hs 3 (by simp); have sl4 : s0 4 = .func (.func 85) #[] #[.pointer (some ⟨O, 0, none⟩)] := hs 4 (by simp); clear hs; have HB := hid (OldB.refl [g] w); have qg := kg.1; have qO := kO.1
 repeat ((fail_if_success refine stp ?_); with_reducible go_step)
 refine region_F ?_; refine pl ?_; refine pl ?_
 have ema : (m : Int) - (a : Int) = ((m - a : Nat) : Int) := by omega
 have wema : IntKind.i64.wrap ((m : Int) - (a : Int)) = ((m - a : Nat) : Int) := by rw [IntWalk.i64_in _ (by omega)]; omega
 have vema : IntKind.i64.wrap ((m - a : Nat) : Int) = ((m - a : Nat) : Int) := IntWalk.i64_in _ (by omega); refine pl ?_; refine pl ?_; refine listF_abs (fun s1 z' => ?_); replace sl0 := gs 0 z' sl0; replace sl1 := gs 1 z' sl1; replace sl2 := gs 2 z' sl2; replace sl3 := gs 3 z' sl3; replace sl4 := gs 4 z' sl4; have sl28 := gu 28 z'; clear z'; refine listF_nil ?_
 repeat ((fail_if_success refine stp ?_); with_reducible go_step)
 refine cond_t ?_
 repeat ((fail_if_success refine stp ?_); with_reducible go_step)
 refine region_F ?_; refine pl ?_; refine pl ?_; refine listF_abs (fun s2 z' => ?_); replace sl0 := gs 0 z' sl0; replace sl1 := gs 1 z' sl1; replace sl3 := gs 3 z' sl3; replace sl4 := gs 4 z' sl4; have sl10 := gu 10 z'; clear z' sl2 sl28; refine listF_nil ?_
 repeat ((fail_if_success refine stp ?_); with_reducible go_step)
 refine region_F ?_; refine pl ?_; refine pl ?_; refine listF_abs (fun s3 z' => ?_); replace sl0 := gs 0 z' sl0; replace sl1 := gs 1 z' sl1; replace sl4 := gs 4 z' sl4; replace sl10 := gs 10 z' sl10; have sl11 := gu 11 z'; clear z' sl3; refine listF_nil ?_
 repeat ((fail_if_success refine stp ?_); with_reducible go_step)
 have hc0_0 := hid sl0; have hc0_1 := hid sl1; have hc0_4 := hid sl4; refine loop_F (n := 220) (fun kJ sJ wJ => ∃ (i j : Nat), kJ = j - i ∧ sJ 10 = .int .i64 (i : Int) ∧ sJ 11 = .int .i64 (j : Int) ∧ sJ 0 = s3 0 ∧ sJ 1 = s3 1 ∧ sJ 4 = s3 4 ∧ OldB [] w wJ ∧ m ≤ i ∧ i ≤ j ∧ j ≤ b ∧ (Hid (m < i → hr d (i - 1) ≤ hr d a)) ∧ (Hid (j < b → hr d a ≤ hr d j))) ⟨m, b, rfl, (by first | exact sl10 | (rw [sl10]; go_num) | (rw [sl10]; rfl)), (by first | exact sl11 | (rw [sl11]; go_num) | (rw [sl11]; rfl)), rfl, rfl, rfl, OldB.refl _ _, Nat.le_refl _, by omega, Nat.le_refl _, hid (fun h => by omega), hid (fun h => by omega)⟩ ?_; clear sl10 sl11; rintro kJ s4 w5 ⟨i, j, rfl, sl10, sl11, e0, e1, e4, hb6, hmi, hij, hjb, hl, hg2⟩; replace sl0 := e0.trans sl0; clear e0; replace sl1 := e1.trans sl1; clear e1; replace sl4 := e4.trans sl4; clear e4; have hoJ := hb6; clear qg qO; replace kg := kg.oldB hb6 (by first | (simp; done) | (simp; omega))
 replace kO := kO.oldB hb6 (by first | (simp; done) | (simp; omega)); replace HB := hid (HB.out.more hb6 (by simp; try omega)); clear hb6; have qg := kg.1; have qO := kO.1; have HoJ := hid hoJ; clear hoJ; have HL7 := HoJ; clear HoJ
 repeat ((fail_if_success refine stp ?_); with_reducible go_step)
 refine region_F ?_
 iterate 3 refine pl ?_
 refine listF_abs (fun s8 z' => ?_); replace sl0 := gs 0 z' sl0; replace sl1 := gs 1 z' sl1; replace sl4 := gs 4 z' sl4; replace sl10 := gs 10 z' sl10; replace sl11 := gs 11 z' sl11; have sl33 := gu 33 z'; clear z'; refine listF_nil ?_
 repeat ((fail_if_success refine stp ?_); with_reducible go_step)
 refine cond_E sl33 (by decide) ?_ ?_ <;> (clear sl33; intro h33 sl33)
 ·skip
  have hlt : i < j := by simpa using h33
  repeat ((fail_if_success refine stp ?_); with_reducible go_step)
  refine region_F ?_; refine pl ?_; refine pl ?_; have wij : IntKind.i64.wrap ((i : Int) + (j : Int)) = (i : Int) + (j : Int) := IntWalk.i64_in _ (by omega); refine pl ?_; obtain ⟨q, hq1, hq2⟩ : ∃ q : Nat, 2 * q ≤ i + j ∧ i + j < 2 * q + 2 := ⟨(i + j) / 2, by omega, by omega⟩; have wu : IntKind.u64.wrap ((i : Int) + (j : Int)) = (i : Int) + (j : Int) := u64_in _ (by omega)
  have hqe : ((i : Int) + (j : Int)) / 2 = (q : Int) := by omega
  have wq : IntKind.i64.wrap ((q : Int)) = (q : Int) := IntWalk.i64_in _ (by omega)
  iterate 4 refine pl ?_
  refine listF_abs (fun s9 z' => ?_); replace sl0 := gs 0 z' sl0; replace sl1 := gs 1 z' sl1; replace sl4 := gs 4 z' sl4; replace sl10 := gs 10 z' sl10; replace sl11 := gs 11 z' sl11; have sl12 := gu 12 z'; clear z' sl33; refine listF_nil ?_
  repeat ((fail_if_success refine stp ?_); with_reducible go_step)
  obtain ⟨x, hx, x0, x1, x2⟩ := fl_el kg (d := d) (i := q) (by omega); obtain ⟨y, hy, y0, y1, y2⟩ := fl_el kg (d := d) (i := a) (by omega)
  have hkx : hourOk x := by have := HA.out (q) (by omega); rwa [hx.out] at this
  obtain ⟨x3, x4⟩ := hkx
  have hky : hourOk y := by have := HA.out (a) (by omega); rwa [hy.out] at this
  obtain ⟨y3, y4⟩ := hky; have wxy : IntKind.i64.wrap (x.hour - y.hour) = x.hour - y.hour := IntWalk.i64_in _ (by omega)
  have bq : (q : Int) < d.size := by omega
  have ba : (a : Int) < d.size := by omega
  have wqq : IntKind.i64.wrap ((q : Int)) = (q : Int) := IntWalk.i64_in _ (by omega)
  ·skip
   have cO_0 := kO.cell 0 rfl; refine regionQ_F (Below w5.heap.size w5) (by kernel_rfl) (by kernel_rfl) (Below.refl _ _).drew ?_
   iterate 9 refine lq ?_
   refine listQ_step (v := ?_) rfl ?_ ?_; rotate_left
   · focus (intro wq hwq; obtain ⟨hcq, hfq⟩ := bcell hwq; go_simp; have hQ := callQ (cmp_any x y O _ (kO.at hwq) ⟨x3, x4⟩ ⟨y3, y4⟩) hwq; exact hQ)
   refine lq ?_; refine listQ_nil ?_; intro w10 hb11; clear cO_0; clear qg qO; replace kg := kg.at hb11; replace kO := kO.at hb11; replace HL7 := hid (HL7.out.below hb11); replace HB := hid (HB.out.below hb11); clear hb11; have qg := kg.1; have qO := kO.1
   repeat ((fail_if_success refine stp ?_); with_reducible go_step)
   refine wp_abs (fun s12 z' => ?_); replace sl0 := gs 0 z' sl0; replace sl1 := gs 1 z' sl1; replace sl4 := gs 4 z' sl4; replace sl10 := gs 10 z' sl10; replace sl11 := gs 11 z' sl11; replace sl12 := gs 12 z' sl12; have sl50 := gu 50 z'; clear z'
   refine cond_E sl50 (by decide) ?_ ?_ <;> (clear sl50; intro h50 sl50)
   ·skip
    have h50' : x.hour - y.hour < 0 := by simpa using h50
    repeat ((fail_if_success refine stp ?_); with_reducible go_step)
    refine region_F ?_
    iterate 3 refine pl ?_
    refine listF_abs (fun s13 z' => ?_); replace sl0 := gs 0 z' sl0; replace sl1 := gs 1 z' sl1; replace sl4 := gs 4 z' sl4; replace sl10 := gu 10 z'; replace sl11 := gs 11 z' sl11; clear z' sl12 sl50; refine listF_nil ?_
    repeat ((fail_if_success refine stp ?_); with_reducible go_step)
    refine ⟨_, _, rfl, ?_, q + 1, j, rfl, (by first | (with_reducible exact sl10) | (rw [sl10]; (with_reducible go_num); done) | (rw [sl10, IntWalk.i64_in] <;> first | ((with_reducible go_num); done) | omega) | (rw [sl10]; go_num; done) | (rw [sl10]; simp; done) | (rw [sl10]; simp; omega)), (by first | (with_reducible exact sl11) | (rw [sl11]; (with_reducible go_num); done) | (rw [sl11, IntWalk.i64_in] <;> first | ((with_reducible go_num); done) | omega) | (rw [sl11]; go_num; done) | (rw [sl11]; simp; done) | (rw [sl11]; simp; omega)), (sl0.trans hc0_0.out.symm), (sl1.trans hc0_1.out.symm), (sl4.trans hc0_4.out.symm), HL7.out, by omega, by omega, by omega, hid (fun _ => by unfold hr; rw [Nat.add_sub_cancel, hx.out, hy.out]; omega), hg2⟩
    omega
   ·skip
    have h50' : ¬ x.hour - y.hour < 0 := by simpa using h50
    repeat ((fail_if_success refine stp ?_); with_reducible go_step)
    refine region_F ?_; refine pl ?_; refine pl ?_; refine listF_abs (fun s14 z' => ?_); replace sl0 := gs 0 z' sl0; replace sl1 := gs 1 z' sl1; replace sl4 := gs 4 z' sl4; replace sl10 := gs 10 z' sl10; replace sl11 := gu 11 z'; clear z' sl12 sl50; refine listF_nil ?_
    repeat ((fail_if_success refine stp ?_); with_reducible go_step)
    refine ⟨_, _, rfl, ?_, i, q, rfl, (by first | (with_reducible exact sl10) | (rw [sl10]; (with_reducible go_num); done) | (rw [sl10, IntWalk.i64_in] <;> first | ((with_reducible go_num); done) | omega) | (rw [sl10]; go_num; done) | (rw [sl10]; simp; done) | (rw [sl10]; simp; omega)), (by first | (with_reducible exact sl11) | (rw [sl11]; (with_reducible go_num); done) | (rw [sl11, IntWalk.i64_in] <;> first | ((with_reducible go_num); done) | omega) | (rw [sl11]; go_num; done) | (rw [sl11]; simp; done) | (rw [sl11]; simp; omega)), (sl0.trans hc0_0.out.symm), (sl1.trans hc0_1.out.symm), (sl4.trans hc0_4.out.symm), HL7.out, by omega, by omega, by omega, hl, hid (fun _ => by unfold hr; rw [hx.out, hy.out]; omega)⟩
    omega
 ·skip
  have h33' : ¬ i < j := by simpa using h33
  obtain rfl : i = j := by omega
  repeat ((fail_if_success refine stp ?_); with_reducible go_step)
  clear HL7; clear hc0_0 hc0_1 hc0_4; refine region_F ?_; refine pl ?_; refine pl ?_; refine listF_abs (fun s15 z' => ?_); replace sl0 := gs 0 z' sl0; replace sl10 := gs 10 z' sl10; have sl13 := gu 13 z'; clear z' sl1 sl4 sl11 sl33; refine listF_nil ?_
  repeat ((fail_if_success refine stp ?_); with_reducible go_step)
  have hc1_0 := hid sl0; have hc1_10 := hid sl10; refine loop_F (n := 220) (fun kJ sJ wJ => ∃ (k : Nat) (d1 : Array MCk), kJ = i - k ∧ sJ 13 = .int .i64 (k : Int) ∧ sJ 0 = s15 0 ∧ sJ 10 = s15 10 ∧ OldB [g] w5 wJ ∧ Cells wJ g (fl d1) ∧ a ≤ k ∧ k + 1 ≤ i ∧ Hid (Same d d1 (fun x => if a ≤ x ∧ x < k then x + 1 else if x = k then a else x)) ∧ Hid (PermIn a b d d1)) ⟨a, d, rfl, (by first | exact sl13 | (rw [sl13]; go_num) | (rw [sl13]; rfl)), rfl, rfl, OldB.refl _ _, (by first | (with_reducible exact kg) | (apply Cells.conv; (focus (exact kg)); (first | rfl | (simp; done)))), Nat.le_refl _, by omega, hid ((Same.refl d).to (fun x => by (repeat' split) <;> omega)), hid (permIn_refl d a b)⟩ ?_; clear sl13; rintro kJ s16 w17 ⟨k, d1, rfl, sl13, e0, e10, hb18, mg', hak, hki, hS, hP⟩; replace sl0 := e0.trans sl0; clear e0; replace sl10 := e10.trans sl10; clear e10; have hoJ := hb18; clear qg qO; replace kg := mg'; replace kO := kO.oldB hb18 (by first | (simp; done) | (simp; omega))
  replace HB := hid (HB.out.more hb18 (by simp; try omega)); clear hb18; have qg := kg.1; have qO := kO.1; clear mg'; have HoJ := hid hoJ; clear hoJ; have hz1 : d1.size = d.size := hP.out.1; have Hz1 := hid hz1
  have hb1 : b ≤ d1.size := by omega
  have hs1k : d1.size ≤ 1000 := by omega
  clear hz1; have HL19 := HoJ; clear HoJ
  repeat ((fail_if_success refine stp ?_); with_reducible go_step)
  refine region_F ?_; refine pl ?_; refine pl ?_
  have ei1 : (i : Int) - 1 = ((i - 1 : Nat) : Int) := by omega
  have wei1 : IntKind.i64.wrap ((i : Int) - 1) = ((i - 1 : Nat) : Int) := by rw [IntWalk.i64_in _ (by omega)]; omega
  have vei1 : IntKind.i64.wrap ((i - 1 : Nat) : Int) = ((i - 1 : Nat) : Int) := IntWalk.i64_in _ (by omega); refine pl ?_; refine pl ?_; refine listF_abs (fun s20 z' => ?_); replace sl0 := gs 0 z' sl0; replace sl10 := gs 10 z' sl10; replace sl13 := gs 13 z' sl13; have sl58 := gu 58 z'; clear z'; refine listF_nil ?_
  repeat ((fail_if_success refine stp ?_); with_reducible go_step)
  refine cond_E sl58 (by decide) ?_ ?_ <;> (clear sl58; intro h58 sl58)
  ·skip
   have hlt : k + 1 < i := by simp at h58; omega
   obtain ⟨x, hx, x0, x1, x2⟩ := fl_el kg (d := d1) (i := k) (by omega); obtain ⟨y, hy, y0, y1, y2⟩ := fl_el kg (d := d1) (i := k + 1) (by omega)
   have hi_ : k < d1.size := by omega
   have hj_ : k + 1 < d1.size := by omega
   have e2 : ((k : Int) + 1).toNat = k + 1 := by omega
   have b1 : (k : Int) + 1 < d.size := by omega
   have b2 : (k : Int) < d.size := by omega
   have w2 : IntKind.i64.wrap ((k : Int) + 1) = (k : Int) + 1 := IntWalk.i64_in _ (by omega); have w3 : IntKind.i64.wrap ((k : Int)) = (k : Int) := IntWalk.i64_in _ (by omega)
   repeat ((fail_if_success refine stp ?_); with_reducible go_step)
   have cO_0 := kO.cell 0 rfl
   have nO_g : ¬ O = g := by omega
   refine regionR_F [g] [(fl d1)] [18] [.q [], .q [], .q [], .q [], .q [], .q [], .q [], .q [], .q [], .q [18], .q [], .q [], .q [], .q [18], .q [], .st 18] [?v7_0, ?v7_1, ?v7_2, ?v7_3, ?v7_4, ?v7_5, ?v7_6, ?v7_7, ?v7_8, ?v7_9, ?v7_10, ?v7_11, ?v7_12, ?v7_13, ?v7_14, fun _ => undef] [fun _ => [], fun _ => [], fun _ => [], fun _ => [], fun _ => [], fun _ => [], fun _ => [], fun _ => [], fun _ => [], fun _ => [], fun _ => [], fun _ => [], fun _ => [], fun _ => [], fun _ => [], ?c7_15] (by kernel_rfl) (by kernel_rfl) (by kernel_rfl) (by kernel_rfl) (by kernel_rfl) (by first | exact List.nodup_nil | exact List.nodup_singleton _ | (simp; done) | (simp; omega)) (bc_cons (by repeat (first | (with_reducible exact kg) | (with_reducible refine Cells.drew ?_) | (with_reducible refine Cells.up ?_ _) | (with_reducible refine Cells.setFar ?_ (by omega)))) bc_nil) ?walk7 ?dep7
   case walk7 =>
    iterate 9 refine rq ?_
    refine walkR_q (by rfl) (fun X hX wq hwq hrq => ?_) ?_
    · obtain ⟨hcq, hfq⟩ := hwq.b1
      have kq18 := hrq 18 (by simp); rw [show X 18 = g from hX.at0 0 _ rfl] at kq18; replace kq18 : Cells wq g ((fl d1)) := kq18; have kqs18 := kq18.1; obtain ⟨f0, f1, f2⟩ := fl_is kq18 hi_ hx; obtain ⟨f3, f4, f5⟩ := fl_is kq18 hj_ hy; clear hrq; go_simp
      (first | rfl | exact ⟨rfl, rfl⟩ | (refine ⟨?_, ?_⟩ <;> rfl))
    iterate 3 refine rq ?_
    refine walkR_q (by rfl) (fun X hX wq hwq hrq => ?_) ?_
    · obtain ⟨hcq, hfq⟩ := hwq.b1
      have kq18 := hrq 18 (by simp); rw [show X 18 = g from hX.at0 0 _ rfl] at kq18; replace kq18 : Cells wq g ((fl d1)) := kq18; have kqs18 := kq18.1; obtain ⟨f0, f1, f2⟩ := fl_is kq18 hi_ hx; obtain ⟨f3, f4, f5⟩ := fl_is kq18 hj_ hy; clear hrq; go_simp
      (first | rfl | exact ⟨rfl, rfl⟩ | (refine ⟨?_, ?_⟩ <;> rfl))
    refine rq ?_; refine walkR_st (by rfl) (fun X hX wq hwq hkq => ?_) ?_
    · rw [show X 18 = g from hX.at0 0 _ rfl] at hkq ⊢
      replace hkq : Cells wq g ((fl d1)) := hkq; have hks := hkq.1; have hkz := hkq.2.2; obtain ⟨f0, f1, f2⟩ := fl_is hkq hi_ hx; go_simp
      (first | ((with_reducible refine writeB_mk (Cells.set (Cells.set (Cells.set hkq))) ?_ ?_); (focus (repeat (first | (with_reducible exact Only.refl _ _) | (with_reducible refine Only.set ?_)))); rfl))
    refine walkR_nil (fun X hX w21 hwz hcz => ?_); have kz0 := hcz 18 (by simp); rw [show X 18 = g from hX.at0 0 _ rfl] at kz0
    simp only [updC_some, updC_none, Nat.reduceEqDiff, ↓reduceIte] at kz0
    clear hX hcz
    (try clear X)
    clear nO_g; have hb22 := hwz.unDrew; clear hwz
    (try simp only [vC, List.set_cons_zero, List.set_cons_succ] at kz0)
    clear cO_0; clear qg qO; replace kg := kz0; replace kO := kO.oldB hb22 (by first | (simp; done) | (simp; omega)); replace HL19 := hid (HL19.out.more hb22 (by simp; try omega)); replace HB := hid (HB.out.more hb22 (by simp; try omega)); clear hb22; have qg := kg.1; have qO := kO.1; clear kz0; rw [fl_set _ hi_] at kg; refine pl ?_; have zg := kg.2.2; obtain ⟨f3, f4, f5⟩ := fl_get kg (i := k + 1) (by simpa using hj_); refine pl ?_; refine listF_absw ?_; intro w23 hw'; have kg' := cells_of hw' (Cells.set (Cells.set (Cells.set (kg)))); rw [fl_set _ (by simpa using hj_)] at kg'; replace kg' := fl_swap hx hy kg'; have hb24 : OldB [g] w21 w23 := oldset hw'; clear hw'; clear zg; clear qg qO; replace kg := kg'; replace kO := kO.oldB hb24 (by first | (simp; done) | (simp; omega)); replace HL19 := hid (HL19.out.more hb24 (by simp; try omega)); replace HB := hid (HB.out.more hb24 (by simp; try omega)); clear hb24; have qg := kg.1; have qO := kO.1; clear kg'; refine listF_abs (fun s25 z' => ?_)
    replace sl0 := gs 0 z' sl0; replace sl10 := gs 10 z' sl10; replace sl13 := gs 13 z' sl13; clear z' sl58; refine listF_nil ?_
    repeat ((fail_if_success refine stp ?_); with_reducible go_step)
    refine region_F ?_
    iterate 3 refine pl ?_
    refine listF_abs (fun s26 z' => ?_); replace sl0 := gs 0 z' sl0; replace sl10 := gs 10 z' sl10; replace sl13 := gu 13 z'; clear z'; refine listF_nil ?_
    repeat ((fail_if_success refine stp ?_); with_reducible go_step)
    refine ⟨_, _, rfl, ?_, k + 1, swp d1 k (k + 1), rfl, (by first | (with_reducible exact sl13) | (rw [sl13]; (with_reducible go_num); done) | (rw [sl13, IntWalk.i64_in] <;> first | ((with_reducible go_num); done) | omega) | (rw [sl13]; go_num; done) | (rw [sl13]; simp; done) | (rw [sl13]; simp; omega)), (sl0.trans hc1_0.out.symm), (sl10.trans hc1_10.out.symm), HL19.out, (by first | (with_reducible exact kg) | (apply Cells.conv; (focus (exact kg)); (first | rfl | (simp; done)))), by omega, by omega, hid (shl_step hS.out hak (by omega)), hid (permIn_trans _ _ _ _ _ hP.out (swp_permIn d1 a b k (k + 1) (by omega) (by omega) (by omega) (by omega) (by omega)))⟩
    omega
   case dep7 =>
     iterate 16 refine dR ?_
     exact depR_nil
  ·skip
   have hke : k + 1 = i := by simp at h58; omega
   have Hm := hid (merge_one_l (a := a) (b := b) (i := i) (by omega) (by omega) (by have := Hs2.out; rwa [H28.out] at this) (fun h => hl.out (by have := H28.out; omega)) hg2.out (hS.out.to (fun x => by (repeat' split) <;> omega)))
   repeat ((fail_if_success refine stp ?_); with_reducible go_step)
   clear HL19; clear hc1_0 hc1_10; refine ret_F _ (res_none Try.results90) ?_; exact ⟨rfl, d1, kg, ⟨hP.out, Hm.out⟩, HB.out⟩

set_option maxRecDepth 100000 in
set_option maxHeartbeats 8000000 in
theorem sym_b (g cap O N : Nat) (d : Array MCk) (hN : d.size = N) (a m b : Nat) (w : World) (hg : Cells w g (fl d)) (hO : Cells w O [.func (.func 73) #[] #[]]) (hOg : ¬ O = g) (hsz : d.size ≤ 1000) (ham : a < m) (hmb : m < b) (hb : b ≤ d.size) (hs1 : SortedIn ltH a m d) (hs2 : SortedIn ltH m b d) (hA : AllH d) (ih : SymIH (b - a)) (hm1 : ¬ m = a + 1) (hb1 : b = m + 1) :
    Calls Try.prog 90 #[.slice (some ⟨g, 0, none⟩) N cap, .int .i64 (a : Int), .int .i64 (m : Int), .int .i64 (b : Int), .func (.func 85) #[] #[.pointer (some ⟨O, 0, none⟩)]] w (SortRes g w (fun d' => PermIn a b d d' ∧ SortedIn ltH a b d')) := by
 obtain rfl := hN; have Ih := hid ih; have HA := hid hA; have Hs1 := hid hs1; have Hs2 := hid hs2; clear ih hA hs1 hs2
 have hc28 : (((m - a : Nat) : Int) == 1) = false := by simp; omega
 clear hm1
 have hc80 : (((b - m : Nat) : Int) == 1) = true := by simp; omega
 have H80 := hid hb1; clear hb1; have kg := hg; have kO := hO
 refine enter_F Try.func90 rfl Try.ntmps90 (by simp) ?_
 intro s0 hs; have sl0 : s0 0 = .slice (some ⟨g, 0, none⟩) d.size cap := hs 0 (by simp); have sl1 : s0 1 = .int .i64 (a : Int) := hs 1 (by simp); have sl2 : s0 2 = .int .i64 (m : Int) := hs 2 (by simp); have sl3 : s0 3 = .int .i64 (b : Int) := hs 3 (by simp); have sl4 : s0 4 = .func (.func 85) #[] #[.pointer (some ⟨O, 0, none⟩)] := hs 4 (by simp); clear hs; have HB := hid (OldB.refl [g] w); have qg := kg.1; have qO := kO.1
 repeat ((fail_if_success refine stp ?_); with_reducible go_step)
 refine region_F ?_; refine pl ?_; refine pl ?_
 have ema : (m : Int) - (a : Int) = ((m - a : Nat) : Int) := by omega
 have wema : IntKind.i64.wrap ((m : Int) - (a : Int)) = ((m - a : Nat) : Int) := by rw [IntWalk.i64_in _ (by omega)]; omega
 have vema : IntKind.i64.wrap ((m - a : Nat) : Int) = ((m - a : Nat) : Int) := IntWalk.i64_in _ (by omega); refine pl ?_; refine pl ?_; refine listF_abs (fun s1 z' => ?_); replace sl0 := gs 0 z' sl0; replace sl1 := gs 1 z' sl1; replace sl2 := gs 2 z' sl2; replace sl3 := gs 3 z' sl3; replace sl4 := gs 4 z' sl4; have sl28 := gu 28 z'; clear z'; refine listF_nil ?_
 repeat ((fail_if_success refine stp ?_); with_reducible go_step)
 refine cond_f ?_
 repeat ((fail_if_success refine stp ?_); with_reducible go_step)
 refine region_F ?_; refine pl ?_; refine pl ?_
 have ebm : (b : Int) - (m : Int) = ((b - m : Nat) : Int) := by omega
 have webm : IntKind.i64.wrap ((b : Int) - (m : Int)) = ((b - m : Nat) : Int) := by rw [IntWalk.i64_in _ (by omega)]; omega
 have vebm : IntKind.i64.wrap ((b - m : Nat) : Int) = ((b - m : Nat) : Int) := IntWalk.i64_in _ (by omega); refine pl ?_; refine pl ?_; refine listF_abs (fun s2 z' => ?_); replace sl0 := gs 0 z' sl0; replace sl1 := gs 1 z' sl1; replace sl2 := gs 2 z' sl2; replace sl3 := gs 3 z' sl3; replace sl4 := gs 4 z' sl4; have sl80 := gu 80 z'; clear z' sl28; refine listF_nil ?_
 repeat ((fail_if_success refine stp ?_); with_reducible go_step)
 refine cond_t ?_
 repeat ((fail_if_success refine stp ?_); with_reducible go_step)
 refine region_F ?_; refine pl ?_; refine pl ?_; refine listF_abs (fun s3 z' => ?_); replace sl0 := gs 0 z' sl0; replace sl2 := gs 2 z' sl2; replace sl4 := gs 4 z' sl4; have sl14 := gu 14 z'; clear z' sl1 sl3 sl80; refine listF_nil ?_
 repeat ((fail_if_success refine stp ?_); with_reducible go_step)
 refine region_F ?_; refine pl ?_; refine pl ?_; refine listF_abs (fun s4 z' => ?_); replace sl0 := gs 0 z' sl0; replace sl2 := gs 2 z' sl2; replace sl4 := gs 4 z' sl4; replace sl14 := gs 14 z' sl14; have sl15 := gu 15 z'; clear z'; refine listF_nil ?_
 repeat ((fail_if_success refine stp ?_); with_reducible go_step)
 have hc2_0 := hid sl0; have hc2_2 := hid sl2; have hc2_4 := hid sl4; refine loop_F (n := 220) (fun kJ sJ wJ => ∃ (i j : Nat), kJ = j - i ∧ sJ 14 = .int .i64 (i : Int) ∧ sJ 15 = .int .i64 (j : Int) ∧ sJ 0 = s4 0 ∧ sJ 2 = s4 2 ∧ sJ 4 = s4 4 ∧ OldB [] w wJ ∧ a ≤ i ∧ i ≤ j ∧ j ≤ m ∧ (Hid (a < i → hr d (i - 1) ≤ hr d m)) ∧ (Hid (j < m → hr d m ≤ hr d j))) ⟨a, m, rfl, (by first | exact sl14 | (rw [sl14]; go_num) | (rw [sl14]; rfl)), (by first | exact sl15 | (rw [sl15]; go_num) | (rw [sl15]; rfl)), rfl, rfl, rfl, OldB.refl _ _, Nat.le_refl _, by omega, Nat.le_refl _, hid (fun h => by omega), hid (fun h => by omega)⟩ ?_; clear sl14 sl15; rintro kJ s5 w6 ⟨i, j, rfl, sl14, sl15, e0, e2, e4, hb7, hai, hij, hjm, hl, hg2⟩; replace sl0 := e0.trans sl0; clear e0; replace sl2 := e2.trans sl2; clear e2; replace sl4 := e4.trans sl4; clear e4; have hoJ := hb7; clear qg qO; replace kg := kg.oldB hb7 (by first | (simp; done) | (simp; omega))
 replace kO := kO.oldB hb7 (by first | (simp; done) | (simp; omega)); replace HB := hid (HB.out.more hb7 (by simp; try omega)); clear hb7; have qg := kg.1; have qO := kO.1; have HoJ := hid hoJ; clear hoJ; have HL8 := HoJ; clear HoJ
 repeat ((fail_if_success refine stp ?_); with_reducible go_step)
 refine region_F ?_
 iterate 3 refine pl ?_
 refine listF_abs (fun s9 z' => ?_); replace sl0 := gs 0 z' sl0; replace sl2 := gs 2 z' sl2; replace sl4 := gs 4 z' sl4; replace sl14 := gs 14 z' sl14; replace sl15 := gs 15 z' sl15; have sl85 := gu 85 z'; clear z'; refine listF_nil ?_
 repeat ((fail_if_success refine stp ?_); with_reducible go_step)
 refine cond_E sl85 (by decide) ?_ ?_ <;> (clear sl85; intro h85 sl85)
 ·skip
  have hlt : i < j := by simpa using h85
  repeat ((fail_if_success refine stp ?_); with_reducible go_step)
  refine region_F ?_; refine pl ?_; refine pl ?_; have wij : IntKind.i64.wrap ((i : Int) + (j : Int)) = (i : Int) + (j : Int) := IntWalk.i64_in _ (by omega); refine pl ?_; obtain ⟨q, hq1, hq2⟩ : ∃ q : Nat, 2 * q ≤ i + j ∧ i + j < 2 * q + 2 := ⟨(i + j) / 2, by omega, by omega⟩; have wu : IntKind.u64.wrap ((i : Int) + (j : Int)) = (i : Int) + (j : Int) := u64_in _ (by omega)
  have hqe : ((i : Int) + (j : Int)) / 2 = (q : Int) := by omega
  have wq : IntKind.i64.wrap ((q : Int)) = (q : Int) := IntWalk.i64_in _ (by omega)
  iterate 4 refine pl ?_
  refine listF_abs (fun s10 z' => ?_); replace sl0 := gs 0 z' sl0; replace sl2 := gs 2 z' sl2; replace sl4 := gs 4 z' sl4; replace sl14 := gs 14 z' sl14; replace sl15 := gs 15 z' sl15; have sl16 := gu 16 z'; clear z' sl85; refine listF_nil ?_
  repeat ((fail_if_success refine stp ?_); with_reducible go_step)
  obtain ⟨x, hx, x0, x1, x2⟩ := fl_el kg (d := d) (i := m) (by omega); obtain ⟨y, hy, y0, y1, y2⟩ := fl_el kg (d := d) (i := q) (by omega)
  have hkx : hourOk x := by have := HA.out (m) (by omega); rwa [hx.out] at this
  obtain ⟨x3, x4⟩ := hkx
  have hky : hourOk y := by have := HA.out (q) (by omega); rwa [hy.out] at this
  obtain ⟨y3, y4⟩ := hky; have wxy : IntKind.i64.wrap (x.hour - y.hour) = x.hour - y.hour := IntWalk.i64_in _ (by omega)
  have bq : (q : Int) < d.size := by omega
  have bm : (m : Int) < d.size := by omega
  ·skip
   have cO_0 := kO.cell 0 rfl; refine regionQ_F (Below w6.heap.size w6) (by kernel_rfl) (by kernel_rfl) (Below.refl _ _).drew ?_
   iterate 9 refine lq ?_
   refine listQ_step (v := ?_) rfl ?_ ?_; rotate_left
   · focus (intro wq hwq; obtain ⟨hcq, hfq⟩ := bcell hwq; go_simp; have hQ := callQ (cmp_any x y O _ (kO.at hwq) ⟨x3, x4⟩ ⟨y3, y4⟩) hwq; exact hQ)
   refine lq ?_; refine lq ?_; refine listQ_nil ?_; intro w11 hb12; clear cO_0; clear qg qO; replace kg := kg.at hb12; replace kO := kO.at hb12; replace HL8 := hid (HL8.out.below hb12); replace HB := hid (HB.out.below hb12); clear hb12; have qg := kg.1; have qO := kO.1
   repeat ((fail_if_success refine stp ?_); with_reducible go_step)
   refine wp_abs (fun s13 z' => ?_); replace sl0 := gs 0 z' sl0; replace sl2 := gs 2 z' sl2; replace sl4 := gs 4 z' sl4; replace sl14 := gs 14 z' sl14; replace sl15 := gs 15 z' sl15; replace sl16 := gs 16 z' sl16; have sl103 := gu 103 z'; clear z'
   refine cond_E sl103 (by decide) ?_ ?_ <;> (clear sl103; intro h103 sl103)
   ·skip
    have h103' : ¬ x.hour - y.hour < 0 := by simpa using h103
    repeat ((fail_if_success refine stp ?_); with_reducible go_step)
    refine region_F ?_
    iterate 3 refine pl ?_
    refine listF_abs (fun s14 z' => ?_); replace sl0 := gs 0 z' sl0; replace sl2 := gs 2 z' sl2; replace sl4 := gs 4 z' sl4; replace sl14 := gu 14 z'; replace sl15 := gs 15 z' sl15; clear z' sl16 sl103; refine listF_nil ?_
    repeat ((fail_if_success refine stp ?_); with_reducible go_step)
    refine ⟨_, _, rfl, ?_, q + 1, j, rfl, (by first | (with_reducible exact sl14) | (rw [sl14]; (with_reducible go_num); done) | (rw [sl14, IntWalk.i64_in] <;> first | ((with_reducible go_num); done) | omega) | (rw [sl14]; go_num; done) | (rw [sl14]; simp; done) | (rw [sl14]; simp; omega)), (by first | (with_reducible exact sl15) | (rw [sl15]; (with_reducible go_num); done) | (rw [sl15, IntWalk.i64_in] <;> first | ((with_reducible go_num); done) | omega) | (rw [sl15]; go_num; done) | (rw [sl15]; simp; done) | (rw [sl15]; simp; omega)), (sl0.trans hc2_0.out.symm), (sl2.trans hc2_2.out.symm), (sl4.trans hc2_4.out.symm), HL8.out, by omega, by omega, by omega, hid (fun _ => by unfold hr; rw [Nat.add_sub_cancel, hx.out, hy.out]; omega), hg2⟩
    omega
   ·skip
    have h103' : x.hour - y.hour < 0 := by simpa using h103
    repeat ((fail_if_success refine stp ?_); with_reducible go_step)
    refine region_F ?_; refine pl ?_; refine pl ?_; refine listF_abs (fun s15 z' => ?_); replace sl0 := gs 0 z' sl0; replace sl2 := gs 2 z' sl2; replace sl4 := gs 4 z' sl4; replace sl14 := gs 14 z' sl14; replace sl15 := gu 15 z'; clear z' sl16 sl103; refine listF_nil ?_
    repeat ((fail_if_success refine stp ?_); with_reducible go_step)
    refine ⟨_, _, rfl, ?_, i, q, rfl, (by first | (with_reducible exact sl14) | (rw [sl14]; (with_reducible go_num); done) | (rw [sl14, IntWalk.i64_in] <;> first | ((with_reducible go_num); done) | omega) | (rw [sl14]; go_num; done) | (rw [sl14]; simp; done) | (rw [sl14]; simp; omega)), (by first | (with_reducible exact sl15) | (rw [sl15]; (with_reducible go_num); done) | (rw [sl15, IntWalk.i64_in] <;> first | ((with_reducible go_num); done) | omega) | (rw [sl15]; go_num; done) | (rw [sl15]; simp; done) | (rw [sl15]; simp; omega)), (sl0.trans hc2_0.out.symm), (sl2.trans hc2_2.out.symm), (sl4.trans hc2_4.out.symm), HL8.out, by omega, by omega, by omega, hl, hid (fun _ => by unfold hr; rw [hx.out, hy.out]; omega)⟩
    omega
 ·skip
  have h85' : ¬ i < j := by simpa using h85
  obtain rfl : i = j := by omega
  repeat ((fail_if_success refine stp ?_); with_reducible go_step)
  clear HL8; clear hc2_0 hc2_2 hc2_4; refine region_F ?_; refine pl ?_; refine pl ?_; refine listF_abs (fun s16 z' => ?_); replace sl0 := gs 0 z' sl0; replace sl14 := gs 14 z' sl14; have sl17 := gu 17 z'; clear z' sl2 sl4 sl15 sl85; refine listF_nil ?_
  repeat ((fail_if_success refine stp ?_); with_reducible go_step)
  have hc3_0 := hid sl0; have hc3_14 := hid sl14; refine loop_F (n := 220) (fun kJ sJ wJ => ∃ (k : Nat) (d1 : Array MCk), kJ = k + 1 ∧ sJ 17 = .int .i64 (k : Int) ∧ sJ 0 = s16 0 ∧ sJ 14 = s16 14 ∧ OldB [g] w6 wJ ∧ Cells wJ g (fl d1) ∧ i ≤ k ∧ k ≤ m ∧ Hid (Same d d1 (fun x => if x = k then m else if k < x ∧ x ≤ m then x - 1 else x)) ∧ Hid (PermIn a b d d1)) ⟨m, d, rfl, (by first | exact sl17 | (rw [sl17]; go_num) | (rw [sl17]; rfl)), rfl, rfl, OldB.refl _ _, (by first | (with_reducible exact kg) | (apply Cells.conv; (focus (exact kg)); (first | rfl | (simp; done)))), by omega, Nat.le_refl _, hid ((Same.refl d).to (fun x => by (repeat' split) <;> omega)), hid (permIn_refl d a b)⟩ ?_; clear sl17; rintro kJ s17 w18 ⟨k, d1, rfl, sl17, e0, e14, hb19, mg', hik, hkm, hS, hP⟩; replace sl0 := e0.trans sl0; clear e0; replace sl14 := e14.trans sl14; clear e14; have hoJ := hb19; clear qg qO; replace kg := mg'; replace kO := kO.oldB hb19 (by first | (simp; done) | (simp; omega))
  replace HB := hid (HB.out.more hb19 (by simp; try omega)); clear hb19; have qg := kg.1; have qO := kO.1; clear mg'; have HoJ := hid hoJ; clear hoJ; have hz1 : d1.size = d.size := hP.out.1; have Hz1 := hid hz1
  have hb1 : b ≤ d1.size := by omega
  have hs1k : d1.size ≤ 1000 := by omega
  clear hz1; have HL20 := HoJ; clear HoJ
  repeat ((fail_if_success refine stp ?_); with_reducible go_step)
  refine region_F ?_
  iterate 3 refine pl ?_
  refine listF_abs (fun s21 z' => ?_); replace sl0 := gs 0 z' sl0; replace sl14 := gs 14 z' sl14; replace sl17 := gs 17 z' sl17; have sl110 := gu 110 z'; clear z'; refine listF_nil ?_
  repeat ((fail_if_success refine stp ?_); with_reducible go_step)
  refine cond_E sl110 (by decide) ?_ ?_ <;> (clear sl110; intro h110 sl110)
  ·skip
   have hlt : i < k := by simpa using h110
   obtain ⟨r, rfl⟩ : ∃ r, k = r + 1 := ⟨k - 1, by omega⟩; obtain ⟨x, hx, x0, x1, x2⟩ := fl_el kg (d := d1) (i := r + 1) (by omega); obtain ⟨y, hy, y0, y1, y2⟩ := fl_el kg (d := d1) (i := r) (by omega)
   have hi_ : r + 1 < d1.size := by omega
   have hj_ : r < d1.size := by omega
   have e1 : (r : Int) + 1 - 1 = r := by omega
   have e2 : ((r : Int) + 1).toNat = r + 1 := by omega
   have b1 : (r : Int) + 1 < d.size := by omega
   have b2 : (r : Int) < d.size := by omega
   have w1 : IntKind.i64.wrap ((r : Int) + 1 - 1) = (r : Int) + 1 - 1 := IntWalk.i64_in _ (by omega); have w3 : IntKind.i64.wrap ((r : Int)) = (r : Int) := IntWalk.i64_in _ (by omega)
   repeat ((fail_if_success refine stp ?_); with_reducible go_step)
   have cO_0 := kO.cell 0 rfl
   have nO_g : ¬ O = g := by omega
   refine regionR_F [g] [(fl d1)] [18] [.q [], .q [], .q [], .q [], .q [], .q [], .q [], .q [], .q [], .q [18], .q [], .q [], .q [], .q [18], .q [], .st 18] [?v8_0, ?v8_1, ?v8_2, ?v8_3, ?v8_4, ?v8_5, ?v8_6, ?v8_7, ?v8_8, ?v8_9, ?v8_10, ?v8_11, ?v8_12, ?v8_13, ?v8_14, fun _ => undef] [fun _ => [], fun _ => [], fun _ => [], fun _ => [], fun _ => [], fun _ => [], fun _ => [], fun _ => [], fun _ => [], fun _ => [], fun _ => [], fun _ => [], fun _ => [], fun _ => [], fun _ => [], ?c8_15] (by kernel_rfl) (by kernel_rfl) (by kernel_rfl) (by kernel_rfl) (by kernel_rfl) (by first | exact List.nodup_nil | exact List.nodup_singleton _ | (simp; done) | (simp; omega)) (bc_cons (by repeat (first | (with_reducible exact kg) | (with_reducible refine Cells.drew ?_) | (with_reducible refine Cells.up ?_ _) | (with_reducible refine Cells.setFar ?_ (by omega)))) bc_nil) ?walk8 ?dep8
   case walk8 =>
    iterate 9 refine rq ?_
    refine walkR_q (by rfl) (fun X hX wq hwq hrq => ?_) ?_
    · obtain ⟨hcq, hfq⟩ := hwq.b1
      have kq18 := hrq 18 (by simp); rw [show X 18 = g from hX.at0 0 _ rfl] at kq18; replace kq18 : Cells wq g ((fl d1)) := kq18; have kqs18 := kq18.1; obtain ⟨f0, f1, f2⟩ := fl_is kq18 hi_ hx; obtain ⟨f3, f4, f5⟩ := fl_is kq18 hj_ hy; clear hrq; go_simp
      (first | rfl | exact ⟨rfl, rfl⟩ | (refine ⟨?_, ?_⟩ <;> rfl))
    iterate 3 refine rq ?_
    refine walkR_q (by rfl) (fun X hX wq hwq hrq => ?_) ?_
    · obtain ⟨hcq, hfq⟩ := hwq.b1
      have kq18 := hrq 18 (by simp); rw [show X 18 = g from hX.at0 0 _ rfl] at kq18; replace kq18 : Cells wq g ((fl d1)) := kq18; have kqs18 := kq18.1; obtain ⟨f0, f1, f2⟩ := fl_is kq18 hi_ hx; obtain ⟨f3, f4, f5⟩ := fl_is kq18 hj_ hy; clear hrq; go_simp
      (first | rfl | exact ⟨rfl, rfl⟩ | (refine ⟨?_, ?_⟩ <;> rfl))
    refine rq ?_; refine walkR_st (by rfl) (fun X hX wq hwq hkq => ?_) ?_
    · rw [show X 18 = g from hX.at0 0 _ rfl] at hkq ⊢
      replace hkq : Cells wq g ((fl d1)) := hkq; have hks := hkq.1; have hkz := hkq.2.2; obtain ⟨f0, f1, f2⟩ := fl_is hkq hi_ hx; go_simp
      (first | ((with_reducible refine writeB_mk (Cells.set (Cells.set (Cells.set hkq))) ?_ ?_); (focus (repeat (first | (with_reducible exact Only.refl _ _) | (with_reducible refine Only.set ?_)))); rfl))
    refine walkR_nil (fun X hX w22 hwz hcz => ?_); have kz0 := hcz 18 (by simp); rw [show X 18 = g from hX.at0 0 _ rfl] at kz0
    simp only [updC_some, updC_none, Nat.reduceEqDiff, ↓reduceIte] at kz0
    clear hX hcz
    (try clear X)
    clear nO_g; have hb23 := hwz.unDrew; clear hwz
    (try simp only [vC, List.set_cons_zero, List.set_cons_succ] at kz0)
    clear cO_0; clear qg qO; replace kg := kz0; replace kO := kO.oldB hb23 (by first | (simp; done) | (simp; omega)); replace HL20 := hid (HL20.out.more hb23 (by simp; try omega)); replace HB := hid (HB.out.more hb23 (by simp; try omega)); clear hb23; have qg := kg.1; have qO := kO.1; clear kz0; rw [fl_set _ hi_] at kg; refine pl ?_; have zg := kg.2.2; obtain ⟨f3, f4, f5⟩ := fl_get kg (i := r) (by simpa using hj_); refine pl ?_; refine listF_absw ?_; intro w24 hw'; have kg' := cells_of hw' (Cells.set (Cells.set (Cells.set (kg)))); rw [fl_set _ (by simpa using hj_)] at kg'; replace kg' := fl_swap hx hy kg'; have hb25 : OldB [g] w22 w24 := oldset hw'; clear hw'; clear zg; clear qg qO; replace kg := kg'; replace kO := kO.oldB hb25 (by first | (simp; done) | (simp; omega)); replace HL20 := hid (HL20.out.more hb25 (by simp; try omega)); replace HB := hid (HB.out.more hb25 (by simp; try omega)); clear hb25; have qg := kg.1; have qO := kO.1; clear kg'; refine listF_abs (fun s26 z' => ?_)
    replace sl0 := gs 0 z' sl0; replace sl14 := gs 14 z' sl14; replace sl17 := gs 17 z' sl17; clear z' sl110; refine listF_nil ?_
    repeat ((fail_if_success refine stp ?_); with_reducible go_step)
    refine region_F ?_
    iterate 3 refine pl ?_
    refine listF_abs (fun s27 z' => ?_); replace sl0 := gs 0 z' sl0; replace sl14 := gs 14 z' sl14; replace sl17 := gu 17 z'; clear z'; refine listF_nil ?_
    repeat ((fail_if_success refine stp ?_); with_reducible go_step)
    refine ⟨_, _, rfl, ?_, r, swp d1 (r + 1) r, rfl, (by first | (with_reducible exact sl17) | (rw [sl17]; (with_reducible go_num); done) | (rw [sl17, IntWalk.i64_in] <;> first | ((with_reducible go_num); done) | omega) | (rw [sl17]; go_num; done) | (rw [sl17]; simp; done) | (rw [sl17]; simp; omega)), (sl0.trans hc3_0.out.symm), (sl14.trans hc3_14.out.symm), HL20.out, (by first | (with_reducible exact kg) | (apply Cells.conv; (focus (exact kg)); (first | rfl | (simp; done)))), by omega, by omega, hid (shr_step hS.out hkm (by omega)), hid (permIn_trans _ _ _ _ _ hP.out (swp_permIn d1 a b (r + 1) r (by omega) (by omega) (by omega) (by omega) (by omega)))⟩
    omega
   case dep8 =>
     iterate 16 refine dR ?_
     exact depR_nil
  ·skip
   have h110' : ¬ i < k := by simpa using h110
   obtain rfl : i = k := by omega
   have Hm := hid (by have := merge_one_r (a := a) (m := m) (i := i) hai (by omega) Hs1.out hl.out hg2.out hS.out; rwa [← H80.out] at this : SortedIn ltH a b d1)
   repeat ((fail_if_success refine stp ?_); with_reducible go_step)
   clear HL20; clear hc3_0 hc3_14; refine ret_F _ (res_none Try.results90) ?_; exact ⟨rfl, d1, kg, ⟨hP.out, Hm.out⟩, HB.out⟩
end


end Go.Proofs.Ytndcmmghgljinaa
