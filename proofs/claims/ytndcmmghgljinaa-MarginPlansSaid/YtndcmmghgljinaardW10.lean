/- The stable sort's parts: merging. -/
import Derived.Test.YtndcmmghgljinaardW9
set_option linter.all false
namespace Go.Proofs.Ytndcmmghgljinaa

open Go.RowKit

open Go.Sort
set_option maxRecDepth 100000 in
set_option maxHeartbeats 8000000 in
theorem sym_c (g cap O N : Nat) (d : Array MCk) (hN : d.size = N) (a m b : Nat) (w : World) (hg : Cells w g (fl d)) (hO : Cells w O [.func (.func 73) #[] #[]]) (hOg : ¬ O = g) (hsz : d.size ≤ 1000) (ham : a < m) (hmb : m < b) (hb : b ≤ d.size) (hs1 : SortedIn ltH a m d) (hs2 : SortedIn ltH m b d) (hA : AllH d) (ih : SymIH (b - a)) (hm1 : ¬ m = a + 1) (hb1 : ¬ b = m + 1) :
    Calls Try.prog 90 #[.slice (some ⟨g, 0, none⟩) N cap, .int .i64 (a : Int), .int .i64 (m : Int), .int .i64 (b : Int), .func (.func 85) #[] #[.pointer (some ⟨O, 0, none⟩)]] w (SortRes g w (fun d' => PermIn a b d d' ∧ SortedIn ltH a b d')) := by
 obtain rfl := hN; have Ih := hid ih; have HA := hid hA; have Hs1 := hid hs1; have Hs2 := hid hs2; clear ih hA hs1 hs2
 have hc28 : (((m - a : Nat) : Int) == 1) = false := by simp; omega
 have hc80 : (((b - m : Nat) : Int) == 1) = false := by simp; omega
 clear hm1 hb1; have kg := hg; have kO := hO
 refine enter_F Try.func90 rfl Try.ntmps90 (by simp) ?_
 intro s0 hs; have sl0 : s0 0 = .slice (some ⟨g, 0, none⟩) d.size cap := hs 0 (by simp); have sl1 : s0 1 = .int .i64 (a : Int) := hs 1 (by simp); have sl2 : s0 2 = .int .i64 (m : Int) := hs 2 (by simp); have sl3 : s0 3 = .int .i64 (b : Int) := hs 3 (by simp); have sl4 : s0 4 = .func (.func 85) #[] #[.pointer (some ⟨O, 0, none⟩)] := hs 4 (by simp); clear hs; have HB := hid (OldB.refl [g] w); have qg := kg.1; have qO := kO.1
 repeat ((fail_if_success refine stp ?_); with_reducible go_step)
 refine region_F ?_; refine pl ?_; refine pl ?_
 have ema : (m : Int) - (a : Int) = ((m - a : Nat) : Int) := by omega
 have wema : IntKind.i64.wrap ((m : Int) - (a : Int)) = ((m - a : Nat) : Int) := by rw [IntWalk.i64_in _ (by omega)]; omega
 have vema : IntKind.i64.wrap ((m - a : Nat) : Int) = ((m - a : Nat) : Int) := IntWalk.i64_in _ (by omega); refine pl ?_; refine pl ?_; refine listF_abs (fun s1 z' => ?_); replace sl0 := gs 0 z' sl0; replace sl1 := gs 1 z' sl1; replace sl2 := gs 2 z' sl2; replace sl3 := gs 3 z' sl3; replace sl4 := gs 4 z' sl4; have sl28 := gu 28 z'; clear z'; refine listF_nil ?_
 repeat ((fail_if_success refine stp ?_); with_reducible go_step)
 refine cond_f ?_
 repeat ((fail_if_success refine stp ?_); with_reducible go_step)
 refine region_F ?_; refine pl ?_; refine pl ?_
 have ebm : (b : Int) - (m : Int) = ((b - m : Nat) : Int) := by omega
 have webm : IntKind.i64.wrap ((b : Int) - (m : Int)) = ((b - m : Nat) : Int) := by rw [IntWalk.i64_in _ (by omega)]; omega
 have vebm : IntKind.i64.wrap ((b - m : Nat) : Int) = ((b - m : Nat) : Int) := IntWalk.i64_in _ (by omega); refine pl ?_; refine pl ?_; refine listF_abs (fun s2 z' => ?_); replace sl0 := gs 0 z' sl0; replace sl1 := gs 1 z' sl1; replace sl2 := gs 2 z' sl2; replace sl3 := gs 3 z' sl3; replace sl4 := gs 4 z' sl4; have sl80 := gu 80 z'; clear z' sl28; refine listF_nil ?_
 repeat ((fail_if_success refine stp ?_); with_reducible go_step)
 refine cond_f ?_
 repeat ((fail_if_success refine stp ?_); with_reducible go_step)
 refine region_F ?_; refine pl ?_; refine pl ?_; have wij : IntKind.i64.wrap ((a : Int) + (b : Int)) = (a : Int) + (b : Int) := IntWalk.i64_in _ (by omega); refine pl ?_; obtain ⟨mid, hmid1, hmid2⟩ : ∃ q : Nat, 2 * q ≤ a + b ∧ a + b < 2 * q + 2 := ⟨(a + b) / 2, by omega, by omega⟩; have wu : IntKind.u64.wrap ((a : Int) + (b : Int)) = (a : Int) + (b : Int) := u64_in _ (by omega)
 have hqe : ((a : Int) + (b : Int)) / 2 = (mid : Int) := by omega
 have wq : IntKind.i64.wrap ((mid : Int)) = (mid : Int) := IntWalk.i64_in _ (by omega)
 iterate 4 refine pl ?_
 refine listF_abs (fun s3 z' => ?_); replace sl0 := gs 0 z' sl0; replace sl1 := gs 1 z' sl1; replace sl2 := gs 2 z' sl2; replace sl3 := gs 3 z' sl3; replace sl4 := gs 4 z' sl4; have sl18 := gu 18 z'; clear z' sl80; refine listF_nil ?_
 repeat ((fail_if_success refine stp ?_); with_reducible go_step)
 refine region_F ?_; refine pl ?_; refine pl ?_; have wmm : IntKind.i64.wrap ((mid : Int) + (m : Int)) = (mid : Int) + (m : Int) := IntWalk.i64_in _ (by omega); refine pl ?_; refine pl ?_; refine listF_abs (fun s4 z' => ?_); replace sl0 := gs 0 z' sl0; replace sl1 := gs 1 z' sl1; replace sl2 := gs 2 z' sl2; replace sl3 := gs 3 z' sl3; replace sl4 := gs 4 z' sl4; replace sl18 := gs 18 z' sl18; have sl19 := gu 19 z'; clear z'; refine listF_nil ?_
 repeat ((fail_if_success refine stp ?_); with_reducible go_step)
 refine region_F ?_; refine pl ?_; refine pl ?_; refine listF_abs (fun s5 z' => ?_); replace sl0 := gs 0 z' sl0; replace sl1 := gs 1 z' sl1; replace sl2 := gs 2 z' sl2; replace sl3 := gs 3 z' sl3; replace sl4 := gs 4 z' sl4; replace sl18 := gs 18 z' sl18; replace sl19 := gs 19 z' sl19; clear z'; refine listF_nil ?_
 repeat ((fail_if_success refine stp ?_); with_reducible go_step)
 refine region_F ?_
 iterate 3 refine pl ?_
 refine listF_abs (fun s6 z' => ?_); replace sl0 := gs 0 z' sl0; replace sl1 := gs 1 z' sl1; replace sl2 := gs 2 z' sl2; replace sl3 := gs 3 z' sl3; replace sl4 := gs 4 z' sl4; replace sl18 := gs 18 z' sl18; replace sl19 := gs 19 z' sl19; have sl140 := gu 140 z'; clear z'; refine listF_nil ?_
 repeat ((fail_if_success refine stp ?_); with_reducible go_step)
 have hj7_0 := hid sl0; have hj7_1 := hid sl1; have hj7_2 := hid sl2; have hj7_3 := hid sl3; have hj7_4 := hid sl4; have hj7_18 := hid sl18; have hj7_19 := hid sl19; refine cut_any (fun sJ wJ => ∃ (lo hi : Nat), sJ 20 = .int .i64 (lo : Int) ∧ sJ 21 = .int .i64 (hi : Int) ∧ sJ 0 = s6 0 ∧ sJ 1 = s6 1 ∧ sJ 2 = s6 2 ∧ sJ 3 = s6 3 ∧ sJ 4 = s6 4 ∧ sJ 18 = s6 18 ∧ sJ 19 = s6 19 ∧ OldB [] w wJ ∧ (LoHi a m b mid lo hi)) ?_ ?_
 ·skip
  have HL8 := hid (OldB.refl [] w)
  refine cond_E sl140 (by decide) ?_ ?_ <;> (clear sl140; intro h140 sl140)
  ·skip
   have h140' : mid < m := by simpa using h140
   repeat ((fail_if_success refine stp ?_); with_reducible go_step)
   refine region_F ?_; refine pl ?_; refine pl ?_
   have emb : (mid : Int) + (m : Int) - (b : Int) = ((mid + m - b : Nat) : Int) := by omega
   have wemb : IntKind.i64.wrap ((mid : Int) + (m : Int) - (b : Int)) = ((mid + m - b : Nat) : Int) := by rw [IntWalk.i64_in _ (by omega)]; omega
   have vemb : IntKind.i64.wrap ((mid + m - b : Nat) : Int) = ((mid + m - b : Nat) : Int) := IntWalk.i64_in _ (by omega); refine pl ?_; refine pl ?_; refine listF_abs (fun s9 z' => ?_); replace sl0 := gs 0 z' sl0; replace sl1 := gs 1 z' sl1; replace sl2 := gs 2 z' sl2; replace sl3 := gs 3 z' sl3; replace sl4 := gs 4 z' sl4; replace sl18 := gs 18 z' sl18; replace sl19 := gs 19 z' sl19; have sl20 := gu 20 z'; clear z' sl140; refine listF_nil ?_
   repeat ((fail_if_success refine stp ?_); with_reducible go_step)
   refine region_F ?_; refine pl ?_; refine pl ?_; refine listF_abs (fun s10 z' => ?_); replace sl0 := gs 0 z' sl0; replace sl1 := gs 1 z' sl1; replace sl2 := gs 2 z' sl2; replace sl3 := gs 3 z' sl3; replace sl4 := gs 4 z' sl4; replace sl18 := gs 18 z' sl18; replace sl19 := gs 19 z' sl19; replace sl20 := gs 20 z' sl20; have sl21 := gu 21 z'; clear z'; refine listF_nil ?_
   repeat ((fail_if_success refine stp ?_); with_reducible go_step)
   exact ⟨rfl, _, rfl, mid + m - b, mid, (by first | (with_reducible exact sl20) | (rw [sl20]; (with_reducible go_num); done) | (rw [sl20, IntWalk.i64_in] <;> first | ((with_reducible go_num); done) | omega) | (rw [sl20]; go_num; done) | (rw [sl20]; simp; done) | (rw [sl20]; simp; omega)), (by first | (with_reducible exact sl21) | (rw [sl21]; (with_reducible go_num); done) | (rw [sl21, IntWalk.i64_in] <;> first | ((with_reducible go_num); done) | omega) | (rw [sl21]; go_num; done) | (rw [sl21]; simp; done) | (rw [sl21]; simp; omega)), (sl0.trans hj7_0.out.symm), (sl1.trans hj7_1.out.symm), (sl2.trans hj7_2.out.symm), (sl3.trans hj7_3.out.symm), (sl4.trans hj7_4.out.symm), (sl18.trans hj7_18.out.symm), (sl19.trans hj7_19.out.symm), HL8.out, (by unfold LoHi; omega)⟩
  ·skip
   have h140' : ¬ mid < m := by simpa using h140
   repeat ((fail_if_success refine stp ?_); with_reducible go_step)
   refine region_F ?_; refine pl ?_; refine pl ?_; refine listF_abs (fun s11 z' => ?_); replace sl0 := gs 0 z' sl0; replace sl1 := gs 1 z' sl1; replace sl2 := gs 2 z' sl2; replace sl3 := gs 3 z' sl3; replace sl4 := gs 4 z' sl4; replace sl18 := gs 18 z' sl18; replace sl19 := gs 19 z' sl19; have sl20 := gu 20 z'; clear z' sl140; refine listF_nil ?_
   repeat ((fail_if_success refine stp ?_); with_reducible go_step)
   refine region_F ?_; refine pl ?_; refine pl ?_; refine listF_abs (fun s12 z' => ?_); replace sl0 := gs 0 z' sl0; replace sl1 := gs 1 z' sl1; replace sl2 := gs 2 z' sl2; replace sl3 := gs 3 z' sl3; replace sl4 := gs 4 z' sl4; replace sl18 := gs 18 z' sl18; replace sl19 := gs 19 z' sl19; replace sl20 := gs 20 z' sl20; have sl21 := gu 21 z'; clear z'; refine listF_nil ?_
   repeat ((fail_if_success refine stp ?_); with_reducible go_step)
   exact ⟨rfl, _, rfl, a, m, (by first | (with_reducible exact sl20) | (rw [sl20]; (with_reducible go_num); done) | (rw [sl20, IntWalk.i64_in] <;> first | ((with_reducible go_num); done) | omega) | (rw [sl20]; go_num; done) | (rw [sl20]; simp; done) | (rw [sl20]; simp; omega)), (by first | (with_reducible exact sl21) | (rw [sl21]; (with_reducible go_num); done) | (rw [sl21, IntWalk.i64_in] <;> first | ((with_reducible go_num); done) | omega) | (rw [sl21]; go_num; done) | (rw [sl21]; simp; done) | (rw [sl21]; simp; omega)), (sl0.trans hj7_0.out.symm), (sl1.trans hj7_1.out.symm), (sl2.trans hj7_2.out.symm), (sl3.trans hj7_3.out.symm), (sl4.trans hj7_4.out.symm), (sl18.trans hj7_18.out.symm), (sl19.trans hj7_19.out.symm), HL8.out, (by unfold LoHi; omega)⟩
 ·skip
  clear sl140; rintro s13 w14 ⟨lo, hi, sl20, sl21, e0, e1, e2, e3, e4, e18, e19, hb15, hlh⟩; replace sl0 := e0.trans sl0; clear e0 hj7_0; replace sl1 := e1.trans sl1; clear e1 hj7_1; replace sl2 := e2.trans sl2; clear e2 hj7_2; replace sl3 := e3.trans sl3; clear e3 hj7_3; replace sl4 := e4.trans sl4; clear e4 hj7_4; replace sl18 := e18.trans sl18; clear e18 hj7_18; replace sl19 := e19.trans sl19; clear e19 hj7_19; clear qg qO; replace kg := kg.oldB hb15 (by first | (simp; done) | (simp; omega)); replace kO := kO.oldB hb15 (by first | (simp; done) | (simp; omega)); replace HB := hid (HB.out.more hb15 (by simp; try omega)); clear hb15; have qg := kg.1; have qO := kO.1; obtain ⟨hlh1, hlh2, hlh3, hlh4, hlh5, hlh6, hlh7⟩ := hlh
  repeat ((fail_if_success refine stp ?_); with_reducible go_step)
  refine region_F ?_; refine pl ?_; have wm1 : IntKind.i64.wrap ((mid : Int) + (m : Int) - 1) = (mid : Int) + (m : Int) - 1 := IntWalk.i64_in _ (by omega); refine pl ?_; refine pl ?_; refine listF_abs (fun s16 z' => ?_); replace sl0 := gs 0 z' sl0; replace sl1 := gs 1 z' sl1; replace sl2 := gs 2 z' sl2; replace sl3 := gs 3 z' sl3; replace sl4 := gs 4 z' sl4; replace sl18 := gs 18 z' sl18; replace sl19 := gs 19 z' sl19; replace sl20 := gs 20 z' sl20; replace sl21 := gs 21 z' sl21; have sl22 := gu 22 z'; clear z'; refine listF_nil ?_
  repeat ((fail_if_success refine stp ?_); with_reducible go_step)
  have hc4_0 := hid sl0; have hc4_1 := hid sl1; have hc4_2 := hid sl2; have hc4_3 := hid sl3; have hc4_4 := hid sl4; have hc4_18 := hid sl18; have hc4_19 := hid sl19; have hc4_22 := hid sl22; refine loop_F (n := 220) (fun kJ sJ wJ => ∃ (s r : Nat), kJ = r - s ∧ sJ 20 = .int .i64 (s : Int) ∧ sJ 21 = .int .i64 (r : Int) ∧ sJ 0 = s16 0 ∧ sJ 1 = s16 1 ∧ sJ 2 = s16 2 ∧ sJ 3 = s16 3 ∧ sJ 4 = s16 4 ∧ sJ 18 = s16 18 ∧ sJ 19 = s16 19 ∧ sJ 22 = s16 22 ∧ OldB [] w14 wJ ∧ lo ≤ s ∧ s ≤ r ∧ r ≤ hi ∧ (Hid (lo < s → hr d (s - 1) ≤ hr d (mid + m - s))) ∧ (Hid (r < hi → hr d (mid + m - 1 - r) ≤ hr d r))) ⟨lo, hi, rfl, (by first | exact sl20 | (rw [sl20]; go_num) | (rw [sl20]; rfl)), (by first | exact sl21 | (rw [sl21]; go_num) | (rw [sl21]; rfl)), rfl, rfl, rfl, rfl, rfl, rfl, rfl, rfl, OldB.refl _ _, Nat.le_refl _, hlh1, Nat.le_refl _, hid (fun h => by omega), hid (fun h => by omega)⟩ ?_; clear sl20 sl21; rintro kJ s17 w18 ⟨s, r, rfl, sl20, sl21, e0, e1, e2, e3, e4, e18, e19, e22, hb19, hls, hsr, hrh, hl, hg3⟩
  replace sl0 := e0.trans sl0; clear e0; replace sl1 := e1.trans sl1; clear e1; replace sl2 := e2.trans sl2; clear e2; replace sl3 := e3.trans sl3; clear e3; replace sl4 := e4.trans sl4; clear e4; replace sl18 := e18.trans sl18; clear e18; replace sl19 := e19.trans sl19; clear e19; replace sl22 := e22.trans sl22; clear e22; have hoJ := hb19; clear qg qO; replace kg := kg.oldB hb19 (by first | (simp; done) | (simp; omega)); replace kO := kO.oldB hb19 (by first | (simp; done) | (simp; omega)); replace HB := hid (HB.out.more hb19 (by simp; try omega)); clear hb19; have qg := kg.1; have qO := kO.1; have HoJ := hid hoJ; clear hoJ; have HL20 := HoJ; clear HoJ
  repeat ((fail_if_success refine stp ?_); with_reducible go_step)
  refine region_F ?_
  iterate 3 refine pl ?_
  refine listF_abs (fun s21 z' => ?_); replace sl0 := gs 0 z' sl0; replace sl1 := gs 1 z' sl1; replace sl2 := gs 2 z' sl2; replace sl3 := gs 3 z' sl3; replace sl4 := gs 4 z' sl4; replace sl18 := gs 18 z' sl18; replace sl19 := gs 19 z' sl19; replace sl20 := gs 20 z' sl20; replace sl21 := gs 21 z' sl21; replace sl22 := gs 22 z' sl22; have sl151 := gu 151 z'; clear z'; refine listF_nil ?_
  repeat ((fail_if_success refine stp ?_); with_reducible go_step)
  refine cond_E sl151 (by decide) ?_ ?_ <;> (clear sl151; intro h151 sl151)
  ·skip
   have hlt : s < r := by simpa using h151
   repeat ((fail_if_success refine stp ?_); with_reducible go_step)
   refine region_F ?_; refine pl ?_; refine pl ?_; have wij : IntKind.i64.wrap ((s : Int) + (r : Int)) = (s : Int) + (r : Int) := IntWalk.i64_in _ (by omega); refine pl ?_; obtain ⟨q, hq1, hq2⟩ : ∃ q : Nat, 2 * q ≤ s + r ∧ s + r < 2 * q + 2 := ⟨(s + r) / 2, by omega, by omega⟩; have wu : IntKind.u64.wrap ((s : Int) + (r : Int)) = (s : Int) + (r : Int) := u64_in _ (by omega)
   have hqe : ((s : Int) + (r : Int)) / 2 = (q : Int) := by omega
   have wq : IntKind.i64.wrap ((q : Int)) = (q : Int) := IntWalk.i64_in _ (by omega)
   iterate 4 refine pl ?_
   refine listF_abs (fun s22 z' => ?_); replace sl0 := gs 0 z' sl0; replace sl1 := gs 1 z' sl1; replace sl2 := gs 2 z' sl2; replace sl3 := gs 3 z' sl3; replace sl4 := gs 4 z' sl4; replace sl18 := gs 18 z' sl18; replace sl19 := gs 19 z' sl19; replace sl20 := gs 20 z' sl20; replace sl21 := gs 21 z' sl21; replace sl22 := gs 22 z' sl22; have sl23 := gu 23 z'; clear z' sl151; refine listF_nil ?_
   repeat ((fail_if_success refine stp ?_); with_reducible go_step)
   obtain ⟨x, hx, x0, x1, x2⟩ := fl_el kg (d := d) (i := mid + m - 1 - q) (by omega); obtain ⟨y, hy, y0, y1, y2⟩ := fl_el kg (d := d) (i := q) (by omega)
   have hkx : hourOk x := by have := HA.out (mid + m - 1 - q) (by omega); rwa [hx.out] at this
   obtain ⟨x3, x4⟩ := hkx
   have hky : hourOk y := by have := HA.out (q) (by omega); rwa [hy.out] at this
   obtain ⟨y3, y4⟩ := hky; have wxy : IntKind.i64.wrap (x.hour - y.hour) = x.hour - y.hour := IntWalk.i64_in _ (by omega)
   have bq : (q : Int) < d.size := by omega
   have bpq : ((mid + m - 1 - q : Nat) : Int) < d.size := by omega
   have epc : (mid : Int) + (m : Int) - 1 - (q : Int) = ((mid + m - 1 - q : Nat) : Int) := by omega
   have wepc : IntKind.i64.wrap ((mid : Int) + (m : Int) - 1 - (q : Int)) = ((mid + m - 1 - q : Nat) : Int) := by rw [IntWalk.i64_in _ (by omega)]; omega
   have vepc : IntKind.i64.wrap ((mid + m - 1 - q : Nat) : Int) = ((mid + m - 1 - q : Nat) : Int) := IntWalk.i64_in _ (by omega)
   ·skip
    have cO_0 := kO.cell 0 rfl; refine regionQ_F (Below w18.heap.size w18) (by kernel_rfl) (by kernel_rfl) (Below.refl _ _).drew ?_
    iterate 11 refine lq ?_
    refine listQ_step (v := ?_) rfl ?_ ?_; rotate_left
    · focus (intro wq hwq; obtain ⟨hcq, hfq⟩ := bcell hwq; go_simp; have hQ := callQ (cmp_any x y O _ (kO.at hwq) ⟨x3, x4⟩ ⟨y3, y4⟩) hwq; exact hQ)
    refine lq ?_; refine lq ?_; refine listQ_nil ?_; intro w23 hb24; clear cO_0; clear qg qO; replace kg := kg.at hb24; replace kO := kO.at hb24; replace HL20 := hid (HL20.out.below hb24); replace HB := hid (HB.out.below hb24); clear hb24; have qg := kg.1; have qO := kO.1
    repeat ((fail_if_success refine stp ?_); with_reducible go_step)
    refine wp_abs (fun s25 z' => ?_); replace sl0 := gs 0 z' sl0; replace sl1 := gs 1 z' sl1; replace sl2 := gs 2 z' sl2; replace sl3 := gs 3 z' sl3; replace sl4 := gs 4 z' sl4; replace sl18 := gs 18 z' sl18; replace sl19 := gs 19 z' sl19; replace sl20 := gs 20 z' sl20; replace sl21 := gs 21 z' sl21; replace sl22 := gs 22 z' sl22; replace sl23 := gs 23 z' sl23; have sl171 := gu 171 z'; clear z'
    refine cond_E sl171 (by decide) ?_ ?_ <;> (clear sl171; intro h171 sl171)
    ·skip
     have h171' : ¬ x.hour - y.hour < 0 := by simpa using h171
     repeat ((fail_if_success refine stp ?_); with_reducible go_step)
     refine region_F ?_
     iterate 3 refine pl ?_
     refine listF_abs (fun s26 z' => ?_); replace sl0 := gs 0 z' sl0; replace sl1 := gs 1 z' sl1; replace sl2 := gs 2 z' sl2; replace sl3 := gs 3 z' sl3; replace sl4 := gs 4 z' sl4; replace sl18 := gs 18 z' sl18; replace sl19 := gs 19 z' sl19; replace sl20 := gu 20 z'; replace sl21 := gs 21 z' sl21; replace sl22 := gs 22 z' sl22; clear z' sl23 sl171; refine listF_nil ?_
     repeat ((fail_if_success refine stp ?_); with_reducible go_step)
     refine ⟨_, _, rfl, ?_, q + 1, r, rfl, (by first | (with_reducible exact sl20) | (rw [sl20]; (with_reducible go_num); done) | (rw [sl20, IntWalk.i64_in] <;> first | ((with_reducible go_num); done) | omega) | (rw [sl20]; go_num; done) | (rw [sl20]; simp; done) | (rw [sl20]; simp; omega)), (by first | (with_reducible exact sl21) | (rw [sl21]; (with_reducible go_num); done) | (rw [sl21, IntWalk.i64_in] <;> first | ((with_reducible go_num); done) | omega) | (rw [sl21]; go_num; done) | (rw [sl21]; simp; done) | (rw [sl21]; simp; omega)), (sl0.trans hc4_0.out.symm), (sl1.trans hc4_1.out.symm), (sl2.trans hc4_2.out.symm), (sl3.trans hc4_3.out.symm), (sl4.trans hc4_4.out.symm), (sl18.trans hc4_18.out.symm), (sl19.trans hc4_19.out.symm), (sl22.trans hc4_22.out.symm), HL20.out, by omega, by omega, by omega, hid (fun _ => by rw [Nat.add_sub_cancel, show mid + m - (q + 1) = mid + m - 1 - q by omega]; unfold hr; rw [hx.out, hy.out]; omega), hg3⟩
     omega
    ·skip
     have h171' : x.hour - y.hour < 0 := by simpa using h171
     repeat ((fail_if_success refine stp ?_); with_reducible go_step)
     refine region_F ?_; refine pl ?_; refine pl ?_; refine listF_abs (fun s27 z' => ?_); replace sl0 := gs 0 z' sl0; replace sl1 := gs 1 z' sl1; replace sl2 := gs 2 z' sl2; replace sl3 := gs 3 z' sl3; replace sl4 := gs 4 z' sl4; replace sl18 := gs 18 z' sl18; replace sl19 := gs 19 z' sl19; replace sl20 := gs 20 z' sl20; replace sl21 := gu 21 z'; replace sl22 := gs 22 z' sl22; clear z' sl23 sl171; refine listF_nil ?_
     repeat ((fail_if_success refine stp ?_); with_reducible go_step)
     refine ⟨_, _, rfl, ?_, s, q, rfl, (by first | (with_reducible exact sl20) | (rw [sl20]; (with_reducible go_num); done) | (rw [sl20, IntWalk.i64_in] <;> first | ((with_reducible go_num); done) | omega) | (rw [sl20]; go_num; done) | (rw [sl20]; simp; done) | (rw [sl20]; simp; omega)), (by first | (with_reducible exact sl21) | (rw [sl21]; (with_reducible go_num); done) | (rw [sl21, IntWalk.i64_in] <;> first | ((with_reducible go_num); done) | omega) | (rw [sl21]; go_num; done) | (rw [sl21]; simp; done) | (rw [sl21]; simp; omega)), (sl0.trans hc4_0.out.symm), (sl1.trans hc4_1.out.symm), (sl2.trans hc4_2.out.symm), (sl3.trans hc4_3.out.symm), (sl4.trans hc4_4.out.symm), (sl18.trans hc4_18.out.symm), (sl19.trans hc4_19.out.symm), (sl22.trans hc4_22.out.symm), HL20.out, by omega, by omega, by omega, hl, hid (fun _ => by unfold hr; rw [hx.out, hy.out]; omega)⟩
     omega
  ·skip
   have h151' : ¬ s < r := by simpa using h151
   obtain rfl : s = r := by omega
   have HSp := hid (show Split d a m b mid s from ⟨ham, hmb, by omega, by omega, by omega, by omega, by omega, fun h1 h2 => hl.out (by omega), fun h1 h2 => by have := hg3.out (by omega); rwa [show mid + m - 1 - s = mid + m - s - 1 by omega] at this⟩); clear hl hg3
   repeat ((fail_if_success refine stp ?_); with_reducible go_step)
   clear HL20; clear hc4_0 hc4_1 hc4_2 hc4_3 hc4_4 hc4_18 hc4_19 hc4_22; refine region_F ?_; refine pl ?_; refine pl ?_; obtain ⟨e, he⟩ : ∃ e : Nat, e + s = mid + m := ⟨mid + m - s, by omega⟩
   have een : (mid : Int) + (m : Int) - (s : Int) = ((e : Nat) : Int) := by omega
   have ween : IntKind.i64.wrap ((mid : Int) + (m : Int) - (s : Int)) = ((e : Nat) : Int) := by rw [IntWalk.i64_in _ (by omega)]; omega
   have veen : IntKind.i64.wrap ((e : Nat) : Int) = ((e : Nat) : Int) := IntWalk.i64_in _ (by omega); refine pl ?_; refine pl ?_; refine listF_abs (fun s28 z' => ?_); replace sl0 := gs 0 z' sl0; replace sl1 := gs 1 z' sl1; replace sl2 := gs 2 z' sl2; replace sl3 := gs 3 z' sl3; replace sl4 := gs 4 z' sl4; replace sl18 := gs 18 z' sl18; replace sl20 := gs 20 z' sl20; have sl24 := gu 24 z'; clear z' sl19 sl21 sl22 sl151; refine listF_nil ?_
   repeat ((fail_if_success refine stp ?_); with_reducible go_step)
   have hj29_0 := hid sl0; have hj29_1 := hid sl1; have hj29_2 := hid sl2; have hj29_3 := hid sl3; have hj29_4 := hid sl4; have hj29_18 := hid sl18; have hj29_20 := hid sl20; have hj29_24 := hid sl24; refine cut_any (fun sJ wJ => sJ 185 = .bool (decide (s < m) && decide (m < e)) ∧ sJ 0 = s28 0 ∧ sJ 1 = s28 1 ∧ sJ 2 = s28 2 ∧ sJ 3 = s28 3 ∧ sJ 4 = s28 4 ∧ sJ 18 = s28 18 ∧ sJ 20 = s28 20 ∧ sJ 24 = s28 24 ∧ OldB [] w18 wJ) ?_ ?_
   ·skip
    have HL30 := hid (OldB.refl [] w18); refine region_F ?_
    iterate 4 refine pl ?_
    refine listF_abs (fun s31 z' => ?_); replace sl0 := gs 0 z' sl0; replace sl1 := gs 1 z' sl1; replace sl2 := gs 2 z' sl2; replace sl3 := gs 3 z' sl3; replace sl4 := gs 4 z' sl4; replace sl18 := gs 18 z' sl18; replace sl20 := gs 20 z' sl20; replace sl24 := gs 24 z' sl24; have sl181 := gu 181 z'; clear z'
    refine boolG sl181 (fun sl181' h181 => ?_) (fun sl181' h181 => ?_) <;> (clear sl181; have sl181 := sl181'; clear sl181')
    ·skip
     iterate 3 refine py ?_
     refine pl ?_; refine listF_abs (fun s32 z' => ?_); replace sl0 := gs 0 z' sl0; replace sl1 := gs 1 z' sl1; replace sl2 := gs 2 z' sl2; replace sl3 := gs 3 z' sl3; replace sl4 := gs 4 z' sl4; replace sl18 := gs 18 z' sl18; replace sl20 := gs 20 z' sl20; replace sl24 := gs 24 z' sl24; have sl185 := gu 185 z'; clear z' sl181; refine listF_nil ?_
     repeat ((fail_if_success refine stp ?_); with_reducible go_step)
     exact ⟨rfl, _, rfl, (by rw [sl185]; simp at h181 ⊢; (try intros); omega), (sl0.trans hj29_0.out.symm), (sl1.trans hj29_1.out.symm), (sl2.trans hj29_2.out.symm), (sl3.trans hj29_3.out.symm), (sl4.trans hj29_4.out.symm), (sl18.trans hj29_18.out.symm), (sl20.trans hj29_20.out.symm), (sl24.trans hj29_24.out.symm), HL30.out⟩
    ·skip
     refine pn false ?_; refine pn false ?_; refine pn false ?_; refine pl ?_; refine listF_abs (fun s33 z' => ?_); replace sl0 := gs 0 z' sl0; replace sl1 := gs 1 z' sl1; replace sl2 := gs 2 z' sl2; replace sl3 := gs 3 z' sl3; replace sl4 := gs 4 z' sl4; replace sl18 := gs 18 z' sl18; replace sl20 := gs 20 z' sl20; replace sl24 := gs 24 z' sl24; have sl185 := gu 185 z'; clear z' sl181; refine listF_nil ?_
     repeat ((fail_if_success refine stp ?_); with_reducible go_step)
     exact ⟨rfl, _, rfl, (by rw [sl185]; simp at h181 ⊢; (try intros); omega), (sl0.trans hj29_0.out.symm), (sl1.trans hj29_1.out.symm), (sl2.trans hj29_2.out.symm), (sl3.trans hj29_3.out.symm), (sl4.trans hj29_4.out.symm), (sl18.trans hj29_18.out.symm), (sl20.trans hj29_20.out.symm), (sl24.trans hj29_24.out.symm), HL30.out⟩
   ·skip
    rintro s34 w35 ⟨sl185, e0, e1, e2, e3, e4, e18, e20, e24, hb36⟩; replace sl0 := e0.trans sl0; clear e0 hj29_0; replace sl1 := e1.trans sl1; clear e1 hj29_1; replace sl2 := e2.trans sl2; clear e2 hj29_2; replace sl3 := e3.trans sl3; clear e3 hj29_3; replace sl4 := e4.trans sl4; clear e4 hj29_4; replace sl18 := e18.trans sl18; clear e18 hj29_18; replace sl20 := e20.trans sl20; clear e20 hj29_20; replace sl24 := e24.trans sl24; clear e24 hj29_24; clear qg qO; replace kg := kg.oldB hb36 (by first | (simp; done) | (simp; omega)); replace kO := kO.oldB hb36 (by first | (simp; done) | (simp; omega)); replace HB := hid (HB.out.more hb36 (by simp; try omega)); clear hb36; have qg := kg.1; have qO := kO.1
    repeat ((fail_if_success refine stp ?_); with_reducible go_step)
    have hj37_0 := hid sl0; have hj37_1 := hid sl1; have hj37_3 := hid sl3; have hj37_4 := hid sl4; have hj37_18 := hid sl18; have hj37_20 := hid sl20; have hj37_24 := hid sl24; refine cut_any (fun sJ wJ => ∃ (d1 : Array MCk), sJ 0 = s34 0 ∧ sJ 1 = s34 1 ∧ sJ 3 = s34 3 ∧ sJ 4 = s34 4 ∧ sJ 18 = s34 18 ∧ sJ 20 = s34 20 ∧ sJ 24 = s34 24 ∧ OldB [g] w35 wJ ∧ Cells wJ g (fl d1) ∧ (Hid (Same d d1 (rotF s m e))) ∧ (Hid (PermIn a b d d1))) ?_ ?_
    ·skip
     have HL38 := hid (OldB.refl [g] w35)
     refine cond_E sl185 (by decide) ?_ ?_ <;> (clear sl185; intro h185 sl185)
     ·skip
      simp only [Bool.and_eq_true, decide_eq_true_eq] at h185
      repeat ((fail_if_success refine stp ?_); with_reducible go_step)
      refine region_F ?_
      iterate 5 refine pl ?_
      refine listF_step rfl (fun K' hK => ?_); unfold opF; go_simp; refine (rotate_any g cap O _ d rfl s m e _ kg hsz (by omega) (by omega) (by omega)).mono ?_; rintro e w39 ⟨rfl, d5, kg5, ⟨hS5, hP5⟩, hb40⟩; have hS5 := hid hS5; have hP5 := hid hP5; refine ⟨_, rfl, hK _ _ ?_⟩; clear hK K'; clear qg qO; replace kg := kg5; replace kO := kO.oldB hb40 (by first | (simp; done) | (simp; omega)); replace HL38 := hid (HL38.out.more hb40 (by simp; try omega)); replace HB := hid (HB.out.more hb40 (by simp; try omega)); clear hb40; have qg := kg.1; have qO := kO.1; refine listF_abs (fun s41 z' => ?_); replace sl0 := gs 0 z' sl0; replace sl1 := gs 1 z' sl1; replace sl3 := gs 3 z' sl3; replace sl4 := gs 4 z' sl4; replace sl18 := gs 18 z' sl18; replace sl20 := gs 20 z' sl20; replace sl24 := gs 24 z' sl24; clear z' sl2 sl185; refine listF_nil ?_
      repeat ((fail_if_success refine stp ?_); with_reducible go_step)
      exact ⟨rfl, _, rfl, d5, (sl0.trans hj37_0.out.symm), (sl1.trans hj37_1.out.symm), (sl3.trans hj37_3.out.symm), (sl4.trans hj37_4.out.symm), (sl18.trans hj37_18.out.symm), (sl20.trans hj37_20.out.symm), (sl24.trans hj37_24.out.symm), HL38.out, (by first | (with_reducible exact kg) | (apply Cells.conv; (focus (exact kg)); (first | rfl | (simp; done)))), hS5, hid (permIn_mono d d5 s e a b (by omega) (by omega) hb hP5.out)⟩
     ·skip
      have h185' : s = m ∨ m = e := by simp only [Bool.and_eq_false_iff, decide_eq_false_iff_not] at h185; omega
      repeat ((fail_if_success refine stp ?_); with_reducible go_step)
      exact ⟨rfl, _, rfl, d, (sl0.trans hj37_0.out.symm), (sl1.trans hj37_1.out.symm), (sl3.trans hj37_3.out.symm), (sl4.trans hj37_4.out.symm), (sl18.trans hj37_18.out.symm), (sl20.trans hj37_20.out.symm), (sl24.trans hj37_24.out.symm), HL38.out, (by first | (with_reducible exact kg) | (apply Cells.conv; (focus (exact kg)); (first | rfl | (simp; done)))), hid ((Same.refl d).to (fun k => (rot_none h185' (by omega) (by omega) k).symm)), hid (permIn_refl d a b)⟩
    ·skip
     clear sl2 sl185; rintro s42 w43 ⟨d1, e0, e1, e3, e4, e18, e20, e24, hb44, mg', hR, hP⟩; replace sl0 := e0.trans sl0; clear e0 hj37_0; replace sl1 := e1.trans sl1; clear e1 hj37_1; replace sl3 := e3.trans sl3; clear e3 hj37_3; replace sl4 := e4.trans sl4; clear e4 hj37_4; replace sl18 := e18.trans sl18; clear e18 hj37_18; replace sl20 := e20.trans sl20; clear e20 hj37_20; replace sl24 := e24.trans sl24; clear e24 hj37_24; clear qg qO; replace kg := mg'; replace kO := kO.oldB hb44 (by first | (simp; done) | (simp; omega)); replace HB := hid (HB.out.more hb44 (by simp; try omega)); clear hb44; have qg := kg.1; have qO := kO.1; clear mg'; have hz1 : d1.size = d.size := hP.out.1; have Hz1 := hid hz1
     have hb1 : b ≤ d1.size := by omega
     have hs1k : d1.size ≤ 1000 := by omega
     clear hz1; have HA1 := hid (allH_perm hb hP.out HA.out); obtain ⟨hh1, hh2, hh3, hh4, hc⟩ := HSp.out.halves Hs1.out Hs2.out (by have := hR.out; rwa [show e = mid + m - s by omega] at this); have Hh1 := hid hh1; have Hh2 := hid hh2; have Hh3 := hid hh3; have Hh4 := hid hh4; have Hc := hid hc; clear hh1 hh2 hh3 hh4 hc
     repeat ((fail_if_success refine stp ?_); with_reducible go_step)
     have hj45_0 := hid sl0; have hj45_1 := hid sl1; have hj45_3 := hid sl3; have hj45_4 := hid sl4; have hj45_18 := hid sl18; have hj45_20 := hid sl20; have hj45_24 := hid sl24; refine cut_any (fun sJ wJ => sJ 199 = .bool (decide (a < s) && decide (s < mid)) ∧ sJ 0 = s42 0 ∧ sJ 1 = s42 1 ∧ sJ 3 = s42 3 ∧ sJ 4 = s42 4 ∧ sJ 18 = s42 18 ∧ sJ 20 = s42 20 ∧ sJ 24 = s42 24 ∧ OldB [] w43 wJ) ?_ ?_
     ·skip
      have HL46 := hid (OldB.refl [] w43); refine region_F ?_
      iterate 4 refine pl ?_
      refine listF_abs (fun s47 z' => ?_); replace sl0 := gs 0 z' sl0; replace sl1 := gs 1 z' sl1; replace sl3 := gs 3 z' sl3; replace sl4 := gs 4 z' sl4; replace sl18 := gs 18 z' sl18; replace sl20 := gs 20 z' sl20; replace sl24 := gs 24 z' sl24; have sl195 := gu 195 z'; clear z'
      refine boolG sl195 (fun sl195' h195 => ?_) (fun sl195' h195 => ?_) <;> (clear sl195; have sl195 := sl195'; clear sl195')
      ·skip
       iterate 3 refine py ?_
       refine pl ?_; refine listF_abs (fun s48 z' => ?_); replace sl0 := gs 0 z' sl0; replace sl1 := gs 1 z' sl1; replace sl3 := gs 3 z' sl3; replace sl4 := gs 4 z' sl4; replace sl18 := gs 18 z' sl18; replace sl20 := gs 20 z' sl20; replace sl24 := gs 24 z' sl24; have sl199 := gu 199 z'; clear z' sl195; refine listF_nil ?_
       repeat ((fail_if_success refine stp ?_); with_reducible go_step)
       exact ⟨rfl, _, rfl, (by rw [sl199]; simp at h195 ⊢; (try intros); omega), (sl0.trans hj45_0.out.symm), (sl1.trans hj45_1.out.symm), (sl3.trans hj45_3.out.symm), (sl4.trans hj45_4.out.symm), (sl18.trans hj45_18.out.symm), (sl20.trans hj45_20.out.symm), (sl24.trans hj45_24.out.symm), HL46.out⟩
      ·skip
       refine pn false ?_; refine pn false ?_; refine pn false ?_; refine pl ?_; refine listF_abs (fun s49 z' => ?_); replace sl0 := gs 0 z' sl0; replace sl1 := gs 1 z' sl1; replace sl3 := gs 3 z' sl3; replace sl4 := gs 4 z' sl4; replace sl18 := gs 18 z' sl18; replace sl20 := gs 20 z' sl20; replace sl24 := gs 24 z' sl24; have sl199 := gu 199 z'; clear z' sl195; refine listF_nil ?_
       repeat ((fail_if_success refine stp ?_); with_reducible go_step)
       exact ⟨rfl, _, rfl, (by rw [sl199]; simp at h195 ⊢; (try intros); omega), (sl0.trans hj45_0.out.symm), (sl1.trans hj45_1.out.symm), (sl3.trans hj45_3.out.symm), (sl4.trans hj45_4.out.symm), (sl18.trans hj45_18.out.symm), (sl20.trans hj45_20.out.symm), (sl24.trans hj45_24.out.symm), HL46.out⟩
     ·skip
      rintro s50 w51 ⟨sl199, e0, e1, e3, e4, e18, e20, e24, hb52⟩; replace sl0 := e0.trans sl0; clear e0 hj45_0; replace sl1 := e1.trans sl1; clear e1 hj45_1; replace sl3 := e3.trans sl3; clear e3 hj45_3; replace sl4 := e4.trans sl4; clear e4 hj45_4; replace sl18 := e18.trans sl18; clear e18 hj45_18; replace sl20 := e20.trans sl20; clear e20 hj45_20; replace sl24 := e24.trans sl24; clear e24 hj45_24; clear qg qO; replace kg := kg.oldB hb52 (by first | (simp; done) | (simp; omega)); replace kO := kO.oldB hb52 (by first | (simp; done) | (simp; omega)); replace HB := hid (HB.out.more hb52 (by simp; try omega)); clear hb52; have qg := kg.1; have qO := kO.1
      repeat ((fail_if_success refine stp ?_); with_reducible go_step)
      have hj53_0 := hid sl0; have hj53_3 := hid sl3; have hj53_4 := hid sl4; have hj53_18 := hid sl18; have hj53_24 := hid sl24; refine cut_any (fun sJ wJ => ∃ (d2 : Array MCk), sJ 0 = s50 0 ∧ sJ 3 = s50 3 ∧ sJ 4 = s50 4 ∧ sJ 18 = s50 18 ∧ sJ 24 = s50 24 ∧ OldB [g] w51 wJ ∧ Cells wJ g (fl d2) ∧ (Hid (PermIn a mid d1 d2)) ∧ (Hid (SortedIn ltH a mid d2))) ?_ ?_
      ·skip
       have HL54 := hid (OldB.refl [g] w51)
       refine cond_E sl199 (by decide) ?_ ?_ <;> (clear sl199; intro h199 sl199)
       ·skip
        simp only [Bool.and_eq_true, decide_eq_true_eq] at h199
        repeat ((fail_if_success refine stp ?_); with_reducible go_step)
        refine region_F ?_
        iterate 5 refine pl ?_
        refine listF_step rfl (fun K' hK => ?_); unfold opF; go_simp; refine (Ih.out g cap O _ d1 Hz1.out a s mid _ kg kO hOg (by omega) (by omega) (by omega) (by omega) Hh1.out Hh2.out HA1.out (by omega)).mono ?_; rintro e w55 ⟨rfl, d6, kg6, ⟨hP6, hs6⟩, hb56⟩; have hP6 := hid hP6; have hs6 := hid hs6; refine ⟨_, rfl, hK _ _ ?_⟩; clear hK K'; clear qg qO; replace kg := kg6; replace kO := kO.oldB hb56 (by first | (simp; done) | (simp; omega)); replace HL54 := hid (HL54.out.more hb56 (by simp; try omega)); replace HB := hid (HB.out.more hb56 (by simp; try omega)); clear hb56; have qg := kg.1; have qO := kO.1; refine listF_abs (fun s57 z' => ?_); replace sl0 := gs 0 z' sl0; replace sl3 := gs 3 z' sl3; replace sl4 := gs 4 z' sl4; replace sl18 := gs 18 z' sl18; replace sl24 := gs 24 z' sl24; clear z' sl1 sl20 sl199; refine listF_nil ?_
        repeat ((fail_if_success refine stp ?_); with_reducible go_step)
        exact ⟨rfl, _, rfl, d6, (sl0.trans hj53_0.out.symm), (sl3.trans hj53_3.out.symm), (sl4.trans hj53_4.out.symm), (sl18.trans hj53_18.out.symm), (sl24.trans hj53_24.out.symm), HL54.out, (by first | (with_reducible exact kg) | (apply Cells.conv; (focus (exact kg)); (first | rfl | (simp; done)))), hP6, hs6⟩
       ·skip
        have h199' : s = a ∨ s = mid := by simp only [Bool.and_eq_false_iff, decide_eq_false_iff_not] at h199; omega
        have HX := hid (show SortedIn ltH a mid d1 by rcases h199' with hq | hq; rw [← hq]; exact Hh2.out; rw [← hq]; exact Hh1.out)
        repeat ((fail_if_success refine stp ?_); with_reducible go_step)
        exact ⟨rfl, _, rfl, d1, (sl0.trans hj53_0.out.symm), (sl3.trans hj53_3.out.symm), (sl4.trans hj53_4.out.symm), (sl18.trans hj53_18.out.symm), (sl24.trans hj53_24.out.symm), HL54.out, (by first | (with_reducible exact kg) | (apply Cells.conv; (focus (exact kg)); (first | rfl | (simp; done)))), hid (permIn_refl d1 a mid), HX⟩
      ·skip
       clear sl1 sl20 sl199; rintro s58 w59 ⟨d2, e0, e3, e4, e18, e24, hb60, mg', hP2, hS2⟩; replace sl0 := e0.trans sl0; clear e0 hj53_0; replace sl3 := e3.trans sl3; clear e3 hj53_3; replace sl4 := e4.trans sl4; clear e4 hj53_4; replace sl18 := e18.trans sl18; clear e18 hj53_18; replace sl24 := e24.trans sl24; clear e24 hj53_24; clear qg qO; replace kg := mg'; replace kO := kO.oldB hb60 (by first | (simp; done) | (simp; omega)); replace HB := hid (HB.out.more hb60 (by simp; try omega)); clear hb60; have qg := kg.1; have qO := kO.1; clear mg'; have hz2 : d2.size = d.size := hP2.out.1.trans Hz1.out; have Hz2 := hid hz2
       have hb2 : b ≤ d2.size := by omega
       have hs2k : d2.size ≤ 1000 := by omega
       clear hz2; have HA2 := hid (allH_perm (show mid ≤ d1.size by omega) hP2.out HA1.out); clear HA1; have HA1 := HA2; have Hk3 := hid (sorted_keep Hh3.out hP2.out (Nat.le_refl _)); have Hk4 := hid (sorted_keep Hh4.out hP2.out (show mid ≤ mid + m - s by omega)); replace Hk4 := hid (show SortedIn ltH e b d2 by have := Hk4.out; rwa [show mid + m - s = e by omega] at this); replace Hk3 := hid (show SortedIn ltH mid e d2 by have := Hk3.out; rwa [show mid + m - s = e by omega] at this)
       repeat ((fail_if_success refine stp ?_); with_reducible go_step)
       have hj61_0 := hid sl0; have hj61_3 := hid sl3; have hj61_4 := hid sl4; have hj61_18 := hid sl18; have hj61_24 := hid sl24; refine cut_any (fun sJ wJ => sJ 213 = .bool (decide (mid < e) && decide (e < b)) ∧ sJ 0 = s58 0 ∧ sJ 3 = s58 3 ∧ sJ 4 = s58 4 ∧ sJ 18 = s58 18 ∧ sJ 24 = s58 24 ∧ OldB [] w59 wJ) ?_ ?_
       ·skip
        have HL62 := hid (OldB.refl [] w59); refine region_F ?_
        iterate 4 refine pl ?_
        refine listF_abs (fun s63 z' => ?_); replace sl0 := gs 0 z' sl0; replace sl3 := gs 3 z' sl3; replace sl4 := gs 4 z' sl4; replace sl18 := gs 18 z' sl18; replace sl24 := gs 24 z' sl24; have sl209 := gu 209 z'; clear z'
        refine boolG sl209 (fun sl209' h209 => ?_) (fun sl209' h209 => ?_) <;> (clear sl209; have sl209 := sl209'; clear sl209')
        ·skip
         iterate 3 refine py ?_
         refine pl ?_; refine listF_abs (fun s64 z' => ?_); replace sl0 := gs 0 z' sl0; replace sl3 := gs 3 z' sl3; replace sl4 := gs 4 z' sl4; replace sl18 := gs 18 z' sl18; replace sl24 := gs 24 z' sl24; have sl213 := gu 213 z'; clear z' sl209; refine listF_nil ?_
         repeat ((fail_if_success refine stp ?_); with_reducible go_step)
         exact ⟨rfl, _, rfl, (by rw [sl213]; simp at h209 ⊢; (try intros); omega), (sl0.trans hj61_0.out.symm), (sl3.trans hj61_3.out.symm), (sl4.trans hj61_4.out.symm), (sl18.trans hj61_18.out.symm), (sl24.trans hj61_24.out.symm), HL62.out⟩
        ·skip
         refine pn false ?_; refine pn false ?_; refine pn false ?_; refine pl ?_; refine listF_abs (fun s65 z' => ?_); replace sl0 := gs 0 z' sl0; replace sl3 := gs 3 z' sl3; replace sl4 := gs 4 z' sl4; replace sl18 := gs 18 z' sl18; replace sl24 := gs 24 z' sl24; have sl213 := gu 213 z'; clear z' sl209; refine listF_nil ?_
         repeat ((fail_if_success refine stp ?_); with_reducible go_step)
         exact ⟨rfl, _, rfl, (by rw [sl213]; simp at h209 ⊢; (try intros); omega), (sl0.trans hj61_0.out.symm), (sl3.trans hj61_3.out.symm), (sl4.trans hj61_4.out.symm), (sl18.trans hj61_18.out.symm), (sl24.trans hj61_24.out.symm), HL62.out⟩
       ·skip
        rintro s66 w67 ⟨sl213, e0, e3, e4, e18, e24, hb68⟩; replace sl0 := e0.trans sl0; clear e0 hj61_0; replace sl3 := e3.trans sl3; clear e3 hj61_3; replace sl4 := e4.trans sl4; clear e4 hj61_4; replace sl18 := e18.trans sl18; clear e18 hj61_18; replace sl24 := e24.trans sl24; clear e24 hj61_24; clear qg qO; replace kg := kg.oldB hb68 (by first | (simp; done) | (simp; omega)); replace kO := kO.oldB hb68 (by first | (simp; done) | (simp; omega)); replace HB := hid (HB.out.more hb68 (by simp; try omega)); clear hb68; have qg := kg.1; have qO := kO.1
        repeat ((fail_if_success refine stp ?_); with_reducible go_step)
        refine cond_E sl213 (by decide) ?_ ?_ <;> (clear sl213; intro h213 sl213)
        ·skip
         simp only [Bool.and_eq_true, decide_eq_true_eq] at h213
         repeat ((fail_if_success refine stp ?_); with_reducible go_step)
         refine region_F ?_
         iterate 5 refine pl ?_
         refine listF_step rfl (fun K' hK => ?_); unfold opF; go_simp; refine (Ih.out g cap O _ d2 Hz2.out mid e b _ kg kO hOg (by omega) (by omega) (by omega) (by omega) Hk3.out Hk4.out HA1.out (by omega)).mono ?_; rintro e w69 ⟨rfl, d7, kg7, ⟨hP7, hs7⟩, hb70⟩; have hP7 := hid hP7; have hs7 := hid hs7; refine ⟨_, rfl, hK _ _ ?_⟩; clear hK K'; clear qg qO; replace kg := kg7; replace kO := kO.oldB hb70 (by first | (simp; done) | (simp; omega)); replace HB := hid (HB.out.more hb70 (by simp; try omega)); clear hb70; have qg := kg.1; have qO := kO.1; refine listF_abs (fun s71 z' => ?_); clear z' sl0 sl3 sl4 sl18 sl24 sl213; refine listF_nil ?_
         repeat ((fail_if_success refine stp ?_); with_reducible go_step)
         refine norm_F _ (res_none Try.results90) ?_; have HP2 := hid (permIn_trans _ _ _ _ _ hP.out (permIn_mono d1 d2 a mid a b (Nat.le_refl _) (by omega) (by omega) hP2.out)); exact ⟨rfl, d7, kg, ⟨permIn_trans _ _ _ _ _ HP2.out (permIn_mono d2 d7 mid b a b (by omega) (Nat.le_refl _) (by omega) hP7.out), sorted_two (d1 := d1) (by omega) (by omega) (by omega) Hc.out hP2.out hS2.out hP7.out hs7.out⟩, HB.out⟩
        ·skip
         have h213' : e = mid ∨ e = b := by simp only [Bool.and_eq_false_iff, decide_eq_false_iff_not] at h213; omega
         have HY := hid (show SortedIn ltH mid b d2 by rcases h213' with hq | hq; rw [← hq]; exact Hk4.out; rw [← hq]; exact Hk3.out)
         repeat ((fail_if_success refine stp ?_); with_reducible go_step)
         refine norm_F _ (res_none Try.results90) ?_; have HP2 := hid (permIn_trans _ _ _ _ _ hP.out (permIn_mono d1 d2 a mid a b (Nat.le_refl _) (by omega) (by omega) hP2.out)); exact ⟨rfl, d2, kg, ⟨HP2.out, sorted_two (d1 := d1) (by omega) (by omega) (by omega) Hc.out hP2.out hS2.out (permIn_refl d2 mid b) HY.out⟩, HB.out⟩

end Go.Proofs.Ytndcmmghgljinaa
