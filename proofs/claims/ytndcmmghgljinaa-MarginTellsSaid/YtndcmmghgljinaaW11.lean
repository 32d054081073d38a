/- The stable sort. -/
import Derived.Test.YtndcmmghgljinaaW10
set_option linter.all false
namespace Go.Proofs.Ytndcmmghgljinaa
open Go.RowKit

open Go.Sort
theorem sym_ih : ∀ K, SymIH K
  | 0 => by intro g cap O N d hN a m b w hg hO hOg hsz ham hmb hb hs1 hs2 hA h; omega
  | K + 1 => by
    intro g cap O N d hN a m b w hg hO hOg hsz ham hmb hb hs1 hs2 hA h
    have ih : SymIH (b - a) := fun g cap O N d hN a' m' b' w h1 h2 h3 h4 h5 h6 h7 h8 h9 h10 h11 => sym_ih K g cap O N d hN a' m' b' w h1 h2 h3 h4 h5 h6 h7 h8 h9 h10 (by omega)
    by_cases c1 : m = a + 1
    · exact sym_a g cap O N d hN a m b w hg hO hOg hsz ham hmb hb hs1 hs2 hA ih c1
    · by_cases c2 : b = m + 1
      · exact sym_b g cap O N d hN a m b w hg hO hOg hsz ham hmb hb hs1 hs2 hA ih c1 c2
      · exact sym_c g cap O N d hN a m b w hg hO hOg hsz ham hmb hb hs1 hs2 hA ih c1 c2
def SStt (bs : Nat) (d : Array MCk) : Prop := (d.size ≤ bs → SortedIn ltH 0 d.size d) ∧ (bs = 20 → 20 < d.size → SortedIn ltH 0 20 d ∧ SortedIn ltH 20 d.size d)
theorem sorted_low {a a' b : Nat} {d : Array MCk} (h : SortedIn ltH a b d) (ha : a ≤ a') : SortedIn ltH a' b d := fun i j h1 h2 h3 => h i j (by omega) h2 h3
theorem sorted_cut {a b n : Nat} {d1 d2 : Array MCk} (h : SortedIn ltH a b d1) (hp : PermIn b n d1 d2) : SortedIn ltH a b d2 := by
  intro i j h1 h2 h3; rw [hp.2.1 i (.inl (by omega)), hp.2.1 j (.inl h3)]; exact h i j h1 h2 h3
theorem sstt_start {x : Nat} {d1 d2 : Array MCk} (hx : x = 0 ∨ (x = 20 ∧ 20 ≤ d1.size)) (h1 : SortedIn ltH 0 x d1) (hp : PermIn x d1.size d1 d2) (h2 : SortedIn ltH x d1.size d2) : SStt 20 d2 := by
  have hs := hp.1; unfold SStt; rw [hs]
  rcases hx with rfl | ⟨rfl, hx⟩
  · exact ⟨fun _ => h2, fun _ h => ⟨sorted_mono h2 (by omega), sorted_low h2 (by omega)⟩⟩
  · have h3 := sorted_cut h1 hp
    exact ⟨fun h => by rw [show d1.size = 20 by omega]; exact h3, fun _ h => ⟨h3, h2⟩⟩

set_option maxRecDepth 100000 in
set_option maxHeartbeats 1000000 in
theorem insSort_nil (v u : Value) (w : World) :
    Calls Try.prog 89 #[v, .int .i64 0, .int .i64 0, u] w (fun e w' => e = .returned (.tuple #[]) ∧ Below w.heap.size w w') := by
 have w1 : IntKind.i64.wrap 1 = 1 := by decide
 refine enter_F Try.func89 rfl Try.ntmps89 (by simp) ?_
 intro s0 hs; have sl0 : s0 0 = v := hs 0 (by simp); have sl1 : s0 1 = .int .i64 0 := hs 1 (by simp); have sl2 : s0 2 = .int .i64 0 := hs 2 (by simp); have sl3 : s0 3 = u := hs 3 (by simp); clear hs; have HB := hid (OldB.refl [] w)
 repeat ((fail_if_success refine stp ?_); with_reducible go_step)
 refine region_F ?_
 iterate 3 refine pl ?_
 refine listF_abs (fun s1 z' => ?_); replace sl0 := gs 0 z' sl0; replace sl1 := gs 1 z' sl1; replace sl2 := gs 2 z' sl2; replace sl3 := gs 3 z' sl3; have sl8 := gu 8 z'; clear z'; refine listF_nil ?_
 repeat ((fail_if_success refine stp ?_); with_reducible go_step)
 have hc0_0 := hid sl0; have hc0_1 := hid sl1; have hc0_2 := hid sl2; have hc0_3 := hid sl3; refine loop_F (n := 53) (fun kJ sJ wJ => kJ = 0 ∧ sJ 8 = .int .i64 1 ∧ sJ 0 = s1 0 ∧ sJ 1 = s1 1 ∧ sJ 2 = s1 2 ∧ sJ 3 = s1 3 ∧ OldB [] w wJ) ⟨rfl, (by first | exact sl8 | (rw [sl8]; go_num) | (rw [sl8]; rfl)), rfl, rfl, rfl, rfl, OldB.refl _ _⟩ ?_; clear sl8; rintro kJ s2 w3 ⟨rfl, sl8, e0, e1, e2, e3, hb4⟩; replace sl0 := e0.trans sl0; clear e0; replace sl1 := e1.trans sl1; clear e1; replace sl2 := e2.trans sl2; clear e2; replace sl3 := e3.trans sl3; clear e3; have hoJ := hb4; replace HB := hid (HB.out.more hb4 (by simp; try omega)); clear hb4; have HoJ := hid hoJ; clear hoJ; have HL5 := HoJ; clear HoJ
 repeat ((fail_if_success refine stp ?_); with_reducible go_step)
 refine region_F ?_
 iterate 3 refine pl ?_
 refine listF_abs (fun s6 z' => ?_); replace sl0 := gs 0 z' sl0; replace sl1 := gs 1 z' sl1; replace sl2 := gs 2 z' sl2; replace sl3 := gs 3 z' sl3; replace sl8 := gs 8 z' sl8; have sl14 := gu 14 z'; clear z'; refine listF_nil ?_
 repeat ((fail_if_success refine stp ?_); with_reducible go_step)
 refine cond_f ?_
 repeat ((fail_if_success refine stp ?_); with_reducible go_step)
 clear HL5; clear hc0_0 hc0_1 hc0_2 hc0_3; refine norm_F _ (res_none Try.results89) ?_; exact ⟨rfl, HB.out.toBelow⟩

set_option maxRecDepth 100000 in
set_option maxHeartbeats 1000000 in
theorem stable_any (g cap O N : Nat) (d : Array MCk) (hN : d.size = N) (w : World) (hg : Cells w g (fl d)) (hO : Cells w O [.func (.func 73) #[] #[]]) (hOg : ¬ O = g) (hsz : d.size ≤ 30) (hA : AllH d) :
    Calls Try.prog 88 #[.slice (some ⟨g, 0, none⟩) N cap, .int .i64 (N : Int), .func (.func 85) #[] #[.pointer (some ⟨O, 0, none⟩)]] w (SortRes g w (fun d' => PermIn 0 d.size d d' ∧ SortedIn ltH 0 d.size d')) := by
 obtain rfl := hN; have HA := hid hA; clear hA; have kg := hg; have kO := hO
 refine enter_F Try.func88 rfl Try.ntmps88 (by simp) ?_
 intro s0 hs; have sl0 : s0 0 = .slice (some ⟨g, 0, none⟩) d.size cap := hs 0 (by simp); have sl1 : s0 1 = .int .i64 (d.size : Int) := hs 1 (by simp); have sl2 : s0 2 = .func (.func 85) #[] #[.pointer (some ⟨O, 0, none⟩)] := hs 2 (by simp); clear hs; have HB := hid (OldB.refl [g] w); have qg := kg.1; have qO := kO.1
 repeat ((fail_if_success refine stp ?_); with_reducible go_step)
 refine region_F ?_; refine pl ?_; refine listF_abs (fun s1 z' => ?_); replace sl0 := gs 0 z' sl0; replace sl1 := gs 1 z' sl1; replace sl2 := gs 2 z' sl2; have sl6 := gu 6 z'; clear z'; refine listF_nil ?_
 repeat ((fail_if_success refine stp ?_); with_reducible go_step)
 refine region_F ?_
 iterate 3 refine pl ?_
 refine listF_abs (fun s2 z' => ?_); replace sl0 := gs 0 z' sl0; replace sl1 := gs 1 z' sl1; replace sl2 := gs 2 z' sl2; replace sl6 := gs 6 z' sl6; have sl7 := gu 7 z'; have sl8 := gu 8 z'; clear z'; refine listF_nil ?_
 repeat ((fail_if_success refine stp ?_); with_reducible go_step)
 have hc0_0 := hid sl0; have hc0_1 := hid sl1; have hc0_2 := hid sl2; have hc0_6 := hid sl6; refine loop_F (n := 63) (fun kJ sJ wJ => ∃ (x : Nat) (d1 : Array MCk), kJ = 60 - x ∧ sJ 7 = .int .i64 (x : Int) ∧ sJ 8 = .int .i64 ((x : Int) + 20) ∧ sJ 0 = s2 0 ∧ sJ 1 = s2 1 ∧ sJ 2 = s2 2 ∧ sJ 6 = s2 6 ∧ OldB [g] w wJ ∧ Cells wJ g (fl d1) ∧ (x = 0 ∨ (x = 20 ∧ 20 ≤ d.size)) ∧ Hid (PermIn 0 d.size d d1) ∧ Hid (SortedIn ltH 0 x d1)) ⟨0, d, rfl, (by first | exact sl7 | (rw [sl7]; go_num) | (rw [sl7]; rfl)), (by first | exact sl8 | (rw [sl8]; go_num) | (rw [sl8]; rfl)), rfl, rfl, rfl, rfl, OldB.refl _ _, (by first | (with_reducible exact kg) | (apply Cells.conv; (focus (exact kg)); (first | rfl | (simp; done)))), .inl rfl, hid (permIn_refl d 0 d.size), hid (fun i j h1 h2 h3 => by omega)⟩ ?_; clear sl7 sl8; rintro kJ s3 w4 ⟨x, d1, rfl, sl7, sl8, e0, e1, e2, e6, hb5, mg', hx, hP, hs⟩; replace sl0 := e0.trans sl0; clear e0
 replace sl1 := e1.trans sl1; clear e1; replace sl2 := e2.trans sl2; clear e2; replace sl6 := e6.trans sl6; clear e6; have hoJ := hb5; clear qg qO; replace kg := mg'; replace kO := kO.oldB hb5 (by first | (simp; done) | (simp; omega)); replace HB := hid (HB.out.more hb5 (by simp; try omega)); clear hb5; have qg := kg.1; have qO := kO.1; clear mg'; have HoJ := hid hoJ; clear hoJ; have hz1 : d1.size = d.size := hP.out.1; have Hz1 := hid hz1
 have hs1k : d1.size ≤ 1000 := by omega
 have hs1d : d.size ≤ d1.size := by omega
 have hs1e : d1.size ≤ d.size := by omega
 clear hz1; have HA1 := hid (allH_perm (Nat.le_refl _) hP.out HA.out); obtain ⟨y, hy⟩ : ∃ y : Nat, (x : Int) + 20 = (y : Int) := ⟨x + 20, by omega⟩; have wy : IntKind.i64.wrap (y : Int) = (y : Int) := IntWalk.i64_in _ (by omega); have HL6 := HoJ; clear HoJ
 repeat ((fail_if_success refine stp ?_); with_reducible go_step)
 refine region_F ?_
 iterate 3 refine pl ?_
 refine listF_abs (fun s7 z' => ?_); replace sl0 := gs 0 z' sl0; replace sl1 := gs 1 z' sl1; replace sl2 := gs 2 z' sl2; replace sl6 := gs 6 z' sl6; replace sl7 := gs 7 z' sl7; replace sl8 := gs 8 z' sl8; have sl13 := gu 13 z'; clear z'; refine listF_nil ?_
 repeat ((fail_if_success refine stp ?_); with_reducible go_step)
 refine cond_E sl13 (by decide) ?_ ?_ <;> (clear sl13; intro h13 sl13)
 ·skip
  have h13' : y ≤ d.size := by simpa using h13
  have hx0 : x ≤ 0 := by omega
  repeat ((fail_if_success refine stp ?_); with_reducible go_step)
  refine region_F ?_
  iterate 4 refine pl ?_
  refine listF_step rfl (fun K' hK => ?_); unfold opF; go_simp; refine (insSort_any g cap O _ d1 Hz1.out x y _ kg kO hOg (by omega) (by omega) (by omega) HA1.out).mono ?_; rintro e w8 ⟨rfl, d2, kg2, ⟨hP2, hs2⟩, hb9⟩; have hP2 := hid hP2; have hs2 := hid hs2; refine ⟨_, rfl, hK _ _ ?_⟩; clear hK K'; clear qg qO; replace kg := kg2; replace kO := kO.oldB hb9 (by first | (simp; done) | (simp; omega)); replace HL6 := hid (HL6.out.more hb9 (by simp; try omega)); replace HB := hid (HB.out.more hb9 (by simp; try omega)); clear hb9; have qg := kg.1; have qO := kO.1; refine listF_abs (fun s10 z' => ?_); replace sl0 := gs 0 z' sl0; replace sl1 := gs 1 z' sl1; replace sl2 := gs 2 z' sl2; replace sl6 := gs 6 z' sl6; replace sl8 := gs 8 z' sl8; clear z' sl7 sl13; refine listF_nil ?_
  repeat ((fail_if_success refine stp ?_); with_reducible go_step)
  refine region_F ?_; refine pl ?_; refine pl ?_; refine listF_abs (fun s11 z' => ?_); replace sl0 := gs 0 z' sl0; replace sl1 := gs 1 z' sl1; replace sl2 := gs 2 z' sl2; replace sl6 := gs 6 z' sl6; have sl7 := gu 7 z'; replace sl8 := gs 8 z' sl8; clear z'; refine listF_nil ?_
  repeat ((fail_if_success refine stp ?_); with_reducible go_step)
  refine region_F ?_
  iterate 4 refine pl ?_
  refine listF_abs (fun s12 z' => ?_); replace sl0 := gs 0 z' sl0; replace sl1 := gs 1 z' sl1; replace sl2 := gs 2 z' sl2; replace sl6 := gs 6 z' sl6; replace sl7 := gs 7 z' sl7; replace sl8 := gu 8 z'; clear z'; refine listF_nil ?_
  repeat ((fail_if_success refine stp ?_); with_reducible go_step)
  refine ⟨_, _, rfl, ?_, 20, d2, rfl, (by first | (with_reducible exact sl7) | (rw [sl7]; (with_reducible go_num); done) | (rw [sl7, IntWalk.i64_in] <;> first | ((with_reducible go_num); done) | omega) | (rw [sl7]; go_num; done) | (rw [sl7]; simp; done) | (rw [sl7]; simp; omega)), (by first | (with_reducible exact sl8) | (rw [sl8]; (with_reducible go_num); done) | (rw [sl8, IntWalk.i64_in] <;> first | ((with_reducible go_num); done) | omega) | (rw [sl8]; go_num; done) | (rw [sl8]; simp; done) | (rw [sl8]; simp; omega)), (sl0.trans hc0_0.out.symm), (sl1.trans hc0_1.out.symm), (sl2.trans hc0_2.out.symm), (sl6.trans hc0_6.out.symm), HL6.out, (by first | (with_reducible exact kg) | (apply Cells.conv; (focus (exact kg)); (first | rfl | (simp; done)))), (by omega), hid (permIn_trans _ _ _ _ _ hP.out (permIn_mono d1 d2 0 20 0 d.size (by omega) (by omega) (by omega) (by have := hP2.out; rwa [show x = 0 by omega, show y = 20 by omega] at this))), hid (by have := hs2.out; rwa [show x = 0 by omega, show y = 20 by omega] at this)⟩
  omega
 ·skip
  have h13' : ¬ y ≤ d.size := by simpa using h13
  repeat ((fail_if_success refine stp ?_); with_reducible go_step)
  clear HL6; clear hc0_0 hc0_1 hc0_2 hc0_6; refine region_F ?_
  iterate 4 refine pl ?_
  refine listF_step rfl (fun K' hK => ?_); unfold opF; go_simp; refine (insSort_any g cap O _ d1 Hz1.out x d.size _ kg kO hOg (by omega) (by omega) (by omega) HA1.out).mono ?_; rintro e w13 ⟨rfl, d4, kg4, ⟨hP4, hs4⟩, hb14⟩; have HP4 := hid (permIn_trans _ _ _ _ _ hP.out (permIn_mono d1 d4 x d.size 0 d.size (by omega) (by omega) (by omega) hP4)); have HS4 := hid (sstt_start (x := x) (by omega) hs.out (by rw [Hz1.out]; exact hP4) (by rw [Hz1.out]; exact hs4)); clear hP4 hs4; refine ⟨_, rfl, hK _ _ ?_⟩; clear hK K'; clear qg qO; replace kg := kg4; replace kO := kO.oldB hb14 (by first | (simp; done) | (simp; omega)); replace HB := hid (HB.out.more hb14 (by simp; try omega)); clear hb14; have qg := kg.1; have qO := kO.1; refine listF_abs (fun s15 z' => ?_); replace sl0 := gs 0 z' sl0; replace sl1 := gs 1 z' sl1; replace sl2 := gs 2 z' sl2; replace sl6 := gs 6 z' sl6; clear z' sl7 sl8 sl13; refine listF_nil ?_
  repeat ((fail_if_success refine stp ?_); with_reducible go_step)
  have hc1_0 := hid sl0; have hc1_1 := hid sl1; have hc1_2 := hid sl2; refine loop_F (n := 63) (fun kJ sJ wJ => ∃ (bs : Nat) (d3 : Array MCk), kJ = 60 - bs ∧ sJ 6 = .int .i64 (bs : Int) ∧ sJ 0 = s15 0 ∧ sJ 1 = s15 1 ∧ sJ 2 = s15 2 ∧ OldB [g] w13 wJ ∧ Cells wJ g (fl d3) ∧ (bs = 20 ∨ bs = 40) ∧ Hid (PermIn 0 d.size d d3) ∧ Hid (SStt bs d3)) ⟨20, d4, rfl, (by first | exact sl6 | (rw [sl6]; go_num) | (rw [sl6]; rfl)), rfl, rfl, rfl, OldB.refl _ _, (by first | (with_reducible exact kg) | (apply Cells.conv; (focus (exact kg)); (first | rfl | (simp; done)))), .inl rfl, HP4, HS4⟩ ?_; clear sl6; rintro kJ s16 w17 ⟨bs, d3, rfl, sl6, e0, e1, e2, hb18, mg', hbs, hP3, hS3⟩; replace sl0 := e0.trans sl0; clear e0; replace sl1 := e1.trans sl1; clear e1; replace sl2 := e2.trans sl2; clear e2; have hoJ := hb18; clear qg qO; replace kg := mg'; replace kO := kO.oldB hb18 (by first | (simp; done) | (simp; omega)); replace HB := hid (HB.out.more hb18 (by simp; try omega))
  clear hb18; have qg := kg.1; have qO := kO.1; clear mg'; have HoJ := hid hoJ; clear hoJ; have hz3 : d3.size = d.size := hP3.out.1; have Hz3 := hid hz3
  have hs3k : d3.size ≤ 1000 := by omega
  have hs3d : d.size ≤ d3.size := by omega
  have hs3e : d3.size ≤ d.size := by omega
  clear hz3; have HA3 := hid (allH_perm (Nat.le_refl _) hP3.out HA.out); have HL19 := HoJ; clear HoJ
  repeat ((fail_if_success refine stp ?_); with_reducible go_step)
  refine region_F ?_
  iterate 3 refine pl ?_
  refine listF_abs (fun s20 z' => ?_); replace sl0 := gs 0 z' sl0; replace sl1 := gs 1 z' sl1; replace sl2 := gs 2 z' sl2; replace sl6 := gs 6 z' sl6; have sl30 := gu 30 z'; clear z'; refine listF_nil ?_
  repeat ((fail_if_success refine stp ?_); with_reducible go_step)
  refine cond_E sl30 (by decide) ?_ ?_ <;> (clear sl30; intro h30 sl30)
  ·skip
   have h30' : bs < d.size := by simpa using h30
   have hb1 : bs ≤ 20 := by omega
   have hb2 : 20 ≤ bs := by omega
   obtain ⟨hc1, hc2⟩ := hS3.out.2 (by omega) (by omega); have Hc1 := hid hc1; have Hc2 := hid hc2; clear hc1 hc2; have wb2 : IntKind.i64.wrap (2 * (bs : Int)) = 2 * (bs : Int) := IntWalk.i64_in _ (by omega); have wb3 : IntKind.i64.wrap ((bs : Int) * 2) = (bs : Int) * 2 := IntWalk.i64_in _ (by omega); have wb4 : IntKind.i64.wrap ((bs : Int)) = (bs : Int) := IntWalk.i64_in _ (by omega)
   have hb3 : (bs : Int) < (d.size : Int) := by omega
   repeat ((fail_if_success refine stp ?_); with_reducible go_step)
   refine region_F ?_
   iterate 4 refine pl ?_
   refine listF_abs (fun s21 z' => ?_); replace sl0 := gs 0 z' sl0; replace sl1 := gs 1 z' sl1; replace sl2 := gs 2 z' sl2; replace sl6 := gs 6 z' sl6; have sl7 := gu 7 z'; have sl8 := gu 8 z'; clear z' sl30; refine listF_nil ?_
   repeat ((fail_if_success refine stp ?_); with_reducible go_step)
   have hc2_0 := hid sl0; have hc2_1 := hid sl1; have hc2_2 := hid sl2; have hc2_6 := hid sl6; refine loop_F (n := 63) (fun kJ sJ wJ => kJ = 0 ∧ sJ 7 = .int .i64 0 ∧ sJ 8 = .int .i64 (2 * (bs : Int)) ∧ sJ 0 = s21 0 ∧ sJ 1 = s21 1 ∧ sJ 2 = s21 2 ∧ sJ 6 = s21 6 ∧ OldB [] w17 wJ) ⟨rfl, (by first | exact sl7 | (rw [sl7]; go_num) | (rw [sl7]; rfl)), (by first | exact sl8 | (rw [sl8]; go_num) | (rw [sl8]; rfl)), rfl, rfl, rfl, rfl, OldB.refl _ _⟩ ?_; clear sl7 sl8; rintro kJ s22 w23 ⟨rfl, sl7, sl8, e0, e1, e2, e6, hb24⟩; replace sl0 := e0.trans sl0; clear e0; replace sl1 := e1.trans sl1; clear e1; replace sl2 := e2.trans sl2; clear e2; replace sl6 := e6.trans sl6; clear e6; have hoJ := hb24; clear qg qO; replace kg := kg.oldB hb24 (by first | (simp; done) | (simp; omega)); replace kO := kO.oldB hb24 (by first | (simp; done) | (simp; omega)); replace HL19 := hid (HL19.out.more hb24 (by simp; try omega)); replace HB := hid (HB.out.more hb24 (by simp; try omega))
   clear hb24; have qg := kg.1; have qO := kO.1; have HoJ := hid hoJ; clear hoJ; have HL25 := HoJ; clear HoJ
   repeat ((fail_if_success refine stp ?_); with_reducible go_step)
   refine region_F ?_
   iterate 3 refine pl ?_
   refine listF_abs (fun s26 z' => ?_); replace sl0 := gs 0 z' sl0; replace sl1 := gs 1 z' sl1; replace sl2 := gs 2 z' sl2; replace sl6 := gs 6 z' sl6; replace sl7 := gs 7 z' sl7; replace sl8 := gs 8 z' sl8; have sl35 := gu 35 z'; clear z'; refine listF_nil ?_
   repeat ((fail_if_success refine stp ?_); with_reducible go_step)
   refine cond_E sl35 (by decide) ?_ ?_ <;> (clear sl35; intro h35 sl35)
   ·skip
    first | (simp at h35; done) | (simp at h35; omega)
   ·skip
    repeat ((fail_if_success refine stp ?_); with_reducible go_step)
    clear HL25; clear hc2_0 hc2_1 hc2_2 hc2_6; refine region_F ?_
    iterate 4 refine pl ?_
    refine listF_abs (fun s27 z' => ?_); replace sl0 := gs 0 z' sl0; replace sl1 := gs 1 z' sl1; replace sl2 := gs 2 z' sl2; replace sl6 := gs 6 z' sl6; replace sl7 := gs 7 z' sl7; have sl9 := gu 9 z'; clear z' sl8 sl35; refine listF_nil ?_
    repeat ((fail_if_success refine stp ?_); with_reducible go_step)
    refine region_F ?_
    iterate 3 refine pl ?_
    refine listF_abs (fun s28 z' => ?_); replace sl0 := gs 0 z' sl0; replace sl1 := gs 1 z' sl1; replace sl2 := gs 2 z' sl2; replace sl6 := gs 6 z' sl6; replace sl7 := gs 7 z' sl7; replace sl9 := gs 9 z' sl9; have sl54 := gu 54 z'; clear z'; refine listF_nil ?_
    repeat ((fail_if_success refine stp ?_); with_reducible go_step)
    refine cond_E sl54 (by decide) ?_ ?_ <;> (clear sl54; intro h54 sl54)
    ·skip
     repeat ((fail_if_success refine stp ?_); with_reducible go_step)
     refine region_F ?_
     iterate 5 refine pl ?_
     refine listF_step rfl (fun K' hK => ?_); unfold opF; go_simp; refine (sym_ih (d3.size + 1) g cap O _ d3 Hz3.out 0 bs d.size _ kg kO hOg (by omega) (by omega) (by omega) (by omega) (by have := Hc1.out; rwa [show (20 : Nat) = bs by omega] at this) (by have := Hc2.out; rwa [show (20 : Nat) = bs by omega, Hz3.out] at this) HA3.out (by omega)).mono ?_; rintro e w29 ⟨rfl, d5, kg5, ⟨hP5, hs5⟩, hb30⟩; have hP5 := hid (show PermIn 0 d3.size d3 d5 by rw [Hz3.out]; exact hP5); have hs5 := hid (show SortedIn ltH 0 d3.size d5 by rw [Hz3.out]; exact hs5); refine ⟨_, rfl, hK _ _ ?_⟩; clear hK K'; clear qg qO; replace kg := kg5; replace kO := kO.oldB hb30 (by first | (simp; done) | (simp; omega)); replace HL19 := hid (HL19.out.more hb30 (by simp; try omega)); replace HB := hid (HB.out.more hb30 (by simp; try omega)); clear hb30; have qg := kg.1; have qO := kO.1; refine listF_abs (fun s31 z' => ?_); replace sl0 := gs 0 z' sl0; replace sl1 := gs 1 z' sl1; replace sl2 := gs 2 z' sl2; replace sl6 := gs 6 z' sl6; clear z' sl7 sl9 sl54
     refine listF_nil ?_
     repeat ((fail_if_success refine stp ?_); with_reducible go_step)
     refine region_F ?_
     iterate 3 refine pl ?_
     refine listF_abs (fun s32 z' => ?_); replace sl0 := gs 0 z' sl0; replace sl1 := gs 1 z' sl1; replace sl2 := gs 2 z' sl2; replace sl6 := gu 6 z'; clear z'; refine listF_nil ?_
     repeat ((fail_if_success refine stp ?_); with_reducible go_step)
     refine ⟨_, _, rfl, ?_, 40, d5, rfl, (by first | (with_reducible exact sl6) | (rw [sl6]; (with_reducible go_num); done) | (rw [sl6, IntWalk.i64_in] <;> first | ((with_reducible go_num); done) | omega) | (rw [sl6]; go_num; done) | (rw [sl6]; simp; done) | (rw [sl6]; simp; omega)), (sl0.trans hc1_0.out.symm), (sl1.trans hc1_1.out.symm), (sl2.trans hc1_2.out.symm), HL19.out, (by first | (with_reducible exact kg) | (apply Cells.conv; (focus (exact kg)); (first | rfl | (simp; done)))), (.inr rfl), hid (permIn_trans _ _ _ _ _ hP3.out (by have := hP5.out; rwa [Hz3.out] at this)), hid ⟨fun _ => by rw [hP5.out.1]; exact hs5.out, fun h => by omega⟩⟩
     omega
    ·skip
     first | (simp at h54; done) | (simp at h54; omega)
  ·skip
   have h30' : ¬ bs < d.size := by simpa using h30
   repeat ((fail_if_success refine stp ?_); with_reducible go_step)
   clear HL19; clear hc1_0 hc1_1 hc1_2; refine norm_F _ (res_none Try.results88) ?_; exact ⟨rfl, d3, kg, ⟨hP3.out, by have := hS3.out.1 (by omega); rwa [Hz3.out] at this⟩, HB.out⟩

set_option maxRecDepth 100000 in
set_option maxHeartbeats 1000000 in
theorem stable_nil (v u : Value) (w : World) :
    Calls Try.prog 88 #[v, .int .i64 0, u] w (fun e w' => e = .returned (.tuple #[]) ∧ Below w.heap.size w w') := by
 refine enter_F Try.func88 rfl Try.ntmps88 (by simp) ?_
 intro s0 hs; have sl0 : s0 0 = v := hs 0 (by simp); have sl1 : s0 1 = .int .i64 0 := hs 1 (by simp); have sl2 : s0 2 = u := hs 2 (by simp); clear hs; have HB := hid (OldB.refl [] w)
 repeat ((fail_if_success refine stp ?_); with_reducible go_step)
 refine region_F ?_; refine pl ?_; refine listF_abs (fun s1 z' => ?_); replace sl0 := gs 0 z' sl0; replace sl1 := gs 1 z' sl1; replace sl2 := gs 2 z' sl2; have sl6 := gu 6 z'; clear z'; refine listF_nil ?_
 repeat ((fail_if_success refine stp ?_); with_reducible go_step)
 refine region_F ?_
 iterate 3 refine pl ?_
 refine listF_abs (fun s2 z' => ?_); replace sl0 := gs 0 z' sl0; replace sl1 := gs 1 z' sl1; replace sl2 := gs 2 z' sl2; replace sl6 := gs 6 z' sl6; have sl7 := gu 7 z'; have sl8 := gu 8 z'; clear z'; refine listF_nil ?_
 repeat ((fail_if_success refine stp ?_); with_reducible go_step)
 have hc0_0 := hid sl0; have hc0_1 := hid sl1; have hc0_2 := hid sl2; have hc0_6 := hid sl6; refine loop_F (n := 63) (fun kJ sJ wJ => kJ = 0 ∧ sJ 7 = .int .i64 0 ∧ sJ 8 = .int .i64 20 ∧ sJ 0 = s2 0 ∧ sJ 1 = s2 1 ∧ sJ 2 = s2 2 ∧ sJ 6 = s2 6 ∧ OldB [] w wJ) ⟨rfl, (by first | exact sl7 | (rw [sl7]; go_num) | (rw [sl7]; rfl)), (by first | exact sl8 | (rw [sl8]; go_num) | (rw [sl8]; rfl)), rfl, rfl, rfl, rfl, OldB.refl _ _⟩ ?_; clear sl7 sl8; rintro kJ s3 w4 ⟨rfl, sl7, sl8, e0, e1, e2, e6, hb5⟩; replace sl0 := e0.trans sl0; clear e0; replace sl1 := e1.trans sl1; clear e1; replace sl2 := e2.trans sl2; clear e2; replace sl6 := e6.trans sl6; clear e6; have hoJ := hb5; replace HB := hid (HB.out.more hb5 (by simp; try omega)); clear hb5; have HoJ := hid hoJ; clear hoJ; have HL6 := HoJ; clear HoJ
 repeat ((fail_if_success refine stp ?_); with_reducible go_step)
 refine region_F ?_
 iterate 3 refine pl ?_
 refine listF_abs (fun s7 z' => ?_); replace sl0 := gs 0 z' sl0; replace sl1 := gs 1 z' sl1; replace sl2 := gs 2 z' sl2; replace sl6 := gs 6 z' sl6; replace sl7 := gs 7 z' sl7; replace sl8 := gs 8 z' sl8; have sl13 := gu 13 z'; clear z'; refine listF_nil ?_
 repeat ((fail_if_success refine stp ?_); with_reducible go_step)
 refine cond_f ?_
 repeat ((fail_if_success refine stp ?_); with_reducible go_step)
 clear HL6; clear hc0_0 hc0_1 hc0_2 hc0_6; refine region_F ?_
 iterate 4 refine pl ?_
 refine listF_step rfl (fun K' hK => ?_); unfold opF; go_simp; refine (insSort_nil v u _).mono ?_; rintro e w8 ⟨rfl, hb9⟩; refine ⟨_, rfl, hK _ _ ?_⟩; clear hK K'; replace HB := hid (HB.out.below hb9); clear hb9; refine listF_abs (fun s10 z' => ?_); replace sl0 := gs 0 z' sl0; replace sl1 := gs 1 z' sl1; replace sl2 := gs 2 z' sl2; replace sl6 := gs 6 z' sl6; clear z' sl7 sl8 sl13; refine listF_nil ?_
 repeat ((fail_if_success refine stp ?_); with_reducible go_step)
 have hc1_0 := hid sl0; have hc1_1 := hid sl1; have hc1_2 := hid sl2; refine loop_F (n := 63) (fun kJ sJ wJ => kJ = 0 ∧ sJ 6 = .int .i64 20 ∧ sJ 0 = s10 0 ∧ sJ 1 = s10 1 ∧ sJ 2 = s10 2 ∧ OldB [] w8 wJ) ⟨rfl, (by first | exact sl6 | (rw [sl6]; go_num) | (rw [sl6]; rfl)), rfl, rfl, rfl, OldB.refl _ _⟩ ?_; clear sl6; rintro kJ s11 w12 ⟨rfl, sl6, e0, e1, e2, hb13⟩; replace sl0 := e0.trans sl0; clear e0; replace sl1 := e1.trans sl1; clear e1; replace sl2 := e2.trans sl2; clear e2; have hoJ := hb13; replace HB := hid (HB.out.more hb13 (by simp; try omega)); clear hb13; have HoJ := hid hoJ; clear hoJ; have HL14 := HoJ; clear HoJ
 repeat ((fail_if_success refine stp ?_); with_reducible go_step)
 refine region_F ?_
 iterate 3 refine pl ?_
 refine listF_abs (fun s15 z' => ?_); replace sl0 := gs 0 z' sl0; replace sl1 := gs 1 z' sl1; replace sl2 := gs 2 z' sl2; replace sl6 := gs 6 z' sl6; have sl30 := gu 30 z'; clear z'; refine listF_nil ?_
 repeat ((fail_if_success refine stp ?_); with_reducible go_step)
 refine cond_f ?_
 repeat ((fail_if_success refine stp ?_); with_reducible go_step)
 clear HL14; clear hc1_0 hc1_1 hc1_2; refine norm_F _ (res_none Try.results88) ?_; exact ⟨rfl, HB.out.toBelow⟩

set_option maxRecDepth 100000 in
set_option maxHeartbeats 1000000 in
theorem sortStable_any (g cap O N : Nat) (d : Array MCk) (hN : d.size = N) (w : World) (hg : Cells w g (fl d)) (hO : Cells w O [.func (.func 73) #[] #[]]) (hOg : ¬ O = g) (hsz : d.size ≤ 30) (hA : AllH d) :
    Calls Try.prog 84 #[.slice (some ⟨g, 0, none⟩) N cap, .func (.func 85) #[] #[.pointer (some ⟨O, 0, none⟩)]] w (SortRes g w (fun d' => PermIn 0 d.size d d' ∧ SortedIn ltH 0 d.size d')) := by
 obtain rfl := hN; have HA := hid hA; clear hA; have kg := hg; have kO := hO
 refine enter_F Try.func84 rfl Try.ntmps84 (by simp) ?_
 intro s0 hs; have sl0 : s0 0 = .slice (some ⟨g, 0, none⟩) d.size cap := hs 0 (by simp); have sl1 : s0 1 = .func (.func 85) #[] #[.pointer (some ⟨O, 0, none⟩)] := hs 1 (by simp); clear hs; have HB := hid (OldB.refl [g] w); have qg := kg.1; have qO := kO.1
 repeat ((fail_if_success refine stp ?_); with_reducible go_step)
 refine region_F ?_
 iterate 4 refine pl ?_
 refine listF_step rfl (fun K' hK => ?_); unfold opF; go_simp; refine (stable_any g cap O _ d rfl _ kg kO hOg hsz HA.out).mono ?_; rintro e w1 ⟨rfl, d2, kg2, ⟨hP2, hs2⟩, hb2⟩; have hP2 := hid hP2; have hs2 := hid hs2; refine ⟨_, rfl, hK _ _ ?_⟩; clear hK K'; clear qg qO; replace kg := kg2; replace kO := kO.oldB hb2 (by first | (simp; done) | (simp; omega)); replace HB := hid (HB.out.more hb2 (by simp; try omega)); clear hb2; have qg := kg.1; have qO := kO.1; refine listF_abs (fun s3 z' => ?_); clear z' sl0 sl1; refine listF_nil ?_
 repeat ((fail_if_success refine stp ?_); with_reducible go_step)
 refine norm_F _ (res_none Try.results84) ?_; exact ⟨rfl, d2, kg, ⟨hP2.out, hs2.out⟩, HB.out⟩

set_option maxRecDepth 100000 in
set_option maxHeartbeats 1000000 in
theorem sortStable_nil (u : Value) (w : World) :
    Calls Try.prog 84 #[.slice none 0 0, u] w (fun e w' => e = .returned (.tuple #[]) ∧ Below w.heap.size w w') := by
 refine enter_F Try.func84 rfl Try.ntmps84 (by simp) ?_
 intro s0 hs; have sl0 : s0 0 = .slice none 0 0 := hs 0 (by simp); have sl1 : s0 1 = u := hs 1 (by simp); clear hs; have HB := hid (OldB.refl [] w)
 repeat ((fail_if_success refine stp ?_); with_reducible go_step)
 refine region_F ?_
 iterate 4 refine pl ?_
 refine listF_step rfl (fun K' hK => ?_); unfold opF; go_simp; refine (stable_nil _ u _).mono ?_; rintro e w1 ⟨rfl, hb2⟩; refine ⟨_, rfl, hK _ _ ?_⟩; clear hK K'; replace HB := hid (HB.out.below hb2); clear hb2; refine listF_abs (fun s3 z' => ?_); clear z' sl0 sl1; refine listF_nil ?_
 repeat ((fail_if_success refine stp ?_); with_reducible go_step)
 refine norm_F _ (res_none Try.results84) ?_; exact ⟨rfl, HB.out.toBelow⟩

end Go.Proofs.Ytndcmmghgljinaa
