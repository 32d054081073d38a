/- look: its parts. -/
import Derived.Test.YtndcmmghgljinaardW10
set_option linter.all false
namespace Go.Proofs.Ytndcmmghgljinaa

section
open Go.RowKit

open Go.Sort
theorem sym_ih : ∀ K, SymIH K
  | 0 => by intro g cap O N d hN a m b w hg hO hOg hsz ham hmb hb hs1 hs2 hA h; omega
  | K + 1 => by
    intro g cap O N d hN a m b w hg hO hOg hsz ham hmb hb hs1 hs2 hA h
    have ih : SymIH (b - a) := fun g cap O N d hN a' m' b' w h1 h2 h3 h4 h5 h6 h7 h8 h9 h10 h11 => sym_ih K g cap O N d hN a' m' b' w h1 h2 h3 h4 h5 h6 h7 h8 h9 h10 (by omega)
    by_cases c1 : m = a + 1
    · exact sym_a g cap O N d hN a m b w hg hO hOg hsz ham hmb hb hs1 hs2 hA ih c1
    · by_cases c2 : b = m + 1
      · exact sym_b g cap O N d hN a m b w hg hO hOg hsz ham hmb hb hs1 hs2 hA ih c1 c2
      · exact sym_c g cap O N d hN a m b w hg hO hOg hsz ham hmb hb hs1 hs2 hA ih c1 c2
def SStt (bs : Nat) (d : Array MCk) : Prop := (d.size ≤ bs → SortedIn ltH 0 d.size d) ∧ (bs = 20 → 20 < d.size → SortedIn ltH 0 20 d ∧ SortedIn ltH 20 d.size d)
theorem sorted_low {a a' b : Nat} {d : Array MCk} (h : SortedIn ltH a b d) (ha : a ≤ a') : SortedIn ltH a' b d := fun i j h1 h2 h3 => h i j (by omega) h2 h3
theorem sorted_cut {a b n : Nat} {d1 d2 : Array MCk} (h : SortedIn ltH a b d1) (hp : PermIn b n d1 d2) : SortedIn ltH a b d2 := by
  intro i j h1 h2 h3; rw [hp.2.1 i (.inl (by omega)), hp.2.1 j (.inl h3)]; exact h i j h1 h2 h3
theorem sstt_start {x : Nat} {d1 d2 : Array MCk} (hx : x = 0 ∨ (x = 20 ∧ 20 ≤ d1.size)) (h1 : SortedIn ltH 0 x d1) (hp : PermIn x d1.size d1 d2) (h2 : SortedIn ltH x d1.size d2) : SStt 20 d2 := by
  have hs := hp.1; unfold SStt; rw [hs]
  rcases hx with rfl | ⟨rfl, hx⟩
  · exact ⟨fun _ => h2, fun _ h => ⟨sorted_mono h2 (by omega), sorted_low h2 (by omega)⟩⟩
  · have h3 := sorted_cut h1 hp
    exact ⟨fun h => by rw [show d1.size = 20 by omega]; exact h3, fun _ h => ⟨h3, h2⟩⟩

set_option maxRecDepth 100000 in
set_option maxHeartbeats 1000000 in
theorem insSort_nil (v u : Value) (w : World) :
    Calls Try.prog 89 #[v, .int .i64 0, .int .i64 0, u] w (fun e w' => e = .returned (.tuple #[]) ∧ Below w.heap.size w w') := by
 have w1 : IntKind.i64.wrap 1 = 1 := by decide
 refine enter_F Try.func89 rfl Try.ntmps89 (by simp) ?_
 intro s0 hs; have sl0 : s0 0 = v := hs 0 (by simp); have sl1 : s0 1 = .int .i64 0 := hs 1 (by simp); have sl2 : s0 2 = .int .i64 0 := hs 2 (by simp); have sl3 : s0 3 = u := hs 3 (by simp); clear hs; have HB := hid (OldB.refl [] w)
 repeat ((fail_if_success refine stp ?_); with_reducible go_step)
 refine region_F ?_
 iterate 3 refine pl ?_
 refine listF_abs (fun s1 z' => ?_); replace sl0 := gs 0 z' sl0; replace sl1 := gs 1 z' sl1; replace sl2 := gs 2 z' sl2; replace sl3 := gs 3 z' sl3; have sl8 := gu 8 z'; clear z'; refine listF_nil ?_
 repeat ((fail_if_success refine stp ?_); with_reducible go_step)
 have hc0_0 := hid sl0; have hc0_1 := hid sl1; have hc0_2 := hid sl2; have hc0_3 := hid sl3; refine loop_F (n := 53) (fun kJ sJ wJ => kJ = 0 ∧ sJ 8 = .int .i64 1 ∧ sJ 0 = s1 0 ∧ sJ 1 = s1 1 ∧ sJ 2 = s1 2 ∧ sJ 3 = s1 3 ∧ OldB [] w wJ) ⟨rfl, (by first | exact sl8 | (rw [sl8]; go_num) | (rw [sl8]; rfl)), rfl, rfl, rfl, rfl, OldB.refl _ _⟩ ?_; clear sl8; rintro kJ s2 w3 ⟨rfl, sl8, e0, e1, e2, e3, hb4⟩; replace sl0 := e0.trans sl0; clear e0; replace sl1 := e1.trans sl1; clear e1; replace sl2 := e2.trans sl2; clear e2; replace sl3 := e3.trans sl3; clear e3; have hoJ := hb4; replace HB := hid (HB.out.more hb4 (by simp; try omega)); clear hb4; have HoJ := hid hoJ; clear hoJ; have HL5 := HoJ; clear HoJ
 repeat ((fail_if_success refine stp ?_); with_reducible go_step)
 refine region_F ?_
 iterate 3 refine pl ?_
 refine listF_abs (fun s6 z' => ?_); replace sl0 := gs 0 z' sl0; replace sl1 := gs 1 z' sl1; replace sl2 := gs 2 z' sl2; replace sl3 := gs 3 z' sl3; replace sl8 := gs 8 z' sl8; have sl14 := gu 14 z'; clear z'; refine listF_nil ?_
 repeat ((fail_if_success refine stp ?_); with_reducible go_step)
 refine cond_f ?_
 repeat ((fail_if_success refine stp ?_); with_reducible go_step)
 clear HL5; clear hc0_0 hc0_1 hc0_2 hc0_3; refine norm_F _ (res_none Try.results89) ?_; exact ⟨rfl, HB.out.toBelow⟩

set_option maxRecDepth 100000 in
set_option maxHeartbeats 1000000 in
theorem stable_any (g cap O N : Nat) (d : Array MCk) (hN : d.size = N) (w : World) (hg : Cells w g (fl d)) (hO : Cells w O [.func (.func 73) #[] #[]]) (hOg : ¬ O = g) (hsz : d.size ≤ 30) (hA : AllH d) :
    Calls Try.prog 88 #[.slice (some ⟨g, 0, none⟩) N cap, .int .i64 (N : Int), .func (.func 85) #[] #[.pointer (some ⟨O, 0, none⟩)]] w (SortRes g w (fun d' => PermIn 0 d.size d d' ∧ SortedIn ltH 0 d.size d')) := by
 obtain rfl := hN; have HA := hid hA; clear hA; have kg := hg; have kO := hO
 refine enter_F Try.func88 rfl Try.ntmps88 (by simp) ?_
 intro s0 hs; have sl0 : s0 0 = .slice (some ⟨g, 0, none⟩) d.size cap := hs 0 (by simp); have sl1 : s0 1 = .int .i64 (d.size : Int) := hs 1 (by simp); have sl2 : s0 2 = .func (.func 85) #[] #[.pointer (some ⟨O, 0, none⟩)] := hs 2 (by simp); clear hs; have HB := hid (OldB.refl [g] w); have qg := kg.1; have qO := kO.1
 repeat ((fail_if_success refine stp ?_); with_reducible go_step)
 refine region_F ?_; refine pl ?_; refine listF_abs (fun s1 z' => ?_); replace sl0 := gs 0 z' sl0; replace sl1 := gs 1 z' sl1; replace sl2 := gs 2 z' sl2; have sl6 := gu 6 z'; clear z'; refine listF_nil ?_
 repeat ((fail_if_success refine stp ?_); with_reducible go_step)
 refine region_F ?_
 iterate 3 refine pl ?_
 refine listF_abs (fun s2 z' => ?_); replace sl0 := gs 0 z' sl0; replace sl1 := gs 1 z' sl1; replace sl2 := gs 2 z' sl2; replace sl6 := gs 6 z' sl6; have sl7 := gu 7 z'; have sl8 := gu 8 z'; clear z'; refine listF_nil ?_
 repeat ((fail_if_success refine stp ?_); with_reducible go_step)
 have hc0_0 := hid sl0; have hc0_1 := hid sl1; have hc0_2 := hid sl2; have hc0_6 := hid sl6; refine loop_F (n := 63) (fun kJ sJ wJ => ∃ (x : Nat) (d1 : Array MCk), kJ = 60 - x ∧ sJ 7 = .int .i64 (x : Int) ∧ sJ 8 = .int .i64 ((x : Int) + 20) ∧ sJ 0 = s2 0 ∧ sJ 1 = s2 1 ∧ sJ 2 = s2 2 ∧ sJ 6 = s2 6 ∧ OldB [g] w wJ ∧ Cells wJ g (fl d1) ∧ (x = 0 ∨ (x = 20 ∧ 20 ≤ d.size)) ∧ Hid (PermIn 0 d.size d d1) ∧ Hid (SortedIn ltH 0 x d1)) ⟨0, d, rfl, (by first | exact sl7 | (rw [sl7]; go_num) | (rw [sl7]; rfl)), (by first | exact sl8 | (rw [sl8]; go_num) | (rw [sl8]; rfl)), rfl, rfl, rfl, rfl, OldB.refl _ _, (by first | (with_reducible exact kg) | (apply Cells.conv; (focus (exact kg)); (first | rfl | (simp; done)))), .inl rfl, hid (permIn_refl d 0 d.size), hid (fun i j h1 h2 h3 => by omega)⟩ ?_; clear sl7 sl8; rintro kJ s3 w4 ⟨x, d1, rfl, sl7, sl8, e0, e1, e2, e6, hb5, mg', hx, hP, hs⟩; replace sl0 := e0.trans sl0; clear e0
 replace sl1 := e1.trans sl1; clear e1; replace sl2 := e2.trans sl2; clear e2; replace sl6 := e6.trans sl6; clear e6; have hoJ := hb5; clear qg qO; replace kg := mg'; replace kO := kO.oldB hb5 (by first | (simp; done) | (simp; omega)); replace HB := hid (HB.out.more hb5 (by simp; try omega)); clear hb5; have qg := kg.1; have qO := kO.1; clear mg'; have HoJ := hid hoJ; clear hoJ; have hz1 : d1.size = d.size := hP.out.1; have Hz1 := hid hz1
 have hs1k : d1.size ≤ 1000 := by omega
 have hs1d : d.size ≤ d1.size := by omega
 have hs1e : d1.size ≤ d.size := by omega
 clear hz1; have HA1 := hid (allH_perm (Nat.le_refl _) hP.out HA.out); obtain ⟨y, hy⟩ : ∃ y : Nat, (x : Int) + 20 = (y : Int) := ⟨x + 20, by omega⟩; have wy : IntKind.i64.wrap (y : Int) = (y : Int) := IntWalk.i64_in _ (by omega); have HL6 := HoJ; clear HoJ
 repeat ((fail_if_success refine stp ?_); with_reducible go_step)
 refine region_F ?_
 iterate 3 refine pl ?_
 refine listF_abs (fun s7 z' => ?_); replace sl0 := gs 0 z' sl0; replace sl1 := gs 1 z' sl1; replace sl2 := gs 2 z' sl2; replace sl6 := gs 6 z' sl6; replace sl7 := gs 7 z' sl7; replace sl8 := gs 8 z' sl8; have sl13 := gu 13 z'; clear z'; refine listF_nil ?_
 repeat ((fail_if_success refine stp ?_); with_reducible go_step)
 refine cond_E sl13 (by decide) ?_ ?_ <;> (clear sl13; intro h13 sl13)
 ·skip
  have h13' : y ≤ d.size := by simpa using h13
  have hx0 : x ≤ 0 := by omega
  repeat ((fail_if_success refine stp ?_); with_reducible go_step)
  refine region_F ?_
  iterate 4 refine pl ?_
  refine listF_step rfl (fun K' hK => ?_); unfold opF; go_simp; refine (insSort_any g cap O _ d1 Hz1.out x y _ kg kO hOg (by omega) (by omega) (by omega) HA1.out).mono ?_; rintro e w8 ⟨rfl, d2, kg2, ⟨hP2, hs2⟩, hb9⟩; have hP2 := hid hP2; have hs2 := hid hs2; refine ⟨_, rfl, hK _ _ ?_⟩; clear hK K'; clear qg qO; replace kg := kg2; replace kO := kO.oldB hb9 (by first | (simp; done) | (simp; omega)); replace HL6 := hid (HL6.out.more hb9 (by simp; try omega)); replace HB := hid (HB.out.more hb9 (by simp; try omega)); clear hb9; have qg := kg.1; have qO := kO.1; refine listF_abs (fun s10 z' => ?_); replace sl0 := gs 0 z' sl0; replace sl1 := gs 1 z' sl1; replace sl2 := gs 2 z' sl2; replace sl6 := gs 6 z' sl6; replace sl8 := gs 8 z' sl8; clear z' sl7 sl13; refine listF_nil ?_
  repeat ((fail_if_success refine stp ?_); with_reducible go_step)
  refine region_F ?_; refine pl ?_; refine pl ?_; refine listF_abs (fun s11 z' => ?_); replace sl0 := gs 0 z' sl0; replace sl1 := gs 1 z' sl1; replace sl2 := gs 2 z' sl2; replace sl6 := gs 6 z' sl6; have sl7 := gu 7 z'; replace sl8 := gs 8 z' sl8; clear z'; refine listF_nil ?_
  repeat ((fail_if_success refine stp ?_); with_reducible go_step)
  refine region_F ?_
  iterate 4 refine pl ?_
  refine listF_abs (fun s12 z' => ?_); replace sl0 := gs 0 z' sl0; replace sl1 := gs 1 z' sl1; replace sl2 := gs 2 z' sl2; replace sl6 := gs 6 z' sl6; replace sl7 := gs 7 z' sl7; replace sl8 := gu 8 z'; clear z'; refine listF_nil ?_
  repeat ((fail_if_success refine stp ?_); with_reducible go_step)
  refine ⟨_, _, rfl, ?_, 20, d2, rfl, (by first | (with_reducible exact sl7) | (rw [sl7]; (with_reducible go_num); done) | (rw [sl7, IntWalk.i64_in] <;> first | ((with_reducible go_num); done) | omega) | (rw [sl7]; go_num; done) | (rw [sl7]; simp; done) | (rw [sl7]; simp; omega)), (by first | (with_reducible exact sl8) | (rw [sl8]; (with_reducible go_num); done) | (rw [sl8, IntWalk.i64_in] <;> first | ((with_reducible go_num); done) | omega) | (rw [sl8]; go_num; done) | (rw [sl8]; simp; done) | (rw [sl8]; simp; omega)), (sl0.trans hc0_0.out.symm), (sl1.trans hc0_1.out.symm), (sl2.trans hc0_2.out.symm), (sl6.trans hc0_6.out.symm), HL6.out, (by first | (with_reducible exact kg) | (apply Cells.conv; (focus (exact kg)); (first | rfl | (simp; done)))), (by omega), hid (permIn_trans _ _ _ _ _ hP.out (permIn_mono d1 d2 0 20 0 d.size (by omega) (by omega) (by omega) (by have := hP2.out; rwa [show x = 0 by omega, show y = 20 by omega] at this))), hid (by have := hs2.out; rwa [show x = 0 by omega, show y = 20 by omega] at this)⟩
  omega
 ·skip
  have h13' : ¬ y ≤ d.size := by simpa using h13
  repeat ((fail_if_success refine stp ?_); with_reducible go_step)
  clear HL6; clear hc0_0 hc0_1 hc0_2 hc0_6; refine region_F ?_
  iterate 4 refine pl ?_
  refine listF_step rfl (fun K' hK => ?_); unfold opF; go_simp; refine (insSort_any g cap O _ d1 Hz1.out x d.size _ kg kO hOg (by omega) (by omega) (by omega) HA1.out).mono ?_; rintro e w13 ⟨rfl, d4, kg4, ⟨hP4, hs4⟩, hb14⟩; have HP4 := hid (permIn_trans _ _ _ _ _ hP.out (permIn_mono d1 d4 x d.size 0 d.size (by omega) (by omega) (by omega) hP4)); have HS4 := hid (sstt_start (x := x) (by omega) hs.out (by rw [Hz1.out]; exact hP4) (by rw [Hz1.out]; exact hs4)); clear hP4 hs4; refine ⟨_, rfl, hK _ _ ?_⟩; clear hK K'; clear qg qO; replace kg := kg4; replace kO := kO.oldB hb14 (by first | (simp; done) | (simp; omega)); replace HB := hid (HB.out.more hb14 (by simp; try omega)); clear hb14; have qg := kg.1; have qO := kO.1; refine listF_abs (fun s15 z' => ?_); replace sl0 := gs 0 z' sl0; replace sl1 := gs 1 z' sl1; replace sl2 := gs 2 z' sl2; replace sl6 := gs 6 z' sl6; clear z' sl7 sl8 sl13; refine listF_nil ?_
  repeat ((fail_if_success refine stp ?_); with_reducible go_step)
  have hc1_0 := hid sl0; have hc1_1 := hid sl1; have hc1_2 := hid sl2; refine loop_F (n := 63) (fun kJ sJ wJ => ∃ (bs : Nat) (d3 : Array MCk), kJ = 60 - bs ∧ sJ 6 = .int .i64 (bs : Int) ∧ sJ 0 = s15 0 ∧ sJ 1 = s15 1 ∧ sJ 2 = s15 2 ∧ OldB [g] w13 wJ ∧ Cells wJ g (fl d3) ∧ (bs = 20 ∨ bs = 40) ∧ Hid (PermIn 0 d.size d d3) ∧ Hid (SStt bs d3)) ⟨20, d4, rfl, (by first | exact sl6 | (rw [sl6]; go_num) | (rw [sl6]; rfl)), rfl, rfl, rfl, OldB.refl _ _, (by first | (with_reducible exact kg) | (apply Cells.conv; (focus (exact kg)); (first | rfl | (simp; done)))), .inl rfl, HP4, HS4⟩ ?_; clear sl6; rintro kJ s16 w17 ⟨bs, d3, rfl, sl6, e0, e1, e2, hb18, mg', hbs, hP3, hS3⟩; replace sl0 := e0.trans sl0; clear e0; replace sl1 := e1.trans sl1; clear e1; replace sl2 := e2.trans sl2; clear e2; have hoJ := hb18; clear qg qO; replace kg := mg'; replace kO := kO.oldB hb18 (by first | (simp; done) | (simp; omega)); replace HB := hid (HB.out.more hb18 (by simp; try omega))
  clear hb18; have qg := kg.1; have qO := kO.1; clear mg'; have HoJ := hid hoJ; clear hoJ; have hz3 : d3.size = d.size := hP3.out.1; have Hz3 := hid hz3
  have hs3k : d3.size ≤ 1000 := by omega
  have hs3d : d.size ≤ d3.size := by omega
  have hs3e : d3.size ≤ d.size := by omega
  clear hz3; have HA3 := hid (allH_perm (Nat.le_refl _) hP3.out HA.out); have HL19 := HoJ; clear HoJ
  repeat ((fail_if_success refine stp ?_); with_reducible go_step)
  refine region_F ?_
  iterate 3 refine pl ?_
  refine listF_abs (fun s20 z' => ?_); replace sl0 := gs 0 z' sl0; replace sl1 := gs 1 z' sl1; replace sl2 := gs 2 z' sl2; replace sl6 := gs 6 z' sl6; have sl30 := gu 30 z'; clear z'; refine listF_nil ?_
  repeat ((fail_if_success refine stp ?_); with_reducible go_step)
  refine cond_E sl30 (by decide) ?_ ?_ <;> (clear sl30; intro h30 sl30)
  ·skip
   have h30' : bs < d.size := by simpa using h30
   have hb1 : bs ≤ 20 := by omega
   have hb2 : 20 ≤ bs := by omega
   obtain ⟨hc1, hc2⟩ := hS3.out.2 (by omega) (by omega); have Hc1 := hid hc1; have Hc2 := hid hc2; clear hc1 hc2; have wb2 : IntKind.i64.wrap (2 * (bs : Int)) = 2 * (bs : Int) := IntWalk.i64_in _ (by omega); have wb3 : IntKind.i64.wrap ((bs : Int) * 2) = (bs : Int) * 2 := IntWalk.i64_in _ (by omega); have wb4 : IntKind.i64.wrap ((bs : Int)) = (bs : Int) := IntWalk.i64_in _ (by omega)
   have hb3 : (bs : Int) < (d.size : Int) := by omega
   repeat ((fail_if_success refine stp ?_); with_reducible go_step)
   refine region_F ?_
   iterate 4 refine pl ?_
   refine listF_abs (fun s21 z' => ?_); replace sl0 := gs 0 z' sl0; replace sl1 := gs 1 z' sl1; replace sl2 := gs 2 z' sl2; replace sl6 := gs 6 z' sl6; have sl7 := gu 7 z'; have sl8 := gu 8 z'; clear z' sl30; refine listF_nil ?_
   repeat ((fail_if_success refine stp ?_); with_reducible go_step)
   have hc2_0 := hid sl0; have hc2_1 := hid sl1; have hc2_2 := hid sl2; have hc2_6 := hid sl6; refine loop_F (n := 63) (fun kJ sJ wJ => kJ = 0 ∧ sJ 7 = .int .i64 0 ∧ sJ 8 = .int .i64 (2 * (bs : Int)) ∧ sJ 0 = s21 0 ∧ sJ 1 = s21 1 ∧ sJ 2 = s21 2 ∧ sJ 6 = s21 6 ∧ OldB [] w17 wJ) ⟨rfl, (by first | exact sl7 | (rw [sl7]; go_num) | (rw [sl7]; rfl)), (by first | exact sl8 | (rw [sl8]; go_num) | (rw [sl8]; rfl)), rfl, rfl, rfl, rfl, OldB.refl _ _⟩ ?_; clear sl7 sl8; rintro kJ s22 w23 ⟨rfl, sl7, sl8, e0, e1, e2, e6, hb24⟩; replace sl0 := e0.trans sl0; clear e0; replace sl1 := e1.trans sl1; clear e1; replace sl2 := e2.trans sl2; clear e2; replace sl6 := e6.trans sl6; clear e6; have hoJ := hb24; clear qg qO; replace kg := kg.oldB hb24 (by first | (simp; done) | (simp; omega)); replace kO := kO.oldB hb24 (by first | (simp; done) | (simp; omega)); replace HL19 := hid (HL19.out.more hb24 (by simp; try omega)); replace HB := hid (HB.out.more hb24 (by simp; try omega))
   clear hb24; have qg := kg.1; have qO := kO.1; have HoJ := hid hoJ; clear hoJ; have HL25 := HoJ; clear HoJ
   repeat ((fail_if_success refine stp ?_); with_reducible go_step)
   refine region_F ?_
   iterate 3 refine pl ?_
   refine listF_abs (fun s26 z' => ?_); replace sl0 := gs 0 z' sl0; replace sl1 := gs 1 z' sl1; replace sl2 := gs 2 z' sl2; replace sl6 := gs 6 z' sl6; replace sl7 := gs 7 z' sl7; replace sl8 := gs 8 z' sl8; have sl35 := gu 35 z'; clear z'; refine listF_nil ?_
   repeat ((fail_if_success refine stp ?_); with_reducible go_step)
   refine cond_E sl35 (by decide) ?_ ?_ <;> (clear sl35; intro h35 sl35)
   ·skip
    first | (simp at h35; done) | (simp at h35; omega)
   ·skip
    repeat ((fail_if_success refine stp ?_); with_reducible go_step)
    clear HL25; clear hc2_0 hc2_1 hc2_2 hc2_6; refine region_F ?_
    iterate 4 refine pl ?_
    refine listF_abs (fun s27 z' => ?_); replace sl0 := gs 0 z' sl0; replace sl1 := gs 1 z' sl1; replace sl2 := gs 2 z' sl2; replace sl6 := gs 6 z' sl6; replace sl7 := gs 7 z' sl7; have sl9 := gu 9 z'; clear z' sl8 sl35; refine listF_nil ?_
    repeat ((fail_if_success refine stp ?_); with_reducible go_step)
    refine region_F ?_
    iterate 3 refine pl ?_
    refine listF_abs (fun s28 z' => ?_); replace sl0 := gs 0 z' sl0; replace sl1 := gs 1 z' sl1; replace sl2 := gs 2 z' sl2; replace sl6 := gs 6 z' sl6; replace sl7 := gs 7 z' sl7; replace sl9 := gs 9 z' sl9; have sl54 := gu 54 z'; clear z'; refine listF_nil ?_
    repeat ((fail_if_success refine stp ?_); with_reducible go_step)
    refine cond_E sl54 (by decide) ?_ ?_ <;> (clear sl54; intro h54 sl54)
    ·skip
     repeat ((fail_if_success refine stp ?_); with_reducible go_step)
     refine region_F ?_
     iterate 5 refine pl ?_
     refine listF_step rfl (fun K' hK => ?_); unfold opF; go_simp; refine (sym_ih (d3.size + 1) g cap O _ d3 Hz3.out 0 bs d.size _ kg kO hOg (by omega) (by omega) (by omega) (by omega) (by have := Hc1.out; rwa [show (20 : Nat) = bs by omega] at this) (by have := Hc2.out; rwa [show (20 : Nat) = bs by omega, Hz3.out] at this) HA3.out (by omega)).mono ?_; rintro e w29 ⟨rfl, d5, kg5, ⟨hP5, hs5⟩, hb30⟩; have hP5 := hid (show PermIn 0 d3.size d3 d5 by rw [Hz3.out]; exact hP5); have hs5 := hid (show SortedIn ltH 0 d3.size d5 by rw [Hz3.out]; exact hs5); refine ⟨_, rfl, hK _ _ ?_⟩; clear hK K'; clear qg qO; replace kg := kg5; replace kO := kO.oldB hb30 (by first | (simp; done) | (simp; omega)); replace HL19 := hid (HL19.out.more hb30 (by simp; try omega)); replace HB := hid (HB.out.more hb30 (by simp; try omega)); clear hb30; have qg := kg.1; have qO := kO.1; refine listF_abs (fun s31 z' => ?_); replace sl0 := gs 0 z' sl0; replace sl1 := gs 1 z' sl1; replace sl2 := gs 2 z' sl2; replace sl6 := gs 6 z' sl6; clear z' sl7 sl9 sl54
     refine listF_nil ?_
     repeat ((fail_if_success refine stp ?_); with_reducible go_step)
     refine region_F ?_
     iterate 3 refine pl ?_
     refine listF_abs (fun s32 z' => ?_); replace sl0 := gs 0 z' sl0; replace sl1 := gs 1 z' sl1; replace sl2 := gs 2 z' sl2; replace sl6 := gu 6 z'; clear z'; refine listF_nil ?_
     repeat ((fail_if_success refine stp ?_); with_reducible go_step)
     refine ⟨_, _, rfl, ?_, 40, d5, rfl, (by first | (with_reducible exact sl6) | (rw [sl6]; (with_reducible go_num); done) | (rw [sl6, IntWalk.i64_in] <;> first | ((with_reducible go_num); done) | omega) | (rw [sl6]; go_num; done) | (rw [sl6]; simp; done) | (rw [sl6]; simp; omega)), (sl0.trans hc1_0.out.symm), (sl1.trans hc1_1.out.symm), (sl2.trans hc1_2.out.symm), HL19.out, (by first | (with_reducible exact kg) | (apply Cells.conv; (focus (exact kg)); (first | rfl | (simp; done)))), (.inr rfl), hid (permIn_trans _ _ _ _ _ hP3.out (by have := hP5.out; rwa [Hz3.out] at this)), hid ⟨fun _ => by rw [hP5.out.1]; exact hs5.out, fun h => by omega⟩⟩
     omega
    ·skip
     first | (simp at h54; done) | (simp at h54; omega)
  ·skip
   have h30' : ¬ bs < d.size := by simpa using h30
   repeat ((fail_if_success refine stp ?_); with_reducible go_step)
   clear HL19; clear hc1_0 hc1_1 hc1_2; refine norm_F _ (res_none Try.results88) ?_; exact ⟨rfl, d3, kg, ⟨hP3.out, by have := hS3.out.1 (by omega); rwa [Hz3.out] at this⟩, HB.out⟩

set_option maxRecDepth 100000 in
set_option maxHeartbeats 1000000 in
theorem stable_nil (v u : Value) (w : World) :
    Calls Try.prog 88 #[v, .int .i64 0, u] w (fun e w' => e = .returned (.tuple #[]) ∧ Below w.heap.size w w') := by
 refine enter_F Try.func88 rfl Try.ntmps88 (by simp) ?_
 intro s0 hs; have sl0 : s0 0 = v := hs 0 (by simp); have sl1 : s0 1 = .int .i64 0 := hs 1 (by simp); have sl2 : s0 2 = u := hs 2 (by simp); clear hs; have HB := hid (OldB.refl [] w)
 repeat ((fail_if_success refine stp ?_); with_reducible go_step)
 refine region_F ?_; refine pl ?_; refine listF_abs (fun s1 z' => ?_); replace sl0 := gs 0 z' sl0; replace sl1 := gs 1 z' sl1; replace sl2 := gs 2 z' sl2; have sl6 := gu 6 z'; clear z'; refine listF_nil ?_
 repeat ((fail_if_success refine stp ?_); with_reducible go_step)
 refine region_F ?_
 iterate 3 refine pl ?_
 refine listF_abs (fun s2 z' => ?_); replace sl0 := gs 0 z' sl0; replace sl1 := gs 1 z' sl1; replace sl2 := gs 2 z' sl2; replace sl6 := gs 6 z' sl6; have sl7 := gu 7 z'; have sl8 := gu 8 z'; clear z'; refine listF_nil ?_
 repeat ((fail_if_success refine stp ?_); with_reducible go_step)
 have hc0_0 := hid sl0; have hc0_1 := hid sl1; have hc0_2 := hid sl2; have hc0_6 := hid sl6; refine loop_F (n := 63) (fun kJ sJ wJ => kJ = 0 ∧ sJ 7 = .int .i64 0 ∧ sJ 8 = .int .i64 20 ∧ sJ 0 = s2 0 ∧ sJ 1 = s2 1 ∧ sJ 2 = s2 2 ∧ sJ 6 = s2 6 ∧ OldB [] w wJ) ⟨rfl, (by first | exact sl7 | (rw [sl7]; go_num) | (rw [sl7]; rfl)), (by first | exact sl8 | (rw [sl8]; go_num) | (rw [sl8]; rfl)), rfl, rfl, rfl, rfl, OldB.refl _ _⟩ ?_; clear sl7 sl8; rintro kJ s3 w4 ⟨rfl, sl7, sl8, e0, e1, e2, e6, hb5⟩; replace sl0 := e0.trans sl0; clear e0; replace sl1 := e1.trans sl1; clear e1; replace sl2 := e2.trans sl2; clear e2; replace sl6 := e6.trans sl6; clear e6; have hoJ := hb5; replace HB := hid (HB.out.more hb5 (by simp; try omega)); clear hb5; have HoJ := hid hoJ; clear hoJ; have HL6 := HoJ; clear HoJ
 repeat ((fail_if_success refine stp ?_); with_reducible go_step)
 refine region_F ?_
 iterate 3 refine pl ?_
 refine listF_abs (fun s7 z' => ?_); replace sl0 := gs 0 z' sl0; replace sl1 := gs 1 z' sl1; replace sl2 := gs 2 z' sl2; replace sl6 := gs 6 z' sl6; replace sl7 := gs 7 z' sl7; replace sl8 := gs 8 z' sl8; have sl13 := gu 13 z'; clear z'; refine listF_nil ?_
 repeat ((fail_if_success refine stp ?_); with_reducible go_step)
 refine cond_f ?_
 repeat ((fail_if_success refine stp ?_); with_reducible go_step)
 clear HL6; clear hc0_0 hc0_1 hc0_2 hc0_6; refine region_F ?_
 iterate 4 refine pl ?_
 refine listF_step rfl (fun K' hK => ?_); unfold opF; go_simp; refine (insSort_nil v u _).mono ?_; rintro e w8 ⟨rfl, hb9⟩; refine ⟨_, rfl, hK _ _ ?_⟩; clear hK K'; replace HB := hid (HB.out.below hb9); clear hb9; refine listF_abs (fun s10 z' => ?_); replace sl0 := gs 0 z' sl0; replace sl1 := gs 1 z' sl1; replace sl2 := gs 2 z' sl2; replace sl6 := gs 6 z' sl6; clear z' sl7 sl8 sl13; refine listF_nil ?_
 repeat ((fail_if_success refine stp ?_); with_reducible go_step)
 have hc1_0 := hid sl0; have hc1_1 := hid sl1; have hc1_2 := hid sl2; refine loop_F (n := 63) (fun kJ sJ wJ => kJ = 0 ∧ sJ 6 = .int .i64 20 ∧ sJ 0 = s10 0 ∧ sJ 1 = s10 1 ∧ sJ 2 = s10 2 ∧ OldB [] w8 wJ) ⟨rfl, (by first | exact sl6 | (rw [sl6]; go_num) | (rw [sl6]; rfl)), rfl, rfl, rfl, OldB.refl _ _⟩ ?_; clear sl6; rintro kJ s11 w12 ⟨rfl, sl6, e0, e1, e2, hb13⟩; replace sl0 := e0.trans sl0; clear e0; replace sl1 := e1.trans sl1; clear e1; replace sl2 := e2.trans sl2; clear e2; have hoJ := hb13; replace HB := hid (HB.out.more hb13 (by simp; try omega)); clear hb13; have HoJ := hid hoJ; clear hoJ; have HL14 := HoJ; clear HoJ
 repeat ((fail_if_success refine stp ?_); with_reducible go_step)
 refine region_F ?_
 iterate 3 refine pl ?_
 refine listF_abs (fun s15 z' => ?_); replace sl0 := gs 0 z' sl0; replace sl1 := gs 1 z' sl1; replace sl2 := gs 2 z' sl2; replace sl6 := gs 6 z' sl6; have sl30 := gu 30 z'; clear z'; refine listF_nil ?_
 repeat ((fail_if_success refine stp ?_); with_reducible go_step)
 refine cond_f ?_
 repeat ((fail_if_success refine stp ?_); with_reducible go_step)
 clear HL14; clear hc1_0 hc1_1 hc1_2; refine norm_F _ (res_none Try.results88) ?_; exact ⟨rfl, HB.out.toBelow⟩

set_option maxRecDepth 100000 in
set_option maxHeartbeats 1000000 in
theorem sortStable_any (g cap O N : Nat) (d : Array MCk) (hN : d.size = N) (w : World) (hg : Cells w g (fl d)) (hO : Cells w O [.func (.func 73) #[] #[]]) (hOg : ¬ O = g) (hsz : d.size ≤ 30) (hA : AllH d) :
    Calls Try.prog 84 #[.slice (some ⟨g, 0, none⟩) N cap, .func (.func 85) #[] #[.pointer (some ⟨O, 0, none⟩)]] w (SortRes g w (fun d' => PermIn 0 d.size d d' ∧ SortedIn ltH 0 d.size d')) := by
 obtain rfl := hN; have HA := hid hA; clear hA; have kg := hg; have kO := hO
 refine enter_F Try.func84 rfl Try.ntmps84 (by simp) ?_
 intro s0 hs; have sl0 : s0 0 = .slice (some ⟨g, 0, none⟩) d.size cap := hs 0 (by simp); have sl1 : s0 1 = .func (.func 85) #[] #[.pointer (some ⟨O, 0, none⟩)] := hs 1 (by simp); clear hs; have HB := hid (OldB.refl [g] w); have qg := kg.1; have qO := kO.1
 repeat ((fail_if_success refine stp ?_); with_reducible go_step)
 refine region_F ?_
 iterate 4 refine pl ?_
 refine listF_step rfl (fun K' hK => ?_); unfold opF; go_simp; refine (stable_any g cap O _ d rfl _ kg kO hOg hsz HA.out).mono ?_; rintro e w1 ⟨rfl, d2, kg2, ⟨hP2, hs2⟩, hb2⟩; have hP2 := hid hP2; have hs2 := hid hs2; refine ⟨_, rfl, hK _ _ ?_⟩; clear hK K'; clear qg qO; replace kg := kg2; replace kO := kO.oldB hb2 (by first | (simp; done) | (simp; omega)); replace HB := hid (HB.out.more hb2 (by simp; try omega)); clear hb2; have qg := kg.1; have qO := kO.1; refine listF_abs (fun s3 z' => ?_); clear z' sl0 sl1; refine listF_nil ?_
 repeat ((fail_if_success refine stp ?_); with_reducible go_step)
 refine norm_F _ (res_none Try.results84) ?_; exact ⟨rfl, d2, kg, ⟨hP2.out, hs2.out⟩, HB.out⟩

set_option maxRecDepth 100000 in
set_option maxHeartbeats 1000000 in
theorem sortStable_nil (u : Value) (w : World) :
    Calls Try.prog 84 #[.slice none 0 0, u] w (fun e w' => e = .returned (.tuple #[]) ∧ Below w.heap.size w w') := by
 refine enter_F Try.func84 rfl Try.ntmps84 (by simp) ?_
 intro s0 hs; have sl0 : s0 0 = .slice none 0 0 := hs 0 (by simp); have sl1 : s0 1 = u := hs 1 (by simp); clear hs; have HB := hid (OldB.refl [] w)
 repeat ((fail_if_success refine stp ?_); with_reducible go_step)
 refine region_F ?_
 iterate 4 refine pl ?_
 refine listF_step rfl (fun K' hK => ?_); unfold opF; go_simp; refine (stable_nil _ u _).mono ?_; rintro e w1 ⟨rfl, hb2⟩; refine ⟨_, rfl, hK _ _ ?_⟩; clear hK K'; replace HB := hid (HB.out.below hb2); clear hb2; refine listF_abs (fun s3 z' => ?_); clear z' sl0 sl1; refine listF_nil ?_
 repeat ((fail_if_success refine stp ?_); with_reducible go_step)
 refine norm_F _ (res_none Try.results84) ?_; exact ⟨rfl, HB.out.toBelow⟩
end

section
open Go.RowKit

open Go.Sort
theorem info_cloneCk : (Try.prog.info? 74).map (fun i => (i.zero, i.size, i.bytes)) = some (some (.agg #[.int .i64 0, .int .i64 0, .bool false]), 3, 24) := by kernel_rfl
theorem ck_one (x : MCk) : ∀ u ∈ x.cs, u.oneCell' = true := by intro u hu; simp [MCk.cs] at hu; rcases hu with h | h | h <;> subst h <;> rfl

set_option maxRecDepth 100000 in
set_option maxHeartbeats 1000000 in
theorem cloneCk_none (c : Nat) (l : List MCk) (w : World) (hl : l.length ≤ 1000) (hR : RdCks w none l) :
    Calls Try.prog 83 #[.slice none l.length c] w (fun e w' => ∃ v, e = .returned v ∧ Own MCk.cs 3 74 w.heap.size w' v l ∧ Below w.heap.size w w') := by
 obtain ⟨i0, hi0, hz0, hz1, hz2⟩ := info_parts info_cloneCk; have HR := hid hR; clear hR
 have hnil : ∀ w, (binOp .eql 33 (.slice none l.length c) (.slice none 0 0)).run Try.prog w = .ok (.bool true) w := fun w => Lib.run_eql_slice_nil w _ _ _ _ _ _ _ Try.underlying33
 refine enter_F Try.func83 rfl Try.ntmps83 (by simp) ?_
 intro s0 hs; have sl0 : s0 0 = .slice none l.length c := hs 0 (by simp); clear hs; have HB := hid (OldB.refl [] w)
 repeat ((fail_if_success refine stp ?_); with_reducible go_step)
 refine region_F ?_; refine pl ?_; refine listF_abs (fun s1 z' => ?_); replace sl0 := gs 0 z' sl0; clear z'; refine listF_nil ?_
 repeat ((fail_if_success refine stp ?_); with_reducible go_step)
 refine region_F ?_; refine pl ?_; refine pl ?_; refine listF_abs (fun s2 z' => ?_); replace sl0 := gs 0 z' sl0; have sl4 := gu 4 z'; clear z'; refine listF_nil ?_
 repeat ((fail_if_success refine stp ?_); with_reducible go_step)
 refine cond_t ?_
 repeat ((fail_if_success refine stp ?_); with_reducible go_step)
 refine region_F ?_; refine pl ?_; refine listF_abs (fun s3 z' => ?_); have sl2 := gu 2 z'; clear z' sl0 sl4; refine listF_nil ?_
 repeat ((fail_if_success refine stp ?_); with_reducible go_step)
 refine ret_F _ (res_t Try.results83 ((getD_F (by decide)).trans sl2)) ?_
 have hl0 : l = [] := by rcases HR.out with h | ⟨b, o, h, _⟩; exact h; cases h
 exact ⟨_, rfl, by rw [hl0]; exact Own.nil _ _ _ _ _, HB.out.toBelow⟩

set_option maxRecDepth 100000 in
set_option maxHeartbeats 1000000 in
theorem cloneCk_some (p : Addr) (c : Nat) (l : List MCk) (w : World) (hl : l.length ≤ 1000) (hR : RdCks w (some p) l) :
    Calls Try.prog 83 #[.slice (some p) l.length c] w (fun e w' => ∃ v, e = .returned v ∧ Own MCk.cs 3 74 w.heap.size w' v l ∧ Below w.heap.size w w') := by
 obtain ⟨i0, hi0, hz0, hz1, hz2⟩ := info_parts info_cloneCk; have HR := hid hR; clear hR
 have hnil : ∀ w, (binOp .eql 33 (.slice (some p) l.length c) (.slice none 0 0)).run Try.prog w = .ok (.bool false) w := fun w => Lib.run_eql_slice_nil w _ _ _ _ _ _ _ Try.underlying33
 refine enter_F Try.func83 rfl Try.ntmps83 (by simp) ?_
 intro s0 hs; have sl0 : s0 0 = .slice (some p) l.length c := hs 0 (by simp); clear hs; have HB := hid (OldB.refl [] w)
 repeat ((fail_if_success refine stp ?_); with_reducible go_step)
 refine region_F ?_; refine pl ?_; refine listF_abs (fun s1 z' => ?_); replace sl0 := gs 0 z' sl0; clear z'; refine listF_nil ?_
 repeat ((fail_if_success refine stp ?_); with_reducible go_step)
 refine region_F ?_; refine pl ?_; refine pl ?_; refine listF_abs (fun s2 z' => ?_); replace sl0 := gs 0 z' sl0; have sl4 := gu 4 z'; clear z'; refine listF_nil ?_
 repeat ((fail_if_success refine stp ?_); with_reducible go_step)
 refine cond_f ?_
 repeat ((fail_if_success refine stp ?_); with_reducible go_step)
 refine region_F ?_; refine listF_step rfl (fun K' hK => ?_); unfold opF; go_simp; refine hK _ _ ?_; clear hK K'; refine listF_absw ?_; intro w3 hw'
 have hO5 : Own MCk.cs 3 74 w.heap.size w3 (.slice (some ⟨w.heap.size, 0, none⟩) 0 0) [] := by rw [hw']; exact Own.lit (l := ([] : List MCk)) (Nat.le_refl _) (by unfold maxLen; simp) rfl (fun _ => rfl)
 have hb4 : Below w.heap.size w w3 := by rw [hw']; exact below_alloc1 _ _
 clear hw'; replace HB := hid (HB.out.below hb4); clear hb4; refine pl ?_; refine listF_step rfl (fun K' hK => ?_); have hzz := HB.out.size; refine opF_app (d := 7) rfl (by decide) (.tmp 5) (.tmp 6) _ rfl 74 i0 _ 24 Try.underlying33 hi0 hz0 hz1 hz2 rfl (by decide) (fun _ => rfl) ck_one w.heap.size _ [] l (some p) c (by go_simp) (by go_simp) hO5 (Rd.oldB HR.out HB.out (by simp)) (by unfold maxLen; simp; omega) (by simp; omega) (by omega) (fun v7 w5 hO7 hG7 hV7 => hK _ _ ?_); clear hK K'; replace HB := hid (HB.out.grown hG7 (fun k hk => .inl (by simp [Value.ownBlock] at hk; omega))); have HO7 := hid hO7; clear hO5 hG7 hV7 hzz hO7; refine pl ?_; refine listF_abs (fun s7 z' => ?_); have sl2 := gu 2 z'; clear z' sl0 sl4; refine listF_nil ?_
 repeat ((fail_if_success refine stp ?_); with_reducible go_step)
 refine ret_F _ (res_t Try.results83 ((getD_F (by decide)).trans sl2)) ?_; exact ⟨_, rfl, HO7.out, HB.out.toBelow⟩

theorem cloneCk_any (a : Option Addr) (c : Nat) (l : List MCk) (w : World) (hl : l.length ≤ 1000) (hR : RdCks w a l) :
    Calls Try.prog 83 #[.slice a l.length c] w fun e w' => ∃ v, e = .returned v ∧ Own MCk.cs 3 74 w.heap.size w' v l ∧ Below w.heap.size w w' := by
  cases a with
  | none => exact cloneCk_none c l w hl hR
  | some p => exact cloneCk_some p c l w hl hR

theorem Own.asCells {α : Type} {f : α → List Value} {m : Nat} {T : TypeId} {base : Nat} {w : World} {g n cap : Nat} {l : List α} (h : Own f m T base w (.slice (some ⟨g, 0, none⟩) n cap) l) : Cells w g (l.flatMap f) := by
  refine ⟨(World.ownsRow.lt h g rfl).2, fun i v hv => ?_, Own.frozen h⟩; have := World.ownsRow.cells (g := g) h rfl i v hv; rwa [show (⟨g, 0, none⟩ : Addr).add i = ⟨g, i, none⟩ by unfold Addr.add; split <;> simp_all] at this
theorem perm_list {d d' : Array MCk} (h : PermIn 0 d.size d d') : d'.toList.Perm d.toList := by
  have h3 := h.2.2
  have e1 : d.extract 0 d.size = d := by simp
  have e2 : d'.extract 0 d.size = d' := by rw [← h.1]; simp
  rw [e1, e2] at h3; exact h3
theorem sorted_list {d : Array MCk} (h : SortedIn ltH 0 d.size d) : SortedC d.toList := by
  unfold SortedC; rw [List.pairwise_iff_getElem]; intro i j hi hj hij
  have hi' : i < d.size := by simpa using hi
  have hj' : j < d.size := by simpa using hj
  have := (sortedIn_iff.1 h) i j (Nat.zero_le _) hij hj'; unfold hr at this; rw [getElem!_pos d i hi', getElem!_pos d j hj'] at this
  simpa using this
/-- what sorted hands back: a list of its own -/
def SortedRes (l : List MCk) (w : World) (e : Ending) (w' : World) : Prop := ∃ a c l', e = .returned (.slice a l'.length c) ∧ RdCks w' a l' ∧ SortedC l' ∧ l'.Perm l ∧ (∀ b, a = some b → w.heap.size ≤ b.block) ∧ Below w.heap.size w w'

set_option maxRecDepth 100000 in
set_option maxHeartbeats 1000000 in
theorem sorted_any (a : Option Addr) (c : Nat) (l : List MCk) (w : World) (hl : l.length ≤ 30) (hR : RdCks w a l) (hH : ∀ x ∈ l, hourOk x) :
    Calls Try.prog 72 #[.agg #[.func (.func 73) #[] #[]], .slice a l.length c] w (SortedRes l w) := by
 have HR := hid hR; have HH := hid hH; clear hR hH
 refine enter_F Try.func72 rfl Try.ntmps72 (by simp) ?_
 intro s0 hs; have sl0 : s0 0 = .agg #[.func (.func 73) #[] #[]] := hs 0 (by simp); have sl1 : s0 1 = .slice a l.length c := hs 1 (by simp); clear hs; have HB := hid (OldB.refl [] w)
 repeat ((fail_if_success refine stp ?_); with_reducible go_step)
 refine region_F ?_; refine pa (fun w1 B2 hB kb2' hb2 => ?_); have gb2 := HB.out.gB hB; have eb2 := eB hB; clear hB; replace HB := hid (HB.out.below hb2); clear hb2; have kb2 := kb2'; clear kb2'; have qb2 := kb2.1; refine pl ?_; refine listF_abs (fun s3 z' => ?_); replace sl1 := gs 1 z' sl1; have sl2 := gu 2 z'; clear z' sl0; refine listF_nil ?_
 repeat ((fail_if_success refine stp ?_); with_reducible go_step)
 refine region_F ?_; refine pl ?_; have hB2w : B2 < w1.heap.size := kb2.1; have hwk := HB.out.size; refine listF_step rfl (fun K' hK => ?_); unfold opF; go_simp; refine (cloneCk_any a c l _ (by omega) (Rd.oldB HR.out HB.out (by simp))).mono ?_; rintro e w4 ⟨v6, rfl, hO6, hb5⟩; refine ⟨_, rfl, hK _ _ ?_⟩; clear hK K'; clear qb2; replace kb2 := kb2.at hb5; replace HB := hid (HB.out.below hb5); clear hb5; have qb2 := kb2.1; refine pl ?_; refine listF_abs (fun s6 z' => ?_); replace sl1 := gu 1 z'; replace sl2 := gs 2 z' sl2; clear z'; refine listF_nil ?_
 repeat ((fail_if_success refine stp ?_); with_reducible go_step)
 rcases hO6.form with ⟨rfl, hl0⟩ | ⟨g, cap, rfl, hg1, hg2⟩
 ·skip
  have Hl0 := hid hl0; clear hl0 hO6; refine region_F ?_; refine pl ?_; refine pl ?_; refine listF_step rfl (fun K' hK => ?_); unfold opF; go_simp; refine (sortStable_nil _ _).mono ?_; rintro e w7 ⟨rfl, hb8⟩; refine ⟨_, rfl, hK _ _ ?_⟩; clear hK K'; clear qb2; replace kb2 := kb2.at hb8; replace HB := hid (HB.out.below hb8); clear hb8; have qb2 := kb2.1; refine listF_abs (fun s9 z' => ?_); replace sl1 := gs 1 z' sl1; clear z' sl2; refine listF_nil ?_
  repeat ((fail_if_success refine stp ?_); with_reducible go_step)
  refine region_F ?_; refine pl ?_; refine pl ?_; refine listF_abs (fun s10 z' => ?_); have sl4 := gu 4 z'; clear z' sl1; refine listF_nil ?_
  repeat ((fail_if_success refine stp ?_); with_reducible go_step)
  refine ret_F _ (res_t Try.results72 ((getD_F (by decide)).trans sl4)) ?_; exact ⟨none, 0, [], rfl, .inl rfl, List.Pairwise.nil, (by rw [Hl0.out]), (fun b hb => by cases hb), HB.out.toBelow⟩
 ·skip
  have kg' : Cells w4 g (fl l.toArray) := by have := hO6.asCells; unfold fl; simpa using this
  have HA := hid (show AllH l.toArray by intro k hk; rw [getElem!_pos _ k hk]; exact HH.out _ (by simp))
  have hgb : B2 < g := by omega
  have hgw : w.heap.size ≤ g := by omega
  clear hO6 hg1 hg2; have kg := kg'; clear kg'; have qg := kg.1; refine region_F ?_; refine pl ?_; refine pl ?_; refine listF_step rfl (fun K' hK => ?_); unfold opF; go_simp; refine (sortStable_any g cap B2 _ l.toArray (by simp) _ kg kb2 (by omega) (by simpa using hl) HA.out).mono ?_; rintro e w11 ⟨rfl, d2, kg2, ⟨hP2, hs2⟩, hb12⟩; have hP2 := hid hP2; have hs2 := hid hs2; refine ⟨_, rfl, hK _ _ ?_⟩; clear hK K'; clear qb2 qg; replace kg := kg2; replace kb2 := kb2.oldB hb12 (by first | (simp; done) | (simp; omega)); replace HB := hid (HB.out.more hb12 (by simp; try omega)); clear hb12; have qb2 := kb2.1; have qg := kg.1; refine listF_abs (fun s13 z' => ?_); replace sl1 := gs 1 z' sl1; clear z' sl2; refine listF_nil ?_
  repeat ((fail_if_success refine stp ?_); with_reducible go_step)
  refine region_F ?_; refine pl ?_; refine pl ?_; refine listF_abs (fun s14 z' => ?_); have sl4 := gu 4 z'; clear z' sl1; refine listF_nil ?_
  repeat ((fail_if_success refine stp ?_); with_reducible go_step)
  refine ret_F _ (res_t Try.results72 ((getD_F (by decide)).trans sl4)) ?_; have hpl := perm_list hP2.out; refine ⟨some ⟨g, 0, none⟩, cap, d2.toList, by rw [hpl.length_eq], Cells.rd (f := MCk.cs) (m := 3) (fun _ => rfl) kg, sorted_list (by have := hs2.out; rwa [← hP2.out.1] at this), by simpa using hpl, (fun b hb => by cases hb; exact hgw), HB.out.toBelow⟩
end

section
open Go.RowKit


abbrev badC (k : Kd) (x : MCk) : Bool := !chkOk k x

set_option maxRecDepth 100000 in
set_option maxHeartbeats 1000000 in
theorem look1_any (x : MCk) (P V : Nat) (k : Kd) (a : Option Addr) (c : Nat) (s : Span) (h : Int) (w : World) (hP : Cells w P [.pointer (some ⟨V, 0, none⟩)]) (hV : Cells w V (vC k a c s h)) (hR : RdSteps w a k.steps) (hK : KOk k) :
    Calls Try.prog 71 #[.agg #[.int .i64 x.hour, .int .i64 x.volt, .bool x.passed], .pointer (some ⟨P, 0, none⟩)] w (fun e w' => e = .returned (.bool (badC k x)) ∧ Below w.heap.size w w') := by
 have HR := hid hR; have HK := hid hK; clear hR hK; have kP := hP; have kV := hV
 refine enter_F Try.func71 rfl Try.ntmps71 (by simp) ?_
 intro s0 hs; have sl0 : s0 0 = .agg #[.int .i64 x.hour, .int .i64 x.volt, .bool x.passed] := hs 0 (by simp); have sl1 : s0 1 = .pointer (some ⟨P, 0, none⟩) := hs 1 (by simp); clear hs; have HB := hid (OldB.refl [] w); have qP := kP.1; have qV := kV.1
 repeat ((fail_if_success refine stp ?_); with_reducible go_step)
 refine region_F ?_; refine pa (fun w1 B2 hB kb2' hb2 => ?_); have gb2 := HB.out.gB hB; have oP_b2 := oB qP hB; have oV_b2 := oB qV hB; have eb2 := eB hB; clear hB; clear qP qV; replace kP := kP.at hb2; replace kV := kV.at hb2; replace HB := hid (HB.out.below hb2); clear hb2; have qP := kP.1; have qV := kV.1; have kb2 := kb2'; clear kb2'; have qb2 := kb2.1; refine pl ?_; refine listF_abs (fun s3 z' => ?_); replace sl1 := gs 1 z' sl1; have sl2 := gu 2 z'; clear z' sl0; refine listF_nil ?_
 repeat ((fail_if_success refine stp ?_); with_reducible go_step)
 refine region_F ?_; refine pl ?_; have cb2_0 := kb2.cell 0 rfl; have cb2_1 := kb2.cell 1 rfl; have cb2_2 := kb2.cell 2 rfl; refine pl ?_; refine pas (fun w4 B6 hB kb6' hb5 => ?_); have gb6 := HB.out.gB hB; have oP_b6 := oB qP hB; have oV_b6 := oB qV hB; have ob2_b6 := oB qb2 hB; have eb6 := eB hB; clear hB; clear cb2_0 cb2_1 cb2_2; clear qP qV qb2; replace kP := kP.at hb5; replace kV := kV.at hb5; replace kb2 := kb2.at hb5; replace HB := hid (HB.out.below hb5); clear hb5; have qP := kP.1; have qV := kV.1; have qb2 := kb2.1; have kb6 := kb6'; clear kb6'; have qb6 := kb6.1; refine listF_step rfl (fun K' hK => ?_); unfold opF; go_simp; refine (out_any 100000 _ _ [x.hour] _ (by simp) (rd1 kb6)).mono ?_; rintro e w6 ⟨rfl, hb7⟩; refine ⟨_, rfl, hK _ _ ?_⟩; clear hK K'; clear qP qV qb2 qb6; replace kP := kP.at hb7; replace kV := kV.at hb7; replace kb2 := kb2.at hb7; replace kb6 := kb6.at hb7; replace HB := hid (HB.out.below hb7); clear hb7; have qP := kP.1; have qV := kV.1
 have qb2 := kb2.1; have qb6 := kb6.1; refine pl ?_; refine listF_abs (fun s8 z' => ?_); replace sl1 := gs 1 z' sl1; replace sl2 := gs 2 z' sl2; have sl8 := gu 8 z'; clear z'
 refine boolG sl8 (fun sl8' h8 => ?_) (fun sl8' h8 => ?_) <;> (clear sl8; have sl8 := sl8'; clear sl8')
 ·skip
  refine pn true ?_
  refine pn true ?_; refine pn true ?_; refine pn true ?_; refine pl ?_; refine pl ?_; refine listF_abs (fun s9 z' => ?_); have sl3 := gu 3 z'; clear z' sl1 sl2 sl8; refine listF_nil ?_
  repeat ((fail_if_success refine stp ?_); with_reducible go_step)
  refine ret_F _ (res_t Try.results71 ((getD_F (by decide)).trans sl3)) ?_; refine ⟨ret_bool ?_, HB.out.toBelow⟩
  rw [out1] at h8; unfold badC chkOk; cases hz : inb x.hour 0 100000 <;> simp [hz] at h8 ⊢
 ·skip
  have cP_0 := kP.cell 0 rfl; refine py ?_; refine py ?_; have cb2_0 := kb2.cell 0 rfl; have cb2_1 := kb2.cell 1 rfl; have cb2_2 := kb2.cell 2 rfl; refine py ?_; refine listF_yes rfl rfl (by decide) ?_ (fun K' hK => ?_); (focus (go_simp; done)); unfold opF; go_simp; refine (silent_any V k a c s h x.volt _ kV (Rd.oldB HR.out HB.out (by simp)) HK.out).mono ?_; rintro e w10 ⟨rfl, hb11⟩; refine ⟨_, rfl, hK _ _ ?_⟩; clear hK K'; clear cP_0 cb2_0 cb2_1 cb2_2; clear qP qV qb2 qb6; replace kP := kP.at hb11; replace kV := kV.at hb11; replace kb2 := kb2.at hb11; replace kb6 := kb6.at hb11; replace HB := hid (HB.out.below hb11); clear hb11; have qP := kP.1; have qV := kV.1; have qb2 := kb2.1; have qb6 := kb6.1; refine pl ?_; refine pl ?_; refine listF_abs (fun s12 z' => ?_); have sl3 := gu 3 z'; clear z' sl1 sl2 sl8; refine listF_nil ?_
  repeat ((fail_if_success refine stp ?_); with_reducible go_step)
  refine ret_F _ (res_t Try.results71 ((getD_F (by decide)).trans sl3)) ?_; refine ⟨ret_bool ?_, HB.out.toBelow⟩
  rw [out1] at h8; unfold badC chkOk; cases hz : inb x.hour 0 100000 <;> simp [hz] at h8 ⊢

set_option maxRecDepth 100000 in
set_option maxHeartbeats 1000000 in
theorem idxCk_any (al : Option Addr) (cl : Nat) (l : List MCk) (P V : Nat) (k : Kd) (a : Option Addr) (c : Nat) (s : Span) (h : Int) (w : World) (hl : l.length ≤ 9223372036854775807) (hRl : RdCks w al l) (hP : Cells w P [.pointer (some ⟨V, 0, none⟩)]) (hV : Cells w V (vC k a c s h)) (hR : RdSteps w a k.steps) (hK : KOk k) :
    Calls Try.prog 82 #[.slice al l.length cl, .func (.func 71) #[] #[.pointer (some ⟨P, 0, none⟩)]] w (fun e w' => e = .returned (.int .i64 (idxOf (badC k) l)) ∧ Below w.heap.size w w') := by
 have HRl := hid hRl; clear hRl; have HR := hid hR; have HK := hid hK; have HP := hid hP; have HV := hid hV; clear hR hK hP hV
 refine enter_F Try.func82 rfl Try.ntmps82 (by simp) ?_
 intro s0 hs; have sl0 : s0 0 = .slice al l.length cl := hs 0 (by simp); have sl1 : s0 1 = .func (.func 71) #[] #[.pointer (some ⟨P, 0, none⟩)] := hs 1 (by simp); clear hs; have HB := hid (OldB.refl [] w)
 repeat ((fail_if_success refine stp ?_); with_reducible go_step)
 refine region_F ?_; refine pl ?_; refine listF_abs (fun s1 z' => ?_); replace sl0 := gs 0 z' sl0; replace sl1 := gs 1 z' sl1; clear z'; refine listF_nil ?_
 repeat ((fail_if_success refine stp ?_); with_reducible go_step)
 refine region_F ?_
 iterate 3 refine pl ?_
 refine listF_abs (fun s2 z' => ?_); replace sl0 := gs 0 z' sl0; replace sl1 := gs 1 z' sl1; have sl7 := gu 7 z'; have sl8 := gu 8 z'; clear z'; refine listF_nil ?_
 repeat ((fail_if_success refine stp ?_); with_reducible go_step)
 have hc0_0 := hid sl0; have hc0_1 := hid sl1; have hc0_7 := hid sl7; refine loop_F (n := 19) (fun kJ sJ wJ => ∃ (i : Nat), kJ = l.length - i ∧ sJ 8 = .int .i64 (i : Int) ∧ sJ 0 = s2 0 ∧ sJ 1 = s2 1 ∧ sJ 7 = s2 7 ∧ OldB [] w wJ ∧ i ≤ l.length ∧ Hid ((l.take i).any (badC k) = false)) ⟨0, rfl, (by first | exact sl8 | (rw [sl8]; go_num) | (rw [sl8]; rfl)), rfl, rfl, rfl, OldB.refl _ _, Nat.zero_le _, hid rfl⟩ ?_; clear sl8; rintro kJ s3 w4 ⟨i, rfl, sl8, e0, e1, e7, hb5, hkl, hno⟩; replace sl0 := e0.trans sl0; clear e0; replace sl1 := e1.trans sl1; clear e1; replace sl7 := e7.trans sl7; clear e7; have hoJ := hb5; replace HB := hid (HB.out.more hb5 (by simp; try omega)); clear hb5; have HoJ := hid hoJ; clear hoJ; have HL6 := HoJ; clear HoJ
 repeat ((fail_if_success refine stp ?_); with_reducible go_step)
 refine region_F ?_; refine pl ?_; refine listF_abs (fun s7 z' => ?_); replace sl0 := gs 0 z' sl0; replace sl1 := gs 1 z' sl1; replace sl7 := gs 7 z' sl7; replace sl8 := gs 8 z' sl8; have sl9 := gu 9 z'; clear z'; refine listF_nil ?_
 repeat ((fail_if_success refine stp ?_); with_reducible go_step)
 refine cond_E sl9 (by decide) ?_ ?_ <;> (clear sl9; intro h9 sl9)
 ·skip
  have hlt : i < l.length := by simpa using h9
  obtain ⟨b, off, rfl, hb, h0, h1, h2⟩ := RdCks.ne (Rd.oldB HRl.out HB.out (by simp)) hlt
  repeat ((fail_if_success refine stp ?_); with_reducible go_step)
  refine region_F ?_; refine pl ?_; refine pl ?_; refine listF_abs (fun s8 z' => ?_); replace sl0 := gs 0 z' sl0; replace sl1 := gs 1 z' sl1; have sl5 := gu 5 z'; replace sl7 := gs 7 z' sl7; replace sl8 := gs 8 z' sl8; clear z' sl9; refine listF_nil ?_
  repeat ((fail_if_success refine stp ?_); with_reducible go_step)
  refine region_F ?_
  iterate 5 refine pl ?_
  refine listF_step rfl (fun K' hK => ?_); unfold opF; go_simp; refine (look1_any l[i] P V k a c s h _ (HP.out.at HB.out.toBelow) (HV.out.at HB.out.toBelow) (Rd.at HR.out HB.out.toBelow) HK.out).mono ?_; rintro e w9 ⟨rfl, hb10⟩; refine ⟨_, rfl, hK _ _ ?_⟩; clear hK K'; replace HL6 := hid (HL6.out.below hb10); replace HB := hid (HB.out.below hb10); clear hb10; refine listF_abs (fun s11 z' => ?_); replace sl0 := gs 0 z' sl0; replace sl1 := gs 1 z' sl1; replace sl5 := gs 5 z' sl5; replace sl7 := gs 7 z' sl7; replace sl8 := gs 8 z' sl8; have sl16 := gu 16 z'; clear z'; refine listF_nil ?_
  repeat ((fail_if_success refine stp ?_); with_reducible go_step)
  refine cond_E sl16 (by decide) ?_ ?_ <;> (clear sl16; intro h16 sl16)
  ·skip
   have Hpk := hid (idx_found hlt hno.out h16)
   repeat ((fail_if_success refine stp ?_); with_reducible go_step)
   refine region_F ?_; refine pl ?_; refine pl ?_; refine listF_abs (fun s12 z' => ?_); have sl4 := gu 4 z'; clear z' sl0 sl1 sl5 sl7 sl8 sl16; refine listF_nil ?_
   repeat ((fail_if_success refine stp ?_); with_reducible go_step)
   refine ret_F _ (res_t Try.results82 ((getD_F (by decide)).trans sl4)) ?_; exact ⟨ret_int Hpk.out.symm, HB.out.toBelow⟩
  ·skip
   have hpk := hid h16
   repeat ((fail_if_success refine stp ?_); with_reducible go_step)
   refine region_F ?_; refine pl ?_; refine pl ?_; refine listF_abs (fun s13 z' => ?_); replace sl0 := gs 0 z' sl0; replace sl1 := gs 1 z' sl1; replace sl7 := gs 7 z' sl7; replace sl8 := gu 8 z'; clear z' sl5 sl16; refine listF_nil ?_
   repeat ((fail_if_success refine stp ?_); with_reducible go_step)
   refine ⟨_, _, rfl, ?_, i + 1, rfl, (by first | (with_reducible exact sl8) | (rw [sl8]; (with_reducible go_num); done) | (rw [sl8, IntWalk.i64_in] <;> first | ((with_reducible go_num); done) | omega) | (rw [sl8]; go_num; done) | (rw [sl8]; simp; done) | (rw [sl8]; simp; omega)), (sl0.trans hc0_0.out.symm), (sl1.trans hc0_1.out.symm), (sl7.trans hc0_7.out.symm), HL6.out, by omega, hid (by rw [any_take_succ _ _ _ hlt, hno.out, hpk.out]; rfl)⟩
   omega
 ·skip
  have hge : l.length ≤ i := by simpa using h9
  have hno2 : l.any (badC k) = false := by have := hno.out; rwa [List.take_of_length_le hge] at this
  have Hno := hid hno2; clear hno2
  repeat ((fail_if_success refine stp ?_); with_reducible go_step)
  clear HL6; clear hc0_0 hc0_1 hc0_7; refine region_F ?_; refine pl ?_; refine listF_abs (fun s14 z' => ?_); have sl4 := gu 4 z'; clear z' sl0 sl1 sl7 sl8 sl9; refine listF_nil ?_
  repeat ((fail_if_success refine stp ?_); with_reducible go_step)
  refine ret_F _ (res_t Try.results82 ((getD_F (by decide)).trans sl4)) ?_; exact ⟨ret_int (idx_none Hno.out).symm, HB.out.toBelow⟩

set_option maxRecDepth 100000 in
set_option maxHeartbeats 1000000 in
theorem conCk_any (al : Option Addr) (cl : Nat) (l : List MCk) (P V : Nat) (k : Kd) (a : Option Addr) (c : Nat) (s : Span) (h : Int) (w : World) (hl : l.length ≤ 9223372036854775807) (hRl : RdCks w al l) (hP : Cells w P [.pointer (some ⟨V, 0, none⟩)]) (hV : Cells w V (vC k a c s h)) (hR : RdSteps w a k.steps) (hK : KOk k) :
    Calls Try.prog 70 #[.slice al l.length cl, .func (.func 71) #[] #[.pointer (some ⟨P, 0, none⟩)]] w (fun e w' => e = .returned (.bool (l.any (badC k))) ∧ Below w.heap.size w w') := by
 have HRl := hid hRl; have HR := hid hR; have HK := hid hK; have HP := hid hP; have HV := hid hV; clear hR hK hP hV hRl
 refine enter_F Try.func70 rfl Try.ntmps70 (by simp) ?_
 intro s0 hs; have sl0 : s0 0 = .slice al l.length cl := hs 0 (by simp); have sl1 : s0 1 = .func (.func 71) #[] #[.pointer (some ⟨P, 0, none⟩)] := hs 1 (by simp); clear hs; have HB := hid (OldB.refl [] w)
 repeat ((fail_if_success refine stp ?_); with_reducible go_step)
 refine region_F ?_; refine pl ?_; refine listF_abs (fun s1 z' => ?_); replace sl0 := gs 0 z' sl0; replace sl1 := gs 1 z' sl1; clear z'; refine listF_nil ?_
 repeat ((fail_if_success refine stp ?_); with_reducible go_step)
 refine region_F ?_; refine pl ?_; refine pl ?_; refine listF_step rfl (fun K' hK => ?_); unfold opF; go_simp; refine (idxCk_any al cl l P V k a c s h _ hl HRl.out HP.out HV.out HR.out HK.out).mono ?_; rintro e w2 ⟨rfl, hb3⟩; refine ⟨_, rfl, hK _ _ ?_⟩; clear hK K'; replace HB := hid (HB.out.below hb3); clear hb3; refine pl ?_; refine pl ?_; refine listF_abs (fun s4 z' => ?_); have sl4 := gu 4 z'; clear z' sl0 sl1; refine listF_nil ?_
 repeat ((fail_if_success refine stp ?_); with_reducible go_step)
 refine ret_F _ (res_t Try.results70 ((getD_F (by decide)).trans sl4)) ?_; exact ⟨ret_bool (idx_any' _ _), HB.out.toBelow⟩


def spanOk (s : Span) : Prop := (-1 ≤ s.lo ∧ s.lo ≤ 1000000) ∧ (-1 ≤ s.hi ∧ s.hi ≤ 1000000)
theorem spanOk.in {s : Span} (h : spanOk s) : spanIn s := by obtain ⟨⟨h1, h2⟩, h3, h4⟩ := h; exact ⟨⟨by omega, by omega⟩, by omega, by omega⟩
theorem later_ok {k : Kd} {s : Span} {d : Int} (hK : KOk k) (h : spanOk s) (hd : 0 ≤ d) : spanOk (later k s d) := by
  obtain ⟨⟨h1, h2⟩, h3, h4⟩ := h; have a1 : 0 ≤ d * k.wear.hi := Int.mul_nonneg hd (by have := hK.w0; have := hK.w1; omega); have a2 : 0 ≤ d * k.wear.lo := Int.mul_nonneg hd hK.w0; unfold later spanOk
  simp only
  omega
theorem agreed_ok {k : Kd} {s : Span} {v : Int} {p : Bool} (hK : KOk k) (h : spanOk s) (hv : voltOk k v = true) : spanOk (agreed k s v p) := by
  obtain ⟨⟨h1, h2⟩, h3, h4⟩ := h; have := needed_bd hK hv; unfold agreed spanOk
  split <;> simp only <;> omega
theorem new_ok {k : Kd} (hK : KOk k) : spanOk ⟨k.new, k.new⟩ := by have := hK.n0; have := hK.n1; unfold spanOk; simp only; omega
def runN (k : Kd) (l : List MCk) (i : Nat) : Option (Span × Int) := runC k (l.take i) (⟨k.new, k.new⟩, 0)
theorem runN_step {k : Kd} {l : List MCk} {i : Nat} (hi : i < l.length) {s : Span} {h : Int} (hr : runN k l i = some (s, h)) :
    runN k l (i + 1) = if (agreed k (later k s (l[i].hour - h)) l[i].volt l[i].passed).hi < (agreed k (later k s (l[i].hour - h)) l[i].volt l[i].passed).lo then none else some (agreed k (later k s (l[i].hour - h)) l[i].volt l[i].passed, l[i].hour) := by
  unfold runN at *; rw [List.take_succ_eq_append_getElem hi, runC_snoc, hr]
  rfl
theorem runC_none {k : Kd} : ∀ (l1 l2 : List MCk) (x : Span × Int), runC k l1 x = none → runC k (l1 ++ l2) x = none
  | [], l2, x, h => by cases h
  | c :: l1, l2, (s, h0), h => by
    simp only [List.cons_append, runC] at h ⊢
    split
    · rfl
    · rename_i hn; rw [if_neg hn] at h; exact runC_none l1 l2 _ h
theorem runN_none {k : Kd} {l : List MCk} {i : Nat} (h : runN k l i = none) : runC k l (⟨k.new, k.new⟩, 0) = none := by
  have := runC_none (l.take i) (l.drop i) _ h; rwa [List.take_append_drop] at this
theorem runN_all {k : Kd} {l : List MCk} {i : Nat} (hi : l.length ≤ i) {x : Span × Int} (h : runN k l i = some x) : runC k l (⟨k.new, k.new⟩, 0) = some x := by
  unfold runN at h; rwa [List.take_of_length_le hi] at h
/-- the hours up to i come before those from i on -/
def HrLe (l : List MCk) (i : Nat) (h : Int) : Prop := ∀ j (hj : j < l.length), i ≤ j → h ≤ l[j].hour
theorem hrLe_next {l : List MCk} {i : Nat} (hs : SortedC l) (hi : i < l.length) : HrLe l (i + 1) l[i].hour := by
  intro j hj hij; exact List.pairwise_iff_getElem.1 hs i j hi hj (by omega)
theorem asked_1 {k : Kd} {cs : List MCk} {h : Int} (he : kdErr k ≠ 0) : asked k cs h = (Span.zero, kdErr k) := by unfold asked; rw [if_pos he]
theorem asked_2 {k : Kd} {cs : List MCk} {h : Int} (he : kdErr k = 0) (hl : 30 < cs.length) : asked k cs h = (Span.zero, 3) := by unfold asked; rw [if_neg (by simp [he]), if_pos hl]
theorem asked_3 {k : Kd} {cs : List MCk} {h : Int} (he : kdErr k = 0) (hl : ¬ 30 < cs.length) (hb : cs.any (badC k) = true) : asked k cs h = (Span.zero, 7) := by unfold asked; rw [if_neg (by simp [he]), if_neg hl, if_pos hb]
theorem asked_4 {k : Kd} {cs : List MCk} {h : Int} (he : kdErr k = 0) (hl : ¬ 30 < cs.length) (hb : cs.any (badC k) = false) (hk : known k cs = none) : asked k cs h = (Span.zero, 9) := by unfold asked; rw [if_neg (by simp [he]), if_neg hl, if_neg (by rw [hb]; decide), hk]
theorem asked_5 {k : Kd} {cs : List MCk} {h : Int} (he : kdErr k = 0) (hl : ¬ 30 < cs.length) (hb : cs.any (badC k) = false) {s : Span} {t : Int} (hk : known k cs = some (s, t)) : asked k cs h = if inb h 0 100000 = false then (Span.zero, 7) else if h < t then (Span.zero, 2) else (later k s (h - t), 0) := by unfold asked; rw [if_neg (by simp [he]), if_neg hl, if_neg (by rw [hb]; decide), hk]
theorem not_bad {k : Kd} {cs : List MCk} (h : cs.any (badC k) = false) : ∀ x ∈ cs, chkOk k x = true := by
  intro x hx; rw [List.any_eq_false] at h
  simpa using h x hx
/-- look: the valve at the hour, or the error -/
def LookRes (k : Kd) (a : Option Addr) (c : Nat) (cs : List MCk) (h : Int) (w : World) (e : Ending) (w' : World) : Prop :=
  (∃ V, (asked k cs h).2 = 0 ∧ e = .returned (.tuple #[.pointer (some ⟨V, 0, none⟩), .int .i64 0]) ∧ w.heap.size ≤ V ∧ Cells w' V (vC k a c (asked k cs h).1 h) ∧ Below w.heap.size w w') ∨
  ((asked k cs h).2 ≠ 0 ∧ e = .returned (.tuple #[.pointer none, .int .i64 (asked k cs h).2]) ∧ Below w.heap.size w w')
theorem look_no {k : Kd} {a : Option Addr} {c : Nat} {cs : List MCk} {h : Int} {w w' : World} {n : Int} (ha : asked k cs h = (Span.zero, n)) (hn : n ≠ 0) (hb : Below w.heap.size w w') : LookRes k a c cs h w (.returned (.tuple #[.pointer none, .int .i64 n])) w' :=
  .inr ⟨by rw [ha]; exact hn, by rw [ha], hb⟩
end


end Go.Proofs.Ytndcmmghgljinaa
