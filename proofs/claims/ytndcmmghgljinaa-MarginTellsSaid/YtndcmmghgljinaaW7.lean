/- The stable sort's parts: rotating. -/
import Derived.Test.YtndcmmghgljinaaW6
set_option linter.all false
namespace Go.Proofs.Ytndcmmghgljinaa
open Go.RowKit

open Go.Sort
set_option maxRecDepth 100000 in
set_option maxHeartbeats 1000000 in
theorem rotate_any (g cap O N : Nat) (d : Array MCk) (hN : d.size = N) (a m b : Nat) (w : World) (hg : Cells w g (fl d)) (hsz : d.size ≤ 1000) (ham : a < m) (hmb : m < b) (hb : b ≤ d.size) :
    Calls Try.prog 91 #[.slice (some ⟨g, 0, none⟩) N cap, .int .i64 (a : Int), .int .i64 (m : Int), .int .i64 (b : Int), .func (.func 85) #[] #[.pointer (some ⟨O, 0, none⟩)]] w (SortRes g w (fun d' => Same d d' (rotF a m b) ∧ PermIn a b d d')) := by
 obtain rfl := hN; have kg := hg
 refine enter_F Try.func91 rfl Try.ntmps91 (by simp) ?_
 intro s0 hs; have sl0 : s0 0 = .slice (some ⟨g, 0, none⟩) d.size cap := hs 0 (by simp); have sl1 : s0 1 = .int .i64 (a : Int) := hs 1 (by simp); have sl2 : s0 2 = .int .i64 (m : Int) := hs 2 (by simp); have sl3 : s0 3 = .int .i64 (b : Int) := hs 3 (by simp); have sl4 : s0 4 = .func (.func 85) #[] #[.pointer (some ⟨O, 0, none⟩)] := hs 4 (by simp); clear hs; have HB := hid (OldB.refl [g] w); have qg := kg.1
 repeat ((fail_if_success refine stp ?_); with_reducible go_step)
 refine region_F ?_; refine pl ?_; refine pl ?_
 have ema : (m : Int) - (a : Int) = ((m - a : Nat) : Int) := by omega
 have wema : IntKind.i64.wrap ((m : Int) - (a : Int)) = ((m - a : Nat) : Int) := by rw [IntWalk.i64_in _ (by omega)]; omega
 have vema : IntKind.i64.wrap ((m - a : Nat) : Int) = ((m - a : Nat) : Int) := IntWalk.i64_in _ (by omega); refine pl ?_; refine pl ?_; refine listF_abs (fun s1 z' => ?_); replace sl0 := gs 0 z' sl0; replace sl2 := gs 2 z' sl2; replace sl3 := gs 3 z' sl3; replace sl4 := gs 4 z' sl4; have sl10 := gu 10 z'; clear z' sl1; refine listF_nil ?_
 repeat ((fail_if_success refine stp ?_); with_reducible go_step)
 refine region_F ?_; refine pl ?_; refine pl ?_
 have ebm : (b : Int) - (m : Int) = ((b - m : Nat) : Int) := by omega
 have webm : IntKind.i64.wrap ((b : Int) - (m : Int)) = ((b - m : Nat) : Int) := by rw [IntWalk.i64_in _ (by omega)]; omega
 have vebm : IntKind.i64.wrap ((b - m : Nat) : Int) = ((b - m : Nat) : Int) := IntWalk.i64_in _ (by omega); refine pl ?_; refine pl ?_; refine listF_abs (fun s2 z' => ?_); replace sl0 := gs 0 z' sl0; replace sl2 := gs 2 z' sl2; replace sl4 := gs 4 z' sl4; replace sl10 := gs 10 z' sl10; have sl11 := gu 11 z'; clear z' sl3; refine listF_nil ?_
 repeat ((fail_if_success refine stp ?_); with_reducible go_step)
 have hc0_0 := hid sl0; have hc0_2 := hid sl2; have hc0_4 := hid sl4; refine loop_F (n := 58) (fun kJ sJ wJ => ∃ (i j : Nat) (d1 : Array MCk), kJ = i + j ∧ sJ 10 = .int .i64 (i : Int) ∧ sJ 11 = .int .i64 (j : Int) ∧ sJ 0 = s2 0 ∧ sJ 2 = s2 2 ∧ sJ 4 = s2 4 ∧ OldB [g] w wJ ∧ Cells wJ g (fl d1) ∧ 0 < i ∧ 0 < j ∧ i ≤ m - a ∧ m + j ≤ b ∧ (Hid (∀ d', Same d1 d' (rotF (m - i) m (m + j)) → Same d d' (rotF a m b))) ∧ Hid (PermIn a b d d1)) ⟨m - a, b - m, d, rfl, (by first | exact sl10 | (rw [sl10]; go_num) | (rw [sl10]; rfl)), (by first | exact sl11 | (rw [sl11]; go_num) | (rw [sl11]; rfl)), rfl, rfl, rfl, OldB.refl _ _, (by first | (with_reducible exact kg) | (apply Cells.conv; (focus (exact kg)); (first | rfl | (simp; done)))), by omega, by omega, Nat.le_refl _, by omega, hid (fun d' h => h.to (fun k => by rw [show m - (m - a) = a by omega, show m + (b - m) = b by omega])), hid (permIn_refl d a b)⟩ ?_
 clear sl10 sl11; rintro kJ s3 w4 ⟨i, j, d1, rfl, sl10, sl11, e0, e2, e4, hb5, mg', hi0, hj0, him, hjb, hS, hP⟩; replace sl0 := e0.trans sl0; clear e0; replace sl2 := e2.trans sl2; clear e2; replace sl4 := e4.trans sl4; clear e4; have hoJ := hb5; clear qg; replace kg := mg'; replace HB := hid (HB.out.more hb5 (by simp; try omega)); clear hb5; have qg := kg.1; clear mg'; have HoJ := hid hoJ; clear hoJ; have hs1 : d1.size = d.size := hP.out.1; have hs1' := hid hs1
 have hb1 : b ≤ d1.size := by omega
 have hz1 : d1.size ≤ 1000 := by omega
 clear hs1; have HL6 := HoJ; clear HoJ
 repeat ((fail_if_success refine stp ?_); with_reducible go_step)
 refine region_F ?_
 iterate 3 refine pl ?_
 refine listF_abs (fun s7 z' => ?_); replace sl0 := gs 0 z' sl0; replace sl2 := gs 2 z' sl2; replace sl4 := gs 4 z' sl4; replace sl10 := gs 10 z' sl10; replace sl11 := gs 11 z' sl11; have sl20 := gu 20 z'; clear z'; refine listF_nil ?_
 repeat ((fail_if_success refine stp ?_); with_reducible go_step)
 refine cond_E sl20 (by decide) ?_ ?_ <;> (clear sl20; intro h20 sl20)
 ·skip
  have h20n : ¬ i = j := by have : ¬ (i : Int) = (j : Int) := (by simpa using h20); omega
  repeat ((fail_if_success refine stp ?_); with_reducible go_step)
  refine region_F ?_
  iterate 3 refine pl ?_
  refine listF_abs (fun s8 z' => ?_); replace sl0 := gs 0 z' sl0; replace sl2 := gs 2 z' sl2; replace sl4 := gs 4 z' sl4; replace sl10 := gs 10 z' sl10; replace sl11 := gs 11 z' sl11; have sl23 := gu 23 z'; clear z' sl20; refine listF_nil ?_
  repeat ((fail_if_success refine stp ?_); with_reducible go_step)
  refine cond_E sl23 (by decide) ?_ ?_ <;> (clear sl23; intro h23 sl23)
  ·skip
   have h23' : j < i := by simpa using h23
   repeat ((fail_if_success refine stp ?_); with_reducible go_step)
   refine region_F ?_
   iterate 3 refine pl ?_
   have ei : (m : Int) - (i : Int) = ((m - i : Nat) : Int) := by omega
   have wei : IntKind.i64.wrap ((m : Int) - (i : Int)) = ((m - i : Nat) : Int) := by rw [IntWalk.i64_in _ (by omega)]; omega
   have vei : IntKind.i64.wrap ((m - i : Nat) : Int) = ((m - i : Nat) : Int) := IntWalk.i64_in _ (by omega)
   iterate 4 refine pl ?_
   refine listF_step rfl (fun K' hK => ?_); unfold opF; go_simp; refine (swapRange_any g cap O _ d1 hs1'.out (m - i) (m) (j) _ kg (by omega) (.inl (by omega)) (by omega) (by omega)).mono ?_; rintro e w9 ⟨rfl, d2, kg2, ⟨hS2, hP2⟩, hb10⟩; have hS2 := hid hS2; have hP2 := hid hP2; refine ⟨_, rfl, hK _ _ ?_⟩; clear hK K'; clear qg; replace kg := kg2; replace HL6 := hid (HL6.out.more hb10 (by simp; try omega)); replace HB := hid (HB.out.more hb10 (by simp; try omega)); clear hb10; have qg := kg.1; refine listF_abs (fun s11 z' => ?_); replace sl0 := gs 0 z' sl0; replace sl2 := gs 2 z' sl2; replace sl4 := gs 4 z' sl4; replace sl10 := gs 10 z' sl10; replace sl11 := gs 11 z' sl11; clear z' sl23; refine listF_nil ?_
   repeat ((fail_if_success refine stp ?_); with_reducible go_step)
   refine region_F ?_; refine pl ?_; refine pl ?_
   have eij : (i : Int) - (j : Int) = ((i - j : Nat) : Int) := by omega
   have weij : IntKind.i64.wrap ((i : Int) - (j : Int)) = ((i - j : Nat) : Int) := by rw [IntWalk.i64_in _ (by omega)]; omega
   have veij : IntKind.i64.wrap ((i - j : Nat) : Int) = ((i - j : Nat) : Int) := IntWalk.i64_in _ (by omega); refine pl ?_; refine pl ?_; refine listF_abs (fun s12 z' => ?_); replace sl0 := gs 0 z' sl0; replace sl2 := gs 2 z' sl2; replace sl4 := gs 4 z' sl4; replace sl10 := gu 10 z'; replace sl11 := gs 11 z' sl11; clear z'; refine listF_nil ?_
   repeat ((fail_if_success refine stp ?_); with_reducible go_step)
   refine ⟨_, _, rfl, ?_, i - j, j, d2, rfl, (by first | (with_reducible exact sl10) | (rw [sl10]; (with_reducible go_num); done) | (rw [sl10, IntWalk.i64_in] <;> first | ((with_reducible go_num); done) | omega) | (rw [sl10]; go_num; done) | (rw [sl10]; simp; done) | (rw [sl10]; simp; omega)), (by first | (with_reducible exact sl11) | (rw [sl11]; (with_reducible go_num); done) | (rw [sl11, IntWalk.i64_in] <;> first | ((with_reducible go_num); done) | omega) | (rw [sl11]; go_num; done) | (rw [sl11]; simp; done) | (rw [sl11]; simp; omega)), (sl0.trans hc0_0.out.symm), (sl2.trans hc0_2.out.symm), (sl4.trans hc0_4.out.symm), HL6.out, (by first | (with_reducible exact kg) | (apply Cells.conv; (focus (exact kg)); (first | rfl | (simp; done)))), by omega, by omega, by omega, by omega, hid (fun d' h => hS.out d' ((hS2.out.trans h).to (rot_left (a := a) (b := b) h23' (by omega)))), hid (permIn_trans _ _ _ _ _ hP.out (hP2.out a b (by omega) (by omega) (by omega) (by omega) (by omega)))⟩
   omega
  ·skip
   have h20' : i < j := by have : ¬ j < i := (by simpa using h23); omega
   repeat ((fail_if_success refine stp ?_); with_reducible go_step)
   refine region_F ?_
   iterate 3 refine pl ?_
   have ei : (m : Int) - (i : Int) = ((m - i : Nat) : Int) := by omega
   have wei : IntKind.i64.wrap ((m : Int) - (i : Int)) = ((m - i : Nat) : Int) := by rw [IntWalk.i64_in _ (by omega)]; omega
   have vei : IntKind.i64.wrap ((m - i : Nat) : Int) = ((m - i : Nat) : Int) := IntWalk.i64_in _ (by omega)
   iterate 3 refine pl ?_
   have wmj : IntKind.i64.wrap ((m : Int) + (j : Int)) = (m : Int) + (j : Int) := IntWalk.i64_in _ (by omega); refine pl ?_; refine pl ?_
   have emk : (m : Int) + (j : Int) - (i : Int) = ((m + j - i : Nat) : Int) := by omega
   have wemk : IntKind.i64.wrap ((m : Int) + (j : Int) - (i : Int)) = ((m + j - i : Nat) : Int) := by rw [IntWalk.i64_in _ (by omega)]; omega
   have vemk : IntKind.i64.wrap ((m + j - i : Nat) : Int) = ((m + j - i : Nat) : Int) := IntWalk.i64_in _ (by omega)
   iterate 3 refine pl ?_
   refine listF_step rfl (fun K' hK => ?_); unfold opF; go_simp; refine (swapRange_any g cap O _ d1 hs1'.out (m - i) (m + j - i) (i) _ kg (by omega) (.inl (by omega)) (by omega) (by omega)).mono ?_; rintro e w13 ⟨rfl, d3, kg3, ⟨hS3, hP3⟩, hb14⟩; have hS3 := hid hS3; have hP3 := hid hP3; refine ⟨_, rfl, hK _ _ ?_⟩; clear hK K'; clear qg; replace kg := kg3; replace HL6 := hid (HL6.out.more hb14 (by simp; try omega)); replace HB := hid (HB.out.more hb14 (by simp; try omega)); clear hb14; have qg := kg.1; refine listF_abs (fun s15 z' => ?_); replace sl0 := gs 0 z' sl0; replace sl2 := gs 2 z' sl2; replace sl4 := gs 4 z' sl4; replace sl10 := gs 10 z' sl10; replace sl11 := gs 11 z' sl11; clear z' sl23; refine listF_nil ?_
   repeat ((fail_if_success refine stp ?_); with_reducible go_step)
   refine region_F ?_; refine pl ?_; refine pl ?_
   have eji : (j : Int) - (i : Int) = ((j - i : Nat) : Int) := by omega
   have weji : IntKind.i64.wrap ((j : Int) - (i : Int)) = ((j - i : Nat) : Int) := by rw [IntWalk.i64_in _ (by omega)]; omega
   have veji : IntKind.i64.wrap ((j - i : Nat) : Int) = ((j - i : Nat) : Int) := IntWalk.i64_in _ (by omega); refine pl ?_; refine pl ?_; refine listF_abs (fun s16 z' => ?_); replace sl0 := gs 0 z' sl0; replace sl2 := gs 2 z' sl2; replace sl4 := gs 4 z' sl4; replace sl10 := gs 10 z' sl10; replace sl11 := gu 11 z'; clear z'; refine listF_nil ?_
   repeat ((fail_if_success refine stp ?_); with_reducible go_step)
   refine ⟨_, _, rfl, ?_, i, j - i, d3, rfl, (by first | (with_reducible exact sl10) | (rw [sl10]; (with_reducible go_num); done) | (rw [sl10, IntWalk.i64_in] <;> first | ((with_reducible go_num); done) | omega) | (rw [sl10]; go_num; done) | (rw [sl10]; simp; done) | (rw [sl10]; simp; omega)), (by first | (with_reducible exact sl11) | (rw [sl11]; (with_reducible go_num); done) | (rw [sl11, IntWalk.i64_in] <;> first | ((with_reducible go_num); done) | omega) | (rw [sl11]; go_num; done) | (rw [sl11]; simp; done) | (rw [sl11]; simp; omega)), (sl0.trans hc0_0.out.symm), (sl2.trans hc0_2.out.symm), (sl4.trans hc0_4.out.symm), HL6.out, (by first | (with_reducible exact kg) | (apply Cells.conv; (focus (exact kg)); (first | rfl | (simp; done)))), by omega, by omega, by omega, by omega, hid (fun d' h => hS.out d' ((hS3.out.trans h).to (rot_right h20' (by omega)))), hid (permIn_trans _ _ _ _ _ hP.out (hP3.out a b (by omega) (by omega) (by omega) (by omega) (by omega)))⟩
   omega
 ·skip
  have H20 := hid (show i = j by have : (i : Int) = (j : Int) := (by simpa using h20); omega); clear h20
  repeat ((fail_if_success refine stp ?_); with_reducible go_step)
  clear HL6; clear hc0_0 hc0_2 hc0_4; refine region_F ?_
  iterate 3 refine pl ?_
  have ei : (m : Int) - (i : Int) = ((m - i : Nat) : Int) := by omega
  have wei : IntKind.i64.wrap ((m : Int) - (i : Int)) = ((m - i : Nat) : Int) := by rw [IntWalk.i64_in _ (by omega)]; omega
  have vei : IntKind.i64.wrap ((m - i : Nat) : Int) = ((m - i : Nat) : Int) := IntWalk.i64_in _ (by omega)
  iterate 4 refine pl ?_
  refine listF_step rfl (fun K' hK => ?_); unfold opF; go_simp; refine (swapRange_any g cap O _ d1 hs1'.out (m - i) (m) (i) _ kg (by have := H20.out; omega) (.inl (by have := H20.out; omega)) (by have := H20.out; omega) (by have := H20.out; omega)).mono ?_; rintro e w17 ⟨rfl, d4, kg4, ⟨hS4, hP4⟩, hb18⟩; have hS4 := hid hS4; have hP4 := hid hP4; refine ⟨_, rfl, hK _ _ ?_⟩; clear hK K'; clear qg; replace kg := kg4; replace HB := hid (HB.out.more hb18 (by simp; try omega)); clear hb18; have qg := kg.1; refine listF_abs (fun s19 z' => ?_); clear z' sl0 sl2 sl4 sl10 sl11 sl20; refine listF_nil ?_
  repeat ((fail_if_success refine stp ?_); with_reducible go_step)
  refine norm_F _ (res_none Try.results91) ?_; refine ⟨rfl, d4, kg, ⟨hS.out d4 (hS4.out.to (fun k => ?_)), permIn_trans _ _ _ _ _ hP.out (hP4.out a b (by have := H20.out; omega) (by omega) (by have := H20.out; omega) (by have := H20.out; omega) (by omega))⟩, HB.out⟩; rw [← H20.out]; exact rot_end (by omega) k

end Go.Proofs.Ytndcmmghgljinaa
