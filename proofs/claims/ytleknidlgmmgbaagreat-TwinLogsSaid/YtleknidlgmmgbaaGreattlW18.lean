/- The program: Decode, check, equal. -/
import Derived.Test.YtleknidlgmmgbaaGreattlW17
set_option linter.all false
set_option maxRecDepth 100000
set_option maxHeartbeats 8000000
namespace Go.Proofs.YtleknidlgmmgbaaGreat

open Go.RowKit

theorem oDecode_ok (x : Int) (w : World) (hx : 0 ≤ x ∧ x ≤ 16777215) :
    Calls Tryz.prog 48 #[.int .i64 x] w (fun e w' => e = .returned (.tuple #[.agg #[.int .i64 (decodeO x).op, .int .i64 (decodeO x).fr, .int .i64 (decodeO x).tt, .int .i64 (decodeO x).nx], .int .i64 0]) ∧ Below w.heap.size w w') := by
 refine enter_F Tryz.func48 rfl Tryz.ntmps48 (by simp) ?_
 intro s0 hs; have Z0 : s0 0 = .int .i64 x := hs 0 (by simp); clear hs; have HB := hid (OldB.refl [] w)
 refine nr ?_; intros; refine pa (fun _ B2 hB Y2 hb => ?_); have gb2 := HB.out.gB hB; have eb2 := eB hB; clear hB; replace HB := bE HB hb; clear hb; have Q2 := Y2.1; refine pl ?_; refine lx [2] ?_; clear Z0; intro _ Z0 Z2; refine lr ?_; intros; refine pl ?_; refine pas (fun _ B5 hB Y5 hb => ?_); have gb5 := HB.out.gB hB; have ob2_b5 := oB Q2 hB; have eb5 := eB hB; clear hB; clear Q2; revert Y2 HB; refine uA hb ?_; clear hb; intro Y2 Q2 HB; have Q5 := Y5.1; refine cal (oout_1 16777215 x B5 1 _ Y5) ?_; rintro e _ ⟨rfl, hb⟩; rw [show (!inI x 0 16777215) = false by rw [(inI_iff _ _ _).2 hx]; rfl]; refine ⟨_, rfl, ?_⟩; clear Q2 Q5; revert Y5 Y2 HB; refine uA hb ?_; clear hb; intro Y5 Q5 Y2 Q2 HB; refine lx [6] ?_; clear Z0 Z2; intro _ Z0 Z2 Z6; refine ln ?_; intros
 refine cond_f ?_
 refine nr ?_; intros; refine pl ?_; refine cal (odecode_any x _ hx) ?_; rintro e _ ⟨rfl, hb⟩; refine ⟨_, rfl, ?_⟩; clear Q2 Q5; revert Y5 Y2 HB; refine uA hb ?_; clear hb; intro Y5 Q5 Y2 Q2 HB; obtain ⟨cb2_0, cb2_1, cb2_2, cb2_3⟩ := cl4 Y2; have zb2 := Y2.2.2; refine pl ?_; refine sto Y2 ?_; clear Y2 cb2_0 cb2_1 cb2_2 cb2_3 zb2; intro _ Y2 hb; clear Q2 Q5; revert Y5 HB; refine uO hb ?_; clear hb; intro Y5 Q5 HB; have Q2 := Y2.1; refine pl ?_; clear Z0 Z6; refine lx [3] ?_; clear Z2; intro _ Z2 Z3; refine ln ?_; intros
 obtain ⟨cb2_0, cb2_1, cb2_2, cb2_3⟩ := cl4 Y2; refine ret_F _ (res_ct Tryz.results48 ((getD_F (by decide)).trans Z2) (load_t27 cb2_0 cb2_1 cb2_2 cb2_3) ((getD_F (by decide)).trans Z3)) ?_; exact ⟨rfl, HB.out.toBelow⟩

theorem tout_any (n a b : Int) (w : World) :
    Calls Tryz.prog 55 #[.int .i64 n, .int .i64 a, .int .i64 b] w (fun e w' => e = .returned (.bool (!inI n a b)) ∧ w = w') := by
 refine enter_F Tryz.func55 rfl Tryz.ntmps55 (by simp) ?_
 intro s0 hs; have Z0 : s0 0 = .int .i64 n := hs 0 (by simp); have Z1 : s0 1 = .int .i64 a := hs 1 (by simp); have Z2 : s0 2 = .int .i64 b := hs 2 (by simp); clear hs; have HB := hid (OldB.refl [] w)
 refine nr ?_; intros; refine pl ?_; refine lx [] ?_; clear Z0 Z1 Z2; intro _ Z0 Z1 Z2; refine lr ?_; intros
 refine P4 ?_
 clear Z1; refine lx [10] ?_; clear Z0 Z2; intro _ Z0 Z2 Z10
 refine boolG Z10 (fun Z10' h10 => ?_) (fun Z10' h10 => ?_) <;> (clear Z10; have Z10 := Z10'; clear Z10')
 ·skip
  refine pn true ?_; refine pn true ?_; refine pn true ?_; refine P2 ?_; clear Z0 Z2 Z10; refine lx [6] ?_; intro _ Z6; refine ln ?_; intros
  refine ret_F _ (res_t Tryz.results55 ((getD_F (by decide)).trans Z6)) ?_; exact ⟨ret_bool (by unfold inI; rw [Bool.eq_iff_iff]; simp at *; try omega), rfl⟩
 ·skip
  iterate 3 refine py ?_
  refine P2 ?_; clear Z0 Z2 Z10; refine lx [6] ?_; intro _ Z6; refine ln ?_; intros
  refine ret_F _ (res_t Tryz.results55 ((getD_F (by decide)).trans Z6)) ?_; exact ⟨ret_bool (by unfold inI; rw [Bool.eq_iff_iff]; simp at *; try omega), rfl⟩


theorem ocheck_v (s : St4) (A : SA) (c1 c2 c3 : Int) (w : World) (hC : chk4 s = (c1, c2, c3)) (hR : RdSt w s A) (hL : LenI s) :
    Calls Tryz.prog 75 #[sV s A] w (fun e w' => e = .returned (.tuple #[.int .i64 c1, .int .i64 c2, .int .i64 c3]) ∧ Below w.heap.size w w') := by
  have := ocheck_any s A w hR hL; rw [hC] at this; exact this

theorem XW18b {A B1 : Prop} (hX1 : B1) (e : B1 → A := by exact ret_F _ (res_t Tryz.results43 ((getD_F (by decide)).trans Z6))) : A := e hX1
theorem XW18c {A : Prop} (e : A := by exact ⟨trv, _, rfl, (by rw [Z30]; have h := h34; simp at h; simp [h]), sh, sh, sh, sh, sh, HL23.out⟩) : A := e
theorem tcheck_any (s : St4) (A : SA) (af : Option Addr) (cf : Nat) (fs : List Flt) (most : Int) (w : World) (hR : RdSt w s A) (hL : LenI s) (hF : RdFl w af fs) (hlf : fs.length ≤ 9223372036854775807) :
    Calls Tryz.prog 43 #[sV s A, .slice af fs.length cf, .int .i64 most] w (fun e w' => e = .returned (.int .i64 (askErr12 s fs most)) ∧ Below w.heap.size w w') := by
 have HR := hid hR; have HF := hid hF; have HL := hid hL; clear hR hF hL; obtain ⟨⟨c1, c2, c3⟩, hC⟩ : ∃ z, chk4 s = z := ⟨_, rfl⟩; have HC := hid hC; clear hC
 refine enter_F Tryz.func43 rfl Tryz.ntmps43 (by simp) ?_
 intro s0 hs; have Z0 : s0 0 = .agg #[.slice A.sa s.store.length A.sc, .slice A.ta s.tape.length A.tc, .int .i64 s.taken, .slice A.pa s.printed.length A.pc, .int .i64 s.time, .int .i64 s.pc, .int .i64 s.done, .int .i64 s.why] := hs 0 (by simp); have Z1 : s0 1 = .slice af fs.length cf := hs 1 (by simp); have Z2 : s0 2 = .int .i64 most := hs 2 (by simp); clear hs; have HB := hid (OldB.refl [] w)
 refine nr ?_; intros; refine pa (fun _ B3 hB Y3 hb => ?_); have gb3 := HB.out.gB hB; have eb3 := eB hB; clear hB; replace HB := bE HB hb; clear hb; have Q3 := Y3.1; refine pl ?_; clear Z0; refine lx [3] ?_; clear Z1 Z2; intro _ Z1 Z2 Z3; refine lr ?_; intros; have cb3 := clx Y3; refine pl ?_; refine cal (ocheck_v s A c1 c2 c3 _ HC.out (HR.out.old HB.out) HL.out) ?_; rintro e w4 ⟨rfl, hb⟩; refine ⟨_, rfl, ?_⟩; clear cb3; clear Q3; revert Y3 HB; refine uA hb ?_; clear hb; intro Y3 Q3 HB
 refine P7 ?_
 clear Z3; refine lx [9] ?_; clear Z1 Z2; intro _ Z1 Z2 Z9; refine lr ?_; intros; refine P2 ?_; refine lx [19] ?_; clear Z1 Z2 Z9; intro _ Z1 Z2 Z9 Z19; refine ln ?_; intros
 refine cond_E Z19 (by decide) ?_ ?_ <;> (clear Z19; intro h19 Z19)
 ·skip
  have Hr := hid (show askErr12 s fs most = c3 by unfold askErr12; rw [HC.out, if_pos (by simpa using h19)])
  refine nr ?_; intros; refine P2 ?_; clear Z1 Z2 Z9 Z19; refine lx [6] ?_; intro _ Z6; refine ln ?_; intros
  refine XW18b ?_; exact ⟨by rw [Hr.out], HB.out.toBelow⟩
 ·skip
  have H19 := hid (show ¬ c3 ≠ 0 by simpa using h19)
  refine nr ?_; intros
  refine P3 ?_
  clear Z9 Z19; refine lx [23] ?_; clear Z1 Z2; intro _ Z1 Z2 Z23; refine ln ?_; intros
  refine cond_E Z23 (by decide) ?_ ?_ <;> (clear Z23; intro h23 Z23)
  ·skip
   have Hr := hid (show askErr12 s fs most = 3 by unfold askErr12; rw [HC.out, if_neg H19.out, if_pos (by have h := h23; simp at h; omega)])
   refine nr ?_; intros; refine pl ?_; clear Z1 Z2 Z23; refine lx [6] ?_; intro _ Z6; refine ln ?_; intros
   refine XW18b ?_; exact ⟨by rw [Hr.out], HB.out.toBelow⟩
  ·skip
   have He0 := hid (show err0 s fs = 0 by unfold err0; rw [HC.out, if_neg H19.out, if_neg (by have h := h23; simp at h; omega)])
   have hf10 : fs.length ≤ 10 := by have h := h23; simp at h; omega
   refine nr ?_; intros
   refine P3 ?_
   clear Z1 Z23; refine lx [24,25,26] ?_; clear Z2; intro s11 Z2 Z24 Z25 Z26; refine ln ?_; intros
   have hc0_2 := hid Z2; have hc0_24 := hid Z24; have hc0_25 := hid Z25; refine loop_F (n := 46) (fun kJ sJ wJ => ∃ (i : Nat), kJ = fs.length - i ∧ sJ 26 = .int .i64 (i : Int) ∧ sJ 2 = s11 2 ∧ sJ 24 = s11 24 ∧ sJ 25 = s11 25 ∧ OldB [] w4 wJ ∧ i ≤ fs.length ∧ Hid (errU s fs i = 0)) ⟨0, rfl, (by first | exact Z26 | (rw [Z26]; go_num) | (rw [Z26]; rfl)), rfl, rfl, rfl, OldB.refl _ _, Nat.zero_le _, hid (by rw [errU_0]; exact He0.out)⟩ ?_; clear Z26; rintro kJ s12 w13 ⟨i, rfl, Z26, e2, e24, e25, hb, hil, HU⟩; rw [← e2] at Z2; clear e2; rw [← e24] at Z24; clear e24; rw [← e25] at Z25; clear e25; have hoJ := hb; clear Q3; revert Y3 HB; refine uO hb ?_; clear hb; intro Y3 Q3 HB; have HoJ := hid hoJ; clear hoJ; have HL15 := HoJ; clear HoJ
   refine nr ?_; intros; refine pl ?_; refine lx [27] ?_; clear Z2 Z24 Z25 Z26; intro _ Z2 Z24 Z25 Z26 Z27; refine ln ?_; intros
   refine cond_E Z27 (by decide) ?_ ?_ <;> (clear Z27; intro h27 Z27)
   ·skip
    have hi : i < fs.length := by simpa using h27
    have hii : (i : Int) < fs.length := by omega
    obtain ⟨b, off, hae, hbs, d0, d1, d2⟩ := RdFl.ne (Rd.oldB HF.out HB.out (by simp)) hi; subst hae; obtain ⟨y, hy⟩ : ∃ y, fs[i] = y := ⟨_, rfl⟩; rw [hy] at d0 d1 d2; have Hn := hid (errU_succ hi hy HU.out); clear hy
    refine nr ?_; intros; refine P2 ?_; refine pa (fun _ B11 hB Y11 hb => ?_); have gb11 := HB.out.gB hB; have lHL15_b11 := HL15.out.gB hB; have ob3_b11 := oB Q3 hB; have eb11 := eB hB; clear hB; clear Q3; revert HB; revert HL15; revert Y3; refine uA hb ?_; clear hb; intro Y3 Q3 HL15 HB; have Q11 := Y11.1; have cb11 := clx Y11; have zb11 := Y11.2.2; refine pl ?_; refine sto Y11 ?_; clear Y11 cb11 zb11; intro w19 Y11 hb; clear Q3 Q11; revert Y3 HL15 HB; refine uO hb ?_; clear hb; intro Y3 Q3 HL15 HB; have Q11 := Y11.1; clear Z27; refine lx [11] ?_; clear Z2 Z24 Z25 Z26; intro s21 Z2 Z24 Z25 Z26 Z11; refine ln ?_; intros
    have hj22_2 := hid Z2; have hj22_11 := hid Z11; have hj22_24 := hid Z24; have hj22_25 := hid Z25; have hj22_26 := hid Z26; refine cut_any (fun sJ wJ => sJ 30 = .bool (!inI y.done 0 1000 || !inI y.mask 1 16777215) ∧ sJ 2 = s21 2 ∧ sJ 11 = s21 11 ∧ sJ 24 = s21 24 ∧ sJ 25 = s21 25 ∧ sJ 26 = s21 26 ∧ OldB [] w19 wJ) ?_ ?_
    ·skip
     have HL23 := hid (OldB.refl [] w19); refine region_F ?_; refine pl ?_; have cb11 := clx Y11; refine pl ?_; refine cal (tout_any y.done 0 1000 _) ?_; rintro e w' ⟨rfl, rfl⟩; refine ⟨_, rfl, ?_⟩; refine pl ?_; refine lx [34] ?_; clear Z2 Z11 Z24 Z25 Z26; intro _ Z2 Z11 Z24 Z25 Z26 Z34
     refine boolG Z34 (fun Z34' h34 => ?_) (fun Z34' h34 => ?_) <;> (clear Z34; have Z34 := Z34'; clear Z34')
     ·skip
      refine pn true ?_; refine pn true ?_; refine pn true ?_; refine P2 ?_; clear Z34; refine lx [30] ?_; clear Z2 Z11 Z24 Z25 Z26; intro _ Z2 Z11 Z24 Z25 Z26 Z30; refine ln ?_; intros
      clear cb11; exact XW18c
     ·skip
      refine py ?_; refine py ?_; refine listF_yes rfl rfl (by decide) ?_ (fun K' hK => ?_); (focus (go_simp; done)); unfold opF; go_simp; refine (tout_any y.mask 1 16777215 _).mono ?_; rintro e w' ⟨rfl, rfl⟩; refine ⟨_, rfl, hK _ _ ?_⟩; clear hK K'; refine P2 ?_; clear Z34; refine lx [30,35,36,37] ?_; clear Z2 Z11 Z24 Z25 Z26; intro _ Z2 Z11 Z24 Z25 Z26 Z30 Z35 Z36 Z37; refine ln ?_; intros
      clear cb11; exact XW18c
    ·skip
     rintro s29 w30 ⟨Z30, e2, e11, e24, e25, e26, hb⟩; rw [← e2] at Z2; clear e2 hj22_2; rw [← e11] at Z11; clear e11 hj22_11; rw [← e24] at Z24; clear e24 hj22_24; rw [← e25] at Z25; clear e25 hj22_25; rw [← e26] at Z26; clear e26 hj22_26; clear Q3 Q11; revert Y11 Y3 HL15 HB; refine uO hb ?_; clear hb; intro Y11 Q11 Y3 Q3 HL15 HB
     refine zx ?_; intros
     refine cond_E Z30 (by decide) ?_ ?_ <;> (clear Z30; intro h30 Z30)
     ·skip
      have e7 : fErr y = 7 := by unfold fErr; rw [if_pos (by simpa using h30)]
      have hs9 := errU_stay (s := s) (fs := fs) (k := fs.length - (i + 1)) (i := i + 1) (by rw [Hn.out, e7]; decide) (by omega); rw [show i + 1 + (fs.length - (i + 1)) = fs.length by omega, Hn.out, e7] at hs9; have Hr := hid (show askErr12 s fs most = 7 by rw [ask_errU, if_pos (by rw [hs9]; decide), hs9]); clear hs9 e7
      refine nr ?_; intros; refine pl ?_; clear Z2 Z11 Z24 Z25 Z26 Z30; refine lx [6] ?_; intro _ Z6; refine ln ?_; intros
      refine XW18b ?_; exact ⟨by rw [Hr.out], HB.out.toBelow⟩
     ·skip
      have H30 := hid (show ¬ (inI y.done 0 1000 = false ∨ inI y.mask 1 16777215 = false) by have h := h30; simp at h; simp [h])
      refine nr ?_; intros; refine pl ?_; have cb11 := clx Y11; refine pl ?_; refine cal (tout_any y.addr 0 127 _) ?_; rintro e w' ⟨rfl, rfl⟩; refine ⟨_, rfl, ?_⟩; refine pl ?_; clear Z11 Z30; refine lx [39] ?_; clear Z2 Z24 Z25 Z26; intro _ Z2 Z24 Z25 Z26 Z39; refine ln ?_; intros
      refine cond_E Z39 (by decide) ?_ ?_ <;> (clear Z39; intro h39 Z39)
      ·skip
       have e4 : fErr y = 4 := by unfold fErr; rw [if_neg H30.out, if_pos (by unfold addrB; simpa using h39)]
       have hs9 := errU_stay (s := s) (fs := fs) (k := fs.length - (i + 1)) (i := i + 1) (by rw [Hn.out, e4]; decide) (by omega); rw [show i + 1 + (fs.length - (i + 1)) = fs.length by omega, Hn.out, e4] at hs9; have Hr := hid (show askErr12 s fs most = 4 by rw [ask_errU, if_pos (by rw [hs9]; decide), hs9]); clear hs9 e4
       refine nr ?_; intros; refine pl ?_; clear Z2 Z24 Z25 Z26 Z39; refine lx [6] ?_; intro _ Z6; refine ln ?_; intros
       refine XW18b ?_; exact ⟨by rw [Hr.out], HB.out.toBelow⟩
      ·skip
       have Hn0 := hid (show errU s fs (i + 1) = 0 by rw [Hn.out]; unfold fErr; rw [if_neg H30.out, if_neg (by unfold addrB; simpa using h39)])
       refine nr ?_; intros; refine P2 ?_; clear Z26 Z39; refine lx [26] ?_; clear Z2 Z24 Z25; intro _ Z2 Z24 Z25 Z26; refine ln ?_; intros
       clear cb11; refine ⟨_, _, rfl, ?_, i + 1, rfl, (rL Z26), sh, sh, sh, HL15.out, by omega, hid Hn0.out⟩
       omega
   ·skip
    have hi : i = fs.length := by have h := h27; simp at h; omega
    have HUf := hid (show errU s fs fs.length = 0 by have h := HU.out; rw [hi] at h; exact h)
    refine zx ?_; intros
    clear HL15; clear hc0_2 hc0_24 hc0_25; refine region_F ?_; refine pl ?_; refine cal (tout_any most 0 1000 _) ?_; rintro e w' ⟨rfl, rfl⟩; refine ⟨_, rfl, ?_⟩; clear Z2 Z24 Z25 Z26 Z27; refine lx [45] ?_; intro _ Z45; refine ln ?_; intros
    refine cond_E Z45 (by decide) ?_ ?_ <;> (clear Z45; intro h45 Z45)
    ·skip
     have Hr := hid (show askErr12 s fs most = 7 by rw [ask_errU, if_neg (by rw [HUf.out]; decide), if_pos (by simpa using h45)])
     refine nr ?_; intros; refine pl ?_; clear Z45; refine lx [6] ?_; intro _ Z6; refine ln ?_; intros
     refine XW18b ?_; exact ⟨by rw [Hr.out], HB.out.toBelow⟩
    ·skip
     have Hr := hid (show askErr12 s fs most = 0 by rw [ask_errU, if_neg (by rw [HUf.out]; decide), if_neg (by simpa using h45)])
     refine nr ?_; intros; refine pl ?_; clear Z45; refine lx [6] ?_; intro _ Z6; refine ln ?_; intros
     refine XW18b ?_; exact ⟨by rw [Hr.out], HB.out.toBelow⟩

theorem XW18d {A B1 : Prop} (hX1 : B1) (e : B1 → A := by exact ret_F _ (res_t Tryz.results81 ((getD_F (by decide)).trans Z4))) : A := e hX1
theorem eqInts_any (al : Option Addr) (cl : Nat) (l : List Int) (am : Option Addr) (cm : Nat) (m : List Int) (w : World) (hRl : RdInts w al l) (hRm : RdInts w am m) (hll : l.length ≤ 9223372036854775807) (hlm : m.length ≤ 9223372036854775807) :
    Calls Tryz.prog 81 #[.slice al l.length cl, .slice am m.length cm] w (fun e w' => e = .returned (.bool (decide (l = m))) ∧ Below w.heap.size w w') := by
 have HRl := hid hRl; have HRm := hid hRm; clear hRl hRm
 refine enter_F Tryz.func81 rfl Tryz.ntmps81 (by simp) ?_
 intro s0 hs; have Z0 : s0 0 = .slice al l.length cl := hs 0 (by simp); have Z1 : s0 1 = .slice am m.length cm := hs 1 (by simp); clear hs; have HB := hid (OldB.refl [] w)
 refine nr ?_; intros; refine pl ?_; refine lx [] ?_; clear Z0 Z1; intro _ Z0 Z1; refine lr ?_; intros
 refine P5 ?_
 refine lx [10] ?_; clear Z0 Z1; intro _ Z0 Z1 Z10; refine ln ?_; intros
 refine cond_E Z10 (by decide) ?_ ?_ <;> (clear Z10; intro h10 Z10)
 ·skip
  have Hf := hid (show decide (l = m) = false from decide_eq_false (fun e => by have h := h10; rw [e] at h; simp at h))
  refine nr ?_; intros; refine pl ?_; clear Z0 Z1 Z10; refine lx [4] ?_; intro _ Z4; refine ln ?_; intros
  refine XW18d ?_; exact ⟨ret_bool Hf.out.symm, HB.out.toBelow⟩
 ·skip
  have hlen : (l.length : Int) = m.length := by have h := h10; simp at h; omega
  have Hlen := hid (show l.length = m.length by omega); clear hlen
  refine nr ?_; intros
  refine P3 ?_
  clear Z10; refine lx [12,13] ?_; clear Z0 Z1; intro s4 Z0 Z1 Z12 Z13; refine ln ?_; intros
  have hc0_0 := hid Z0; have hc0_1 := hid Z1; have hc0_12 := hid Z12; refine loop_F (n := 26) (fun kJ sJ wJ => ∃ (i : Nat), kJ = l.length - i ∧ sJ 13 = .int .i64 (i : Int) ∧ sJ 0 = s4 0 ∧ sJ 1 = s4 1 ∧ sJ 12 = s4 12 ∧ OldB [] w wJ ∧ i ≤ l.length ∧ Hid (l.take i = m.take i)) ⟨0, rfl, (by first | exact Z13 | (rw [Z13]; go_num) | (rw [Z13]; rfl)), rfl, rfl, rfl, OldB.refl _ _, Nat.zero_le _, hid rfl⟩ ?_; clear Z13; rintro kJ s5 w6 ⟨i, rfl, Z13, e0, e1, e12, hb, hil, Htk⟩; rw [← e0] at Z0; clear e0; rw [← e1] at Z1; clear e1; rw [← e12] at Z12; clear e12; have hoJ := hb; replace HB := mO HB hb; clear hb; have HoJ := hid hoJ; clear hoJ; have HL8 := HoJ; clear HoJ
  refine nr ?_; intros; refine pl ?_; refine lx [14] ?_; clear Z0 Z1 Z12 Z13; intro _ Z0 Z1 Z12 Z13 Z14; refine ln ?_; intros
  refine cond_E Z14 (by decide) ?_ ?_ <;> (clear Z14; intro h14 Z14)
  ·skip
   have hi : i < l.length := by simpa using h14
   have hii : (i : Int) < l.length := by omega
   have hi2 : i < m.length := by have := Hlen.out; omega
   have hii2 : (i : Int) < m.length := by omega
   obtain ⟨bl, ol, hal, hbl, c0⟩ := RdInts.ne (Rd.oldB HRl.out HB.out (by simp)) hi; subst hal; obtain ⟨bm, om, ham, hbm, d0⟩ := RdInts.ne (Rd.oldB HRm.out HB.out (by simp)) hi2; subst ham; obtain ⟨y, hy⟩ : ∃ z, l[i] = z := ⟨_, rfl⟩; obtain ⟨z, hz⟩ : ∃ z, m[i] = z := ⟨_, rfl⟩; rw [hy] at c0; rw [hz] at d0; have Hy := hid hy; have Hz := hid hz; clear hy hz
   refine nr ?_; intros; refine P2 ?_; clear Z14; refine lx [5] ?_; clear Z0 Z1 Z12 Z13; intro _ Z0 Z1 Z12 Z13 Z5; refine ln ?_; intros
   refine rgQ 8 [?_,?_,?_,?_,?_,?_,?_,?_] ?walk16 ?dep16
   case walk16 =>
    iterate 8 refine rq ?_
    refine walkR_nil (fun X hX w11 hwz hcz => ?_); clear hX hcz
    (try clear X)
    skip; have hb := hwz.unDrew; clear hwz; revert HB; revert HL8; refine zO hb ?_; clear hb; intro HL8 HB; refine pl ?_; clear Z5; refine lx [24] ?_; clear Z0 Z1 Z12 Z13; intro _ Z0 Z1 Z12 Z13 Z24; refine ln ?_; intros
    refine cond_E Z24 (by decide) ?_ ?_ <;> (clear Z24; intro h24 Z24)
    ·skip
     have Hf := hid (show decide (l = m) = false from decide_eq_false (fun e => by subst e; have h := h24; rw [← Hy.out, ← Hz.out] at h; simp at h))
     refine nr ?_; intros; refine pl ?_; clear Z0 Z1 Z12 Z13 Z24; refine lx [4] ?_; intro _ Z4; refine ln ?_; intros
     refine XW18d ?_; exact ⟨ret_bool Hf.out.symm, HB.out.toBelow⟩
    ·skip
     have hyz : y = z := by have h := h24; simp at h; exact h
     refine nr ?_; intros; refine P2 ?_; clear Z13 Z24; refine lx [13] ?_; clear Z0 Z1 Z12; intro _ Z0 Z1 Z12 Z13; refine ln ?_; intros
     refine ⟨_, _, rfl, ?_, i + 1, rfl, (rL Z13), sh, sh, sh, HL8.out, by omega, hid (take_more hi hi2 Htk.out (by rw [Hy.out, Hz.out, hyz]))⟩
     omega
   case dep16 => exact dA
  ·skip
   have hi : i = l.length := by have h := h14; simp at h; omega
   have Hf := hid (show decide (l = m) = true from decide_eq_true (by have h1 := Htk.out; rw [hi, List.take_length, Hlen.out, List.take_length] at h1; exact h1))
   refine zx ?_; intros
   clear HL8; clear hc0_0 hc0_1 hc0_12; refine region_F ?_; refine pl ?_; clear Z0 Z1 Z12 Z13 Z14; refine lx [4] ?_; intro _ Z4; refine ln ?_; intros
   refine XW18d ?_; exact ⟨ret_bool Hf.out.symm, HB.out.toBelow⟩

theorem XW18e {A : Prop} (e : A := by exact ⟨trv, _, rfl, (by rw [Z4]; congr 1; rw [Bool.eq_iff_iff, decide_eq_true_eq, st_eq]; simp [g10, g17, g24, g31, g38, g45, g52]), HL7.out⟩) : A := e
theorem tequal_any (s : St4) (A : SA) (t : St4) (B : SA) (w : World) (hR : RdSt w s A) (hQ : RdSt w t B) (hL : LenI s) (hM : LenI t) :
    Calls Tryz.prog 47 #[sV s A, sV t B] w (fun e w' => e = .returned (.bool (decide (s = t))) ∧ Below w.heap.size w w') := by
 have HR := hid hR; have HQ := hid hQ; clear hR hQ; obtain ⟨l0, l1, l2⟩ := hL; obtain ⟨m0, m1, m2⟩ := hM
 refine enter_F Tryz.func47 rfl Tryz.ntmps47 (by simp) ?_
 intro s0 hs; have Z0 : s0 0 = .agg #[.slice A.sa s.store.length A.sc, .slice A.ta s.tape.length A.tc, .int .i64 s.taken, .slice A.pa s.printed.length A.pc, .int .i64 s.time, .int .i64 s.pc, .int .i64 s.done, .int .i64 s.why] := hs 0 (by simp); have Z1 : s0 1 = .agg #[.slice B.sa t.store.length B.sc, .slice B.ta t.tape.length B.tc, .int .i64 t.taken, .slice B.pa t.printed.length B.pc, .int .i64 t.time, .int .i64 t.pc, .int .i64 t.done, .int .i64 t.why] := hs 1 (by simp); clear hs; have HB := hid (OldB.refl [] w)
 refine nr ?_; intros; refine pa (fun _ B2 hB Y2 hb => ?_); have gb2 := HB.out.gB hB; have eb2 := eB hB; clear hB; replace HB := bE HB hb; clear hb; have Q2 := Y2.1; refine pa (fun w3 B3 hB Y3 hb => ?_); have gb3 := HB.out.gB hB; have ob2_b3 := oB Q2 hB; have eb3 := eB hB; clear hB; clear Q2; revert Y2 HB; refine uA hb ?_; clear hb; intro Y2 Q2 HB; have Q3 := Y3.1; refine pl ?_; clear Z0 Z1; refine lx [2,3] ?_; intro _ Z2 Z3; refine ln ?_; intros
 refine cut_any (fun sJ wJ => sJ 4 = .bool (decide (s = t)) ∧ OldB [] w3 wJ) ?_ ?_
 ·skip
  have HL7 := hid (OldB.refl [] w3); refine region_F ?_; refine pl ?_; have cb2 := clx Y2; refine P2 ?_; have cb3 := clx Y3; refine pl ?_; refine cal (eqInts_any A.sa A.sc s.store B.sa B.sc t.store _ (Rd.oldB HR.out.st HB.out (by simp)) (Rd.oldB HQ.out.st HB.out (by simp)) l0 m0) ?_; rintro e _ ⟨rfl, hb⟩; refine ⟨_, rfl, ?_⟩; clear cb2 cb3
  clear Q2 Q3; revert Y3 Y2 HB HL7; refine uA hb ?_; clear hb; intro Y3 Q3 Y2 Q2 HB HL7; refine pl ?_; refine lx [10] ?_; clear Z2 Z3; intro _ Z2 Z3 Z10
  refine boolG Z10 (fun Z10' h10 => ?_) (fun Z10' h10 => ?_) <;> (clear Z10; have Z10 := Z10'; clear Z10')
  ·skip
   have g10 : s.store = t.store := by simpa using h10
   refine py ?_; have cb2 := clx Y2; refine py ?_; refine py ?_; have cb3 := clx Y3; refine py ?_; refine listF_yes rfl rfl (by decide) ?_ (fun K' hK => ?_); (focus (go_simp; done)); unfold opF; go_simp; refine (eqInts_any A.ta A.tc s.tape B.ta B.tc t.tape _ (Rd.oldB HR.out.tp HB.out (by simp)) (Rd.oldB HQ.out.tp HB.out (by simp)) l1 m1).mono ?_; rintro e _ ⟨rfl, hb⟩; refine ⟨_, rfl, hK _ _ ?_⟩; clear hK K'; clear cb2 cb3
   clear Q2 Q3; revert Y3 Y2 HB HL7; refine uA hb ?_; clear hb; intro Y3 Q3 Y2 Q2 HB HL7; refine P2 ?_; clear Z10; refine lx [17] ?_; clear Z2 Z3; intro _ Z2 Z3 Z17
   refine boolG Z17 (fun Z17' h17 => ?_) (fun Z17' h17 => ?_) <;> (clear Z17; have Z17 := Z17'; clear Z17')
   ·skip
    have g17 : s.tape = t.tape := by simpa using h17
    refine py ?_; have cb2 := clx Y2; refine py ?_; refine py ?_; have cb3 := clx Y3; refine py ?_; refine listF_yes rfl rfl (by decide) ?_ (fun K' hK => ?_); (focus (go_simp; done)); unfold opF; go_simp; refine (eqInts_any A.pa A.pc s.printed B.pa B.pc t.printed _ (Rd.oldB HR.out.pr HB.out (by simp)) (Rd.oldB HQ.out.pr HB.out (by simp)) l2 m2).mono ?_; rintro e _ ⟨rfl, hb⟩; refine ⟨_, rfl, hK _ _ ?_⟩; clear hK K'; clear cb2 cb3
    clear Q2 Q3; revert Y3 Y2 HB HL7; refine uA hb ?_; clear hb; intro Y3 Q3 Y2 Q2 HB HL7; refine P2 ?_; clear Z17; refine lx [24] ?_; clear Z2 Z3; intro _ Z2 Z3 Z24
    refine boolG Z24 (fun Z24' h24 => ?_) (fun Z24' h24 => ?_) <;> (clear Z24; have Z24 := Z24'; clear Z24')
    ·skip
     have g24 : s.printed = t.printed := by simpa using h24
     refine py ?_; have cb2 := clx Y2; refine py ?_; refine py ?_; have cb3 := clx Y3; refine py ?_; refine py ?_; refine P2 ?_; clear Z24; refine lx [31] ?_; clear Z2 Z3; intro _ Z2 Z3 Z31
     refine boolG Z31 (fun Z31' h31 => ?_) (fun Z31' h31 => ?_) <;> (clear Z31; have Z31 := Z31'; clear Z31')
     ·skip
      have g31 : s.taken = t.taken := by simpa using h31
      iterate 5 refine py ?_
      refine P2 ?_; clear Z31; refine lx [38] ?_; clear Z2 Z3; intro _ Z2 Z3 Z38
      refine boolG Z38 (fun Z38' h38 => ?_) (fun Z38' h38 => ?_) <;> (clear Z38; have Z38 := Z38'; clear Z38')
      ·skip
       have g38 : s.time = t.time := by simpa using h38
       iterate 5 refine py ?_
       refine P2 ?_; clear Z38; refine lx [45] ?_; clear Z2 Z3; intro _ Z2 Z3 Z45
       refine boolG Z45 (fun Z45' h45 => ?_) (fun Z45' h45 => ?_) <;> (clear Z45; have Z45 := Z45'; clear Z45')
       ·skip
        have g45 : s.pc = t.pc := by simpa using h45
        iterate 5 refine py ?_
        refine P2 ?_; clear Z45; refine lx [52] ?_; clear Z2 Z3; intro _ Z2 Z3 Z52
        refine boolG Z52 (fun Z52' h52 => ?_) (fun Z52' h52 => ?_) <;> (clear Z52; have Z52 := Z52'; clear Z52')
        ·skip
         have g52 : s.done = t.done := by simpa using h52
         iterate 5 refine py ?_
         refine P2 ?_; clear Z2 Z3 Z52; refine lx [4] ?_; intro _ Z4; refine ln ?_; intros
         clear cb2 cb3; exact XW18e
        ·skip
         have g52 : ¬ (s.done = t.done) := by simpa using h52
         refine F5 ?_; refine P2 ?_; clear Z2 Z3 Z52; refine lx [4] ?_; intro _ Z4; refine ln ?_; intros
         clear cb2 cb3; exact XW18e
       ·skip
        have g45 : ¬ (s.pc = t.pc) := by simpa using h45
        refine F5 ?_; refine P2 ?_
        refine F5 ?_; refine P2 ?_; clear Z2 Z3 Z45; refine lx [4] ?_; intro _ Z4; refine ln ?_; intros
        clear cb2 cb3; exact ⟨trv, _, rfl, (by rw [Z4]; congr 1; rw [Bool.eq_iff_iff, decide_eq_true_eq, st_eq]; simp [g10, g17, g24, g31, g38, g45]), HL7.out⟩
      ·skip
       have g38 : ¬ (s.time = t.time) := by simpa using h38
       refine F5 ?_; refine P2 ?_
       refine F5 ?_; refine P2 ?_
       refine F5 ?_; refine P2 ?_; clear Z2 Z3 Z38; refine lx [4] ?_; intro _ Z4; refine ln ?_; intros
       clear cb2 cb3; exact ⟨trv, _, rfl, (by rw [Z4]; congr 1; rw [Bool.eq_iff_iff, decide_eq_true_eq, st_eq]; simp [g10, g17, g24, g31, g38]), HL7.out⟩
     ·skip
      have g31 : ¬ (s.taken = t.taken) := by simpa using h31
      refine F5 ?_; refine P2 ?_
      refine F5 ?_; refine P2 ?_
      refine F5 ?_; refine P2 ?_
      refine F5 ?_; refine P2 ?_; clear Z2 Z3 Z31; refine lx [4] ?_; intro _ Z4; refine ln ?_; intros
      clear cb2 cb3; exact ⟨trv, _, rfl, (by rw [Z4]; congr 1; rw [Bool.eq_iff_iff, decide_eq_true_eq, st_eq]; simp [g10, g17, g24, g31]), HL7.out⟩
    ·skip
     have g24 : ¬ (s.printed = t.printed) := by simpa using h24
     refine F5 ?_; refine P2 ?_
     refine F5 ?_; refine P2 ?_
     refine F5 ?_; refine P2 ?_
     refine F5 ?_; refine P2 ?_
     refine F5 ?_; refine P2 ?_; clear Z2 Z3 Z24; refine lx [4] ?_; intro _ Z4; refine ln ?_; intros
     exact ⟨trv, _, rfl, (by rw [Z4]; congr 1; rw [Bool.eq_iff_iff, decide_eq_true_eq, st_eq]; simp [g10, g17, g24]), HL7.out⟩
   ·skip
    have g17 : ¬ (s.tape = t.tape) := by simpa using h17
    refine F5 ?_; refine P2 ?_
    refine F5 ?_; refine P2 ?_
    refine F5 ?_; refine P2 ?_
    refine F5 ?_; refine P2 ?_
    refine F5 ?_; refine P2 ?_
    refine F5 ?_; refine P2 ?_; clear Z2 Z3 Z17; refine lx [4] ?_; intro _ Z4; refine ln ?_; intros
    exact ⟨trv, _, rfl, (by rw [Z4]; congr 1; rw [Bool.eq_iff_iff, decide_eq_true_eq, st_eq]; simp [g10, g17]), HL7.out⟩
  ·skip
   have g10 : ¬ (s.store = t.store) := by simpa using h10
   refine F5 ?_; refine P2 ?_
   refine F5 ?_; refine P2 ?_
   refine F5 ?_; refine P2 ?_
   refine F5 ?_; refine P2 ?_
   refine F5 ?_; refine P2 ?_
   refine F5 ?_; refine P2 ?_
   refine F5 ?_; refine P2 ?_; clear Z2 Z3 Z10; refine lx [4] ?_; intro _ Z4; refine ln ?_; intros
   exact ⟨trv, _, rfl, (by rw [Z4]; congr 1; rw [Bool.eq_iff_iff, decide_eq_true_eq, st_eq]; simp [g10]), HL7.out⟩
 ·skip
  clear Z2 Z3; rintro s29 w30 ⟨Z4, hb⟩; clear Q2 Q3; revert Y3 Y2 HB; refine uO hb ?_; clear hb; intro Y3 Q3 Y2 Q2 HB
  refine zx ?_; intros
  refine ret_F _ (res_t Tryz.results47 ((getD_F (by decide)).trans Z4)) ?_; exact ⟨rfl, HB.out.toBelow⟩

end Go.Proofs.YtleknidlgmmgbaaGreat
