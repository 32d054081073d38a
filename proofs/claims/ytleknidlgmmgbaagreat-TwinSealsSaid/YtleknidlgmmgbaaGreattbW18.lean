/- The program: Decode, check, equal. -/
import Derived.Test.YtleknidlgmmgbaaGreattbW17
import Derived.Test.YtleknidlgmmgbaaGreattbCX
set_option linter.all false
namespace Go.Proofs.YtleknidlgmmgbaaGreat

open Go.RowKit

set_option maxRecDepth 100000 in
set_option maxHeartbeats 1000000 in
theorem oDecode_ok (x : Int) (w : World) (hx : 0 ≤ x ∧ x ≤ 16777215) :
    Calls Tryz.prog 48 #[.int .i64 x] w (fun e w' => e = .returned (.tuple #[.agg #[.int .i64 (decodeO x).op, .int .i64 (decodeO x).fr, .int .i64 (decodeO x).tt, .int .i64 (decodeO x).nx], .int .i64 0]) ∧ Below w.heap.size w w') := by
 refine enter_F Tryz.func48 rfl Tryz.ntmps48 (by simp) ?_
 intro s0 hs; have sl0 : s0 0 = .int .i64 x := hs 0 (by simp); clear hs; have HB := hid (OldB.refl [] w)
 repeat ((fail_if_success refine stp ?_); go_step)
 refine region_F ?_; refine pa (fun w1 B2 hB kb2' hb2 => ?_); have gb2 := HB.out.gB hB; have eb2 := eB hB; clear hB; replace HB := bE HB hb2; clear hb2; have kb2 := kb2'; clear kb2'; have qb2 := kb2.1; refine pl ?_; refine lsa fun s3 z' => ?_; replace sl0 := slg z' sl0; have sl2 := gu 2 z'; clear z'; refine lsn ?_
 repeat ((fail_if_success refine stp ?_); go_step)
 refine region_F ?_; refine pl ?_; refine pas (fun w4 B5 hB kb5' hb5 => ?_); have gb5 := HB.out.gB hB; have ob2_b5 := oB qb2 hB; have eb5 := eB hB; clear hB; clear qb2; replace kb2 := kb2.at hb5; replace HB := bE HB hb5; clear hb5; have qb2 := kb2.1; have kb5 := kb5'; clear kb5'; have qb5 := kb5.1; refine cal (oout_1 16777215 x B5 1 _ kb5) ?_; rintro e w6 ⟨rfl, hb7⟩; rw [show (!inI x 0 16777215) = false by rw [(inI_iff _ _ _).2 hx]; rfl]; refine ⟨_, rfl, ?_⟩; clear qb2 qb5; replace kb2 := kb2.at hb7; replace kb5 := kb5.at hb7; replace HB := bE HB hb7; clear hb7; have qb2 := kb2.1; have qb5 := kb5.1; refine lsa fun s8 z' => ?_; replace sl0 := slg z' sl0; replace sl2 := slg z' sl2; have sl6 := gu 6 z'; clear z'; refine lsn ?_
 repeat ((fail_if_success refine stp ?_); go_step)
 refine cond_f ?_
 repeat ((fail_if_success refine stp ?_); go_step)
 refine region_F ?_; refine pl ?_; refine cal (odecode_any x _ hx) ?_; rintro e w9 ⟨rfl, hb10⟩; refine ⟨_, rfl, ?_⟩; clear qb2 qb5; replace kb2 := kb2.at hb10; replace kb5 := kb5.at hb10; replace HB := bE HB hb10; clear hb10; have qb2 := kb2.1; have qb5 := kb5.1; obtain ⟨cb2_0, cb2_1, cb2_2, cb2_3⟩ := cl4 kb2; have zb2 := kb2.2.2; refine pl ?_; refine listF_absw (fun w11 hw' => ?_); have kb2' := cells_of hw' (Cells.set (i := 3) (Cells.set (i := 2) (Cells.set (i := 1) (Cells.set (i := 0) (kb2)))))
 (try simp only [stC, mC, List.set_cons_zero, List.set_cons_succ] at kb2')
 have hb12 : OldB [B2] w9 w11 := oldset hw'; clear hw'; clear cb2_0 cb2_1 cb2_2 cb2_3 zb2; clear qb2 qb5; replace kb2 := kb2'; replace kb5 := kb5.oB hb12; replace HB := mO HB hb12; clear hb12; have qb2 := kb2.1; have qb5 := kb5.1; clear kb2'; refine pl ?_; refine lsa fun s13 z' => ?_; replace sl2 := slg z' sl2; have sl3 := gu 3 z'; clear z' sl0 sl6; refine lsn ?_
 repeat ((fail_if_success refine stp ?_); go_step)
 obtain ⟨cb2_0, cb2_1, cb2_2, cb2_3⟩ := cl4 kb2; refine ret_F _ (res_ct Tryz.results48 ((getD_F (by decide)).trans sl2) (load_t27 cb2_0 cb2_1 cb2_2 cb2_3) ((getD_F (by decide)).trans sl3)) ?_; exact ⟨rfl, HB.out.toBelow⟩

set_option maxRecDepth 100000 in
set_option maxHeartbeats 1000000 in
theorem tout_any (n a b : Int) (w : World) :
    Calls Tryz.prog 55 #[.int .i64 n, .int .i64 a, .int .i64 b] w (fun e w' => e = .returned (.bool (!inI n a b)) ∧ w = w') := by
 refine enter_F Tryz.func55 rfl Tryz.ntmps55 (by simp) ?_
 intro s0 hs; have sl0 : s0 0 = .int .i64 n := hs 0 (by simp); have sl1 : s0 1 = .int .i64 a := hs 1 (by simp); have sl2 : s0 2 = .int .i64 b := hs 2 (by simp); clear hs; have HB := hid (OldB.refl [] w)
 repeat ((fail_if_success refine stp ?_); go_step)
 refine region_F ?_; refine pl ?_; refine lsa fun s1 z' => ?_; replace sl0 := slg z' sl0; replace sl1 := slg z' sl1; replace sl2 := slg z' sl2; clear z'; refine lsn ?_
 repeat ((fail_if_success refine stp ?_); go_step)
 refine region_F ?_
 iterate 4 refine pl ?_
 refine lsa fun s2 z' => ?_; replace sl0 := slg z' sl0; replace sl2 := slg z' sl2; have sl10 := gu 10 z'; clear z' sl1
 refine boolG sl10 (fun sl10' h10 => ?_) (fun sl10' h10 => ?_) <;> (clear sl10; have sl10 := sl10'; clear sl10')
 ·skip
  refine pn true ?_; refine pn true ?_; refine pn true ?_; refine pl ?_; refine pl ?_; refine lsa fun s3 z' => ?_; have sl6 := gu 6 z'; clear z' sl0 sl2 sl10; refine lsn ?_
  repeat ((fail_if_success refine stp ?_); go_step)
  refine ret_F _ (res_t Tryz.results55 ((getD_F (by decide)).trans sl6)) ?_; exact ⟨ret_bool (by unfold inI; rw [Bool.eq_iff_iff]; simp at *; try omega), rfl⟩
 ·skip
  iterate 3 refine py ?_
  refine pl ?_; refine pl ?_; refine lsa fun s4 z' => ?_; have sl6 := gu 6 z'; clear z' sl0 sl2 sl10; refine lsn ?_
  repeat ((fail_if_success refine stp ?_); go_step)
  refine ret_F _ (res_t Tryz.results55 ((getD_F (by decide)).trans sl6)) ?_; exact ⟨ret_bool (by unfold inI; rw [Bool.eq_iff_iff]; simp at *; try omega), rfl⟩


theorem ocheck_v (s : St4) (A : SA) (c1 c2 c3 : Int) (w : World) (hC : chk4 s = (c1, c2, c3)) (hR : RdSt w s A) (hL : LenI s) :
    Calls Tryz.prog 75 #[.agg #[.slice A.sa s.store.length A.sc, .slice A.ta s.tape.length A.tc, .int .i64 s.taken, .slice A.pa s.printed.length A.pc, .int .i64 s.time, .int .i64 s.pc, .int .i64 s.done, .int .i64 s.why]] w (fun e w' => e = .returned (.tuple #[.int .i64 c1, .int .i64 c2, .int .i64 c3]) ∧ Below w.heap.size w w') := by
  have := ocheck_any s A w hR hL; rw [hC] at this; exact this

set_option maxRecDepth 100000 in
set_option maxHeartbeats 8000000 in
theorem tcheck_any (s : St4) (A : SA) (af : Option Addr) (cf : Nat) (fs : List Flt) (most : Int) (w : World) (hR : RdSt w s A) (hL : LenI s) (hF : RdFl w af fs) (hlf : fs.length ≤ 9223372036854775807) :
    Calls Tryz.prog 43 #[.agg #[.slice A.sa s.store.length A.sc, .slice A.ta s.tape.length A.tc, .int .i64 s.taken, .slice A.pa s.printed.length A.pc, .int .i64 s.time, .int .i64 s.pc, .int .i64 s.done, .int .i64 s.why], .slice af fs.length cf, .int .i64 most] w (fun e w' => e = .returned (.int .i64 (askErr12 s fs most)) ∧ Below w.heap.size w w') := by
 have HR := hid hR; have HF := hid hF; have HL := hid hL; clear hR hF hL; obtain ⟨⟨c1, c2, c3⟩, hC⟩ : ∃ z, chk4 s = z := ⟨_, rfl⟩; have HC := hid hC; clear hC
 refine enter_F Tryz.func43 rfl Tryz.ntmps43 (by simp) ?_
 intro s0 hs; have sl0 : s0 0 = .agg #[.slice A.sa s.store.length A.sc, .slice A.ta s.tape.length A.tc, .int .i64 s.taken, .slice A.pa s.printed.length A.pc, .int .i64 s.time, .int .i64 s.pc, .int .i64 s.done, .int .i64 s.why] := hs 0 (by simp); have sl1 : s0 1 = .slice af fs.length cf := hs 1 (by simp); have sl2 : s0 2 = .int .i64 most := hs 2 (by simp); clear hs; have HB := hid (OldB.refl [] w)
 repeat ((fail_if_success refine stp ?_); go_step)
 refine region_F ?_; refine pa (fun w1 B3 hB kb3' hb2 => ?_); have gb3 := HB.out.gB hB; have eb3 := eB hB; clear hB; replace HB := bE HB hb2; clear hb2; have kb3 := kb3'; clear kb3'; have qb3 := kb3.1; refine pl ?_; refine lsa fun s3 z' => ?_; replace sl1 := slg z' sl1; replace sl2 := slg z' sl2; have sl3 := gu 3 z'; clear z' sl0; refine lsn ?_
 repeat ((fail_if_success refine stp ?_); go_step)
 refine region_F ?_; obtain ⟨cb3_0, cb3_1, cb3_2, cb3_3, cb3_4, cb3_5, cb3_6, cb3_7⟩ := cl8 kb3; refine pl ?_; refine cal (ocheck_v s A c1 c2 c3 _ HC.out (HR.out.old HB.out) HL.out) ?_; rintro e w4 ⟨rfl, hb5⟩; refine ⟨_, rfl, ?_⟩; clear cb3_0 cb3_1 cb3_2 cb3_3 cb3_4 cb3_5 cb3_6 cb3_7; clear qb3; replace kb3 := kb3.at hb5; replace HB := bE HB hb5; clear hb5; have qb3 := kb3.1
 iterate 7 refine pl ?_
 refine lsa fun s6 z' => ?_; replace sl1 := slg z' sl1; replace sl2 := slg z' sl2; have sl9 := gu 9 z'; clear z' sl3; refine lsn ?_
 repeat ((fail_if_success refine stp ?_); go_step)
 refine region_F ?_; refine pl ?_; refine pl ?_; refine lsa fun s7 z' => ?_; replace sl1 := slg z' sl1; replace sl2 := slg z' sl2; replace sl9 := slg z' sl9; have sl19 := gu 19 z'; clear z'; refine lsn ?_
 repeat ((fail_if_success refine stp ?_); go_step)
 refine cond_E sl19 (by decide) ?_ ?_ <;> (clear sl19; intro h19 sl19)
 ·skip
  have Hr := hid (show askErr12 s fs most = c3 by unfold askErr12; rw [HC.out, if_pos (by simpa using h19)])
  repeat ((fail_if_success refine stp ?_); go_step)
  refine region_F ?_; refine pl ?_; refine pl ?_; refine lsa fun s8 z' => ?_; have sl6 := gu 6 z'; clear z' sl1 sl2 sl9 sl19; refine lsn ?_
  repeat ((fail_if_success refine stp ?_); go_step)
  refine ret_F _ (res_t Tryz.results43 ((getD_F (by decide)).trans sl6)) ?_; exact ⟨by rw [Hr.out], HB.out.toBelow⟩
 ·skip
  have H19 := hid (show ¬ c3 ≠ 0 by simpa using h19)
  repeat ((fail_if_success refine stp ?_); go_step)
  refine region_F ?_
  iterate 3 refine pl ?_
  refine lsa fun s9 z' => ?_; replace sl1 := slg z' sl1; replace sl2 := slg z' sl2; have sl23 := gu 23 z'; clear z' sl9 sl19; refine lsn ?_
  repeat ((fail_if_success refine stp ?_); go_step)
  refine cond_E sl23 (by decide) ?_ ?_ <;> (clear sl23; intro h23 sl23)
  ·skip
   have Hr := hid (show askErr12 s fs most = 3 by unfold askErr12; rw [HC.out, if_neg H19.out, if_pos (by have h := h23; simp at h; omega)])
   repeat ((fail_if_success refine stp ?_); go_step)
   refine region_F ?_; refine pl ?_; refine lsa fun s10 z' => ?_; have sl6 := gu 6 z'; clear z' sl1 sl2 sl23; refine lsn ?_
   repeat ((fail_if_success refine stp ?_); go_step)
   refine ret_F _ (res_t Tryz.results43 ((getD_F (by decide)).trans sl6)) ?_; exact ⟨by rw [Hr.out], HB.out.toBelow⟩
  ·skip
   have He0 := hid (show err0 s fs = 0 by unfold err0; rw [HC.out, if_neg H19.out, if_neg (by have h := h23; simp at h; omega)])
   have hf10 : fs.length ≤ 10 := by have h := h23; simp at h; omega
   repeat ((fail_if_success refine stp ?_); go_step)
   refine region_F ?_
   iterate 3 refine pl ?_
   refine lsa fun s11 z' => ?_; replace sl2 := slg z' sl2; have sl24 := gu 24 z'; have sl25 := gu 25 z'; have sl26 := gu 26 z'; clear z' sl1 sl23; refine lsn ?_
   repeat ((fail_if_success refine stp ?_); go_step)
   have hc0_2 := hid sl2; have hc0_24 := hid sl24; have hc0_25 := hid sl25; refine loop_F (n := 46) (fun kJ sJ wJ => ∃ (i : Nat), kJ = fs.length - i ∧ sJ 26 = .int .i64 (i : Int) ∧ sJ 2 = s11 2 ∧ sJ 24 = s11 24 ∧ sJ 25 = s11 25 ∧ OldB [] w4 wJ ∧ i ≤ fs.length ∧ Hid (errU s fs i = 0)) ⟨0, rfl, (by first | exact sl26 | (rw [sl26]; go_num) | (rw [sl26]; rfl)), rfl, rfl, rfl, OldB.refl _ _, Nat.zero_le _, hid (by rw [errU_0]; exact He0.out)⟩ ?_; clear sl26; rintro kJ s12 w13 ⟨i, rfl, sl26, e2, e24, e25, hb14, hil, HU⟩; replace sl2 := e2.trans sl2; clear e2; replace sl24 := e24.trans sl24; clear e24; replace sl25 := e25.trans sl25; clear e25; have hoJ := hb14; clear qb3; replace kb3 := kb3.oB hb14; replace HB := mO HB hb14; clear hb14; have qb3 := kb3.1; have HoJ := hid hoJ; clear hoJ; have HL15 := HoJ; clear HoJ
   repeat ((fail_if_success refine stp ?_); go_step)
   refine region_F ?_; refine pl ?_; refine lsa fun s16 z' => ?_; replace sl2 := slg z' sl2; replace sl24 := slg z' sl24; replace sl25 := slg z' sl25; replace sl26 := slg z' sl26; have sl27 := gu 27 z'; clear z'; refine lsn ?_
   repeat ((fail_if_success refine stp ?_); go_step)
   refine cond_E sl27 (by decide) ?_ ?_ <;> (clear sl27; intro h27 sl27)
   ·skip
    have hi : i < fs.length := by simpa using h27
    have hii : (i : Int) < fs.length := by omega
    obtain ⟨b, off, hae, hbs, d0, d1, d2⟩ := RdFl.ne (Rd.oldB HF.out HB.out (by simp)) hi; subst hae; obtain ⟨y, hy⟩ : ∃ y, fs[i] = y := ⟨_, rfl⟩; rw [hy] at d0 d1 d2; have Hn := hid (errU_succ hi hy HU.out); clear hy
    repeat ((fail_if_success refine stp ?_); go_step)
    refine region_F ?_; refine pl ?_; refine pl ?_; refine pa (fun w17 B11 hB kb11' hb18 => ?_); have gb11 := HB.out.gB hB; have lHL15_b11 := HL15.out.gB hB; have ob3_b11 := oB qb3 hB; have eb11 := eB hB; clear hB; clear qb3; replace kb3 := kb3.at hb18; replace HL15 := bE HL15 hb18; replace HB := bE HB hb18; clear hb18; have qb3 := kb3.1; have kb11 := kb11'; clear kb11'; have qb11 := kb11.1; obtain ⟨cb11_0, cb11_1, cb11_2⟩ := cl3 kb11; have zb11 := kb11.2.2; refine pl ?_; refine listF_absw (fun w19 hw' => ?_); have kb11' := cells_of hw' (Cells.set (i := 2) (Cells.set (i := 1) (Cells.set (i := 0) (kb11))))
    (try simp only [stC, mC, List.set_cons_zero, List.set_cons_succ] at kb11')
    have hb20 : OldB [B11] w17 w19 := oldset hw'; clear hw'; clear cb11_0 cb11_1 cb11_2 zb11; clear qb3 qb11; replace kb11 := kb11'; replace kb3 := kb3.oB hb20; replace HL15 := mO HL15 hb20; replace HB := mO HB hb20; clear hb20; have qb3 := kb3.1; have qb11 := kb11.1; clear kb11'; refine lsa fun s21 z' => ?_; replace sl2 := slg z' sl2; have sl11 := gu 11 z'; replace sl24 := slg z' sl24; replace sl25 := slg z' sl25; replace sl26 := slg z' sl26; clear z' sl27; refine lsn ?_
    repeat ((fail_if_success refine stp ?_); go_step)
    have hj22_2 := hid sl2; have hj22_11 := hid sl11; have hj22_24 := hid sl24; have hj22_25 := hid sl25; have hj22_26 := hid sl26; refine cut_any (fun sJ wJ => sJ 30 = .bool (!inI y.done 0 1000 || !inI y.mask 1 16777215) ∧ sJ 2 = s21 2 ∧ sJ 11 = s21 11 ∧ sJ 24 = s21 24 ∧ sJ 25 = s21 25 ∧ sJ 26 = s21 26 ∧ OldB [] w19 wJ) ?_ ?_
    ·skip
     have HL23 := hid (OldB.refl [] w19); refine region_F ?_; refine pl ?_; obtain ⟨cb11_0, cb11_1, cb11_2⟩ := cl3 kb11; refine pl ?_; refine cal (tout_any y.done 0 1000 _) ?_; rintro e w' ⟨rfl, rfl⟩; refine ⟨_, rfl, ?_⟩; refine pl ?_; refine lsa fun s25 z' => ?_; replace sl2 := slg z' sl2; replace sl11 := slg z' sl11; replace sl24 := slg z' sl24; replace sl25 := slg z' sl25; replace sl26 := slg z' sl26; have sl34 := gu 34 z'; clear z'
     refine boolG sl34 (fun sl34' h34 => ?_) (fun sl34' h34 => ?_) <;> (clear sl34; have sl34 := sl34'; clear sl34')
     ·skip
      refine pn true ?_; refine pn true ?_; refine pn true ?_; refine pl ?_; refine pl ?_; refine lsa fun s26 z' => ?_; replace sl2 := slg z' sl2; replace sl11 := slg z' sl11; replace sl24 := slg z' sl24; replace sl25 := slg z' sl25; replace sl26 := slg z' sl26; have sl30 := gu 30 z'; clear z' sl34; refine lsn ?_
      repeat ((fail_if_success refine stp ?_); go_step)
      clear cb11_0 cb11_1 cb11_2; exact ⟨rfl, _, rfl, (by rw [sl30]; have h := h34; simp at h; simp [h]), (sl2.trans hj22_2.out.symm), (sl11.trans hj22_11.out.symm), (sl24.trans hj22_24.out.symm), (sl25.trans hj22_25.out.symm), (sl26.trans hj22_26.out.symm), HL23.out⟩
     ·skip
      refine py ?_; refine py ?_; refine listF_yes rfl rfl (by decide) ?_ (fun K' hK => ?_); (focus (go_simp; done)); unfold opF; go_simp; refine (tout_any y.mask 1 16777215 _).mono ?_; rintro e w' ⟨rfl, rfl⟩; refine ⟨_, rfl, hK _ _ ?_⟩; clear hK K'; refine pl ?_; refine pl ?_; refine lsa fun s28 z' => ?_; replace sl2 := slg z' sl2; replace sl11 := slg z' sl11; replace sl24 := slg z' sl24; replace sl25 := slg z' sl25; replace sl26 := slg z' sl26; have sl30 := gu 30 z'; have sl35 := gu 35 z'; have sl36 := gu 36 z'; have sl37 := gu 37 z'; clear z' sl34; refine lsn ?_
      repeat ((fail_if_success refine stp ?_); go_step)
      clear cb11_0 cb11_1 cb11_2; exact ⟨rfl, _, rfl, (by rw [sl30]; have h := h34; simp at h; simp [h]), (sl2.trans hj22_2.out.symm), (sl11.trans hj22_11.out.symm), (sl24.trans hj22_24.out.symm), (sl25.trans hj22_25.out.symm), (sl26.trans hj22_26.out.symm), HL23.out⟩
    ·skip
     rintro s29 w30 ⟨sl30, e2, e11, e24, e25, e26, hb31⟩; replace sl2 := e2.trans sl2; clear e2 hj22_2; replace sl11 := e11.trans sl11; clear e11 hj22_11; replace sl24 := e24.trans sl24; clear e24 hj22_24; replace sl25 := e25.trans sl25; clear e25 hj22_25; replace sl26 := e26.trans sl26; clear e26 hj22_26; clear qb3 qb11; replace kb3 := kb3.oB hb31; replace kb11 := kb11.oB hb31; replace HL15 := mO HL15 hb31; replace HB := mO HB hb31; clear hb31; have qb3 := kb3.1; have qb11 := kb11.1
     repeat ((fail_if_success refine stp ?_); go_step)
     refine cond_E sl30 (by decide) ?_ ?_ <;> (clear sl30; intro h30 sl30)
     ·skip
      have e7 : fErr y = 7 := by unfold fErr; rw [if_pos (by simpa using h30)]
      have hs9 := errU_stay (s := s) (fs := fs) (k := fs.length - (i + 1)) (i := i + 1) (by rw [Hn.out, e7]; decide) (by omega); rw [show i + 1 + (fs.length - (i + 1)) = fs.length by omega, Hn.out, e7] at hs9; have Hr := hid (show askErr12 s fs most = 7 by rw [ask_errU, if_pos (by rw [hs9]; decide), hs9]); clear hs9 e7
      repeat ((fail_if_success refine stp ?_); go_step)
      refine region_F ?_; refine pl ?_; refine lsa fun s32 z' => ?_; have sl6 := gu 6 z'; clear z' sl2 sl11 sl24 sl25 sl26 sl30; refine lsn ?_
      repeat ((fail_if_success refine stp ?_); go_step)
      refine ret_F _ (res_t Tryz.results43 ((getD_F (by decide)).trans sl6)) ?_; exact ⟨by rw [Hr.out], HB.out.toBelow⟩
     ·skip
      have H30 := hid (show ¬ (inI y.done 0 1000 = false ∨ inI y.mask 1 16777215 = false) by have h := h30; simp at h; simp [h])
      repeat ((fail_if_success refine stp ?_); go_step)
      refine region_F ?_; refine pl ?_; obtain ⟨cb11_0, cb11_1, cb11_2⟩ := cl3 kb11; refine pl ?_; refine cal (tout_any y.addr 0 127 _) ?_; rintro e w' ⟨rfl, rfl⟩; refine ⟨_, rfl, ?_⟩; refine pl ?_; refine lsa fun s34 z' => ?_; replace sl2 := slg z' sl2; replace sl24 := slg z' sl24; replace sl25 := slg z' sl25; replace sl26 := slg z' sl26; have sl39 := gu 39 z'; clear z' sl11 sl30; refine lsn ?_
      repeat ((fail_if_success refine stp ?_); go_step)
      refine cond_E sl39 (by decide) ?_ ?_ <;> (clear sl39; intro h39 sl39)
      ·skip
       have e4 : fErr y = 4 := by unfold fErr; rw [if_neg H30.out, if_pos (by unfold addrB; simpa using h39)]
       have hs9 := errU_stay (s := s) (fs := fs) (k := fs.length - (i + 1)) (i := i + 1) (by rw [Hn.out, e4]; decide) (by omega); rw [show i + 1 + (fs.length - (i + 1)) = fs.length by omega, Hn.out, e4] at hs9; have Hr := hid (show askErr12 s fs most = 4 by rw [ask_errU, if_pos (by rw [hs9]; decide), hs9]); clear hs9 e4
       repeat ((fail_if_success refine stp ?_); go_step)
       refine region_F ?_; refine pl ?_; refine lsa fun s35 z' => ?_; have sl6 := gu 6 z'; clear z' sl2 sl24 sl25 sl26 sl39; refine lsn ?_
       repeat ((fail_if_success refine stp ?_); go_step)
       refine ret_F _ (res_t Tryz.results43 ((getD_F (by decide)).trans sl6)) ?_; exact ⟨by rw [Hr.out], HB.out.toBelow⟩
      ·skip
       have Hn0 := hid (show errU s fs (i + 1) = 0 by rw [Hn.out]; unfold fErr; rw [if_neg H30.out, if_neg (by unfold addrB; simpa using h39)])
       repeat ((fail_if_success refine stp ?_); go_step)
       refine region_F ?_; refine pl ?_; refine pl ?_; refine lsa fun s36 z' => ?_; replace sl2 := slg z' sl2; replace sl24 := slg z' sl24; replace sl25 := slg z' sl25; replace sl26 := gu 26 z'; clear z' sl39; refine lsn ?_
       repeat ((fail_if_success refine stp ?_); go_step)
       clear cb11_0 cb11_1 cb11_2; refine ⟨_, _, rfl, ?_, i + 1, rfl, (rL sl26), (sl2.trans hc0_2.out.symm), (sl24.trans hc0_24.out.symm), (sl25.trans hc0_25.out.symm), HL15.out, by omega, hid Hn0.out⟩
       omega
   ·skip
    have hi : i = fs.length := by have h := h27; simp at h; omega
    have HUf := hid (show errU s fs fs.length = 0 by have h := HU.out; rw [hi] at h; exact h)
    repeat ((fail_if_success refine stp ?_); go_step)
    clear HL15; clear hc0_2 hc0_24 hc0_25; refine region_F ?_; refine pl ?_; refine cal (tout_any most 0 1000 _) ?_; rintro e w' ⟨rfl, rfl⟩; refine ⟨_, rfl, ?_⟩; refine lsa fun s38 z' => ?_; have sl45 := gu 45 z'; clear z' sl2 sl24 sl25 sl26 sl27; refine lsn ?_
    repeat ((fail_if_success refine stp ?_); go_step)
    refine cond_E sl45 (by decide) ?_ ?_ <;> (clear sl45; intro h45 sl45)
    ·skip
     have Hr := hid (show askErr12 s fs most = 7 by rw [ask_errU, if_neg (by rw [HUf.out]; decide), if_pos (by simpa using h45)])
     repeat ((fail_if_success refine stp ?_); go_step)
     refine region_F ?_; refine pl ?_; refine lsa fun s39 z' => ?_; have sl6 := gu 6 z'; clear z' sl45; refine lsn ?_
     repeat ((fail_if_success refine stp ?_); go_step)
     refine ret_F _ (res_t Tryz.results43 ((getD_F (by decide)).trans sl6)) ?_; exact ⟨by rw [Hr.out], HB.out.toBelow⟩
    ·skip
     have Hr := hid (show askErr12 s fs most = 0 by rw [ask_errU, if_neg (by rw [HUf.out]; decide), if_neg (by simpa using h45)])
     repeat ((fail_if_success refine stp ?_); go_step)
     refine region_F ?_; refine pl ?_; refine lsa fun s40 z' => ?_; have sl6 := gu 6 z'; clear z' sl45; refine lsn ?_
     repeat ((fail_if_success refine stp ?_); go_step)
     refine ret_F _ (res_t Tryz.results43 ((getD_F (by decide)).trans sl6)) ?_; exact ⟨by rw [Hr.out], HB.out.toBelow⟩

set_option maxRecDepth 100000 in
set_option maxHeartbeats 1000000 in
theorem eqInts_any (al : Option Addr) (cl : Nat) (l : List Int) (am : Option Addr) (cm : Nat) (m : List Int) (w : World) (hRl : RdInts w al l) (hRm : RdInts w am m) (hll : l.length ≤ 9223372036854775807) (hlm : m.length ≤ 9223372036854775807) :
    Calls Tryz.prog 81 #[.slice al l.length cl, .slice am m.length cm] w (fun e w' => e = .returned (.bool (decide (l = m))) ∧ Below w.heap.size w w') := by
 have HRl := hid hRl; have HRm := hid hRm; clear hRl hRm
 refine enter_F Tryz.func81 rfl Tryz.ntmps81 (by simp) ?_
 intro s0 hs; have sl0 : s0 0 = .slice al l.length cl := hs 0 (by simp); have sl1 : s0 1 = .slice am m.length cm := hs 1 (by simp); clear hs; have HB := hid (OldB.refl [] w)
 repeat ((fail_if_success refine stp ?_); go_step)
 refine region_F ?_; refine pl ?_; refine lsa fun s1 z' => ?_; replace sl0 := slg z' sl0; replace sl1 := slg z' sl1; clear z'; refine lsn ?_
 repeat ((fail_if_success refine stp ?_); go_step)
 refine region_F ?_
 iterate 5 refine pl ?_
 refine lsa fun s2 z' => ?_; replace sl0 := slg z' sl0; replace sl1 := slg z' sl1; have sl10 := gu 10 z'; clear z'; refine lsn ?_
 repeat ((fail_if_success refine stp ?_); go_step)
 refine cond_E sl10 (by decide) ?_ ?_ <;> (clear sl10; intro h10 sl10)
 ·skip
  have Hf := hid (show decide (l = m) = false from decide_eq_false (fun e => by have h := h10; rw [e] at h; simp at h))
  repeat ((fail_if_success refine stp ?_); go_step)
  refine region_F ?_; refine pl ?_; refine lsa fun s3 z' => ?_; have sl4 := gu 4 z'; clear z' sl0 sl1 sl10; refine lsn ?_
  repeat ((fail_if_success refine stp ?_); go_step)
  refine ret_F _ (res_t Tryz.results81 ((getD_F (by decide)).trans sl4)) ?_; exact ⟨ret_bool Hf.out.symm, HB.out.toBelow⟩
 ·skip
  have hlen : (l.length : Int) = m.length := by have h := h10; simp at h; omega
  have Hlen := hid (show l.length = m.length by omega); clear hlen
  repeat ((fail_if_success refine stp ?_); go_step)
  refine region_F ?_
  iterate 3 refine pl ?_
  refine lsa fun s4 z' => ?_; replace sl0 := slg z' sl0; replace sl1 := slg z' sl1; have sl12 := gu 12 z'; have sl13 := gu 13 z'; clear z' sl10; refine lsn ?_
  repeat ((fail_if_success refine stp ?_); go_step)
  have hc0_0 := hid sl0; have hc0_1 := hid sl1; have hc0_12 := hid sl12; refine loop_F (n := 26) (fun kJ sJ wJ => ∃ (i : Nat), kJ = l.length - i ∧ sJ 13 = .int .i64 (i : Int) ∧ sJ 0 = s4 0 ∧ sJ 1 = s4 1 ∧ sJ 12 = s4 12 ∧ OldB [] w wJ ∧ i ≤ l.length ∧ Hid (l.take i = m.take i)) ⟨0, rfl, (by first | exact sl13 | (rw [sl13]; go_num) | (rw [sl13]; rfl)), rfl, rfl, rfl, OldB.refl _ _, Nat.zero_le _, hid rfl⟩ ?_; clear sl13; rintro kJ s5 w6 ⟨i, rfl, sl13, e0, e1, e12, hb7, hil, Htk⟩; replace sl0 := e0.trans sl0; clear e0; replace sl1 := e1.trans sl1; clear e1; replace sl12 := e12.trans sl12; clear e12; have hoJ := hb7; replace HB := mO HB hb7; clear hb7; have HoJ := hid hoJ; clear hoJ; have HL8 := HoJ; clear HoJ
  repeat ((fail_if_success refine stp ?_); go_step)
  refine region_F ?_; refine pl ?_; refine lsa fun s9 z' => ?_; replace sl0 := slg z' sl0; replace sl1 := slg z' sl1; replace sl12 := slg z' sl12; replace sl13 := slg z' sl13; have sl14 := gu 14 z'; clear z'; refine lsn ?_
  repeat ((fail_if_success refine stp ?_); go_step)
  refine cond_E sl14 (by decide) ?_ ?_ <;> (clear sl14; intro h14 sl14)
  ·skip
   have hi : i < l.length := by simpa using h14
   have hii : (i : Int) < l.length := by omega
   have hi2 : i < m.length := by have := Hlen.out; omega
   have hii2 : (i : Int) < m.length := by omega
   obtain ⟨bl, ol, hal, hbl, c0⟩ := RdInts.ne (Rd.oldB HRl.out HB.out (by simp)) hi; subst hal; obtain ⟨bm, om, ham, hbm, d0⟩ := RdInts.ne (Rd.oldB HRm.out HB.out (by simp)) hi2; subst ham; obtain ⟨y, hy⟩ : ∃ z, l[i] = z := ⟨_, rfl⟩; obtain ⟨z, hz⟩ : ∃ z, m[i] = z := ⟨_, rfl⟩; rw [hy] at c0; rw [hz] at d0; have Hy := hid hy; have Hz := hid hz; clear hy hz
   repeat ((fail_if_success refine stp ?_); go_step)
   refine region_F ?_; refine pl ?_; refine pl ?_; refine lsa fun s10 z' => ?_; replace sl0 := slg z' sl0; replace sl1 := slg z' sl1; have sl5 := gu 5 z'; replace sl12 := slg z' sl12; replace sl13 := slg z' sl13; clear z' sl14; refine lsn ?_
   repeat ((fail_if_success refine stp ?_); go_step)
   refine regionR_F [] [] [] [.q [], .q [], .q [], .q [], .q [], .q [], .q [], .q []] [?v16_0, ?v16_1, ?v16_2, ?v16_3, ?v16_4, ?v16_5, ?v16_6, ?v16_7] [fun _ => [], fun _ => [], fun _ => [], fun _ => [], fun _ => [], fun _ => [], fun _ => [], fun _ => []] (by kernel_rfl) (by kernel_rfl) (by kernel_rfl) (by kernel_rfl) (by kernel_rfl) (by first | exact List.nodup_nil | exact List.nodup_singleton _ | (simp; done) | (simp; omega)) bc_nil ?walk16 ?dep16
   case walk16 =>
    iterate 8 refine rq ?_
    refine walkR_nil (fun X hX w11 hwz hcz => ?_); clear hX hcz
    (try clear X)
    skip; have hb12 := hwz.unDrew; clear hwz; replace HL8 := mO HL8 hb12; replace HB := mO HB hb12; clear hb12; refine pl ?_; refine lsa fun s13 z' => ?_; replace sl0 := slg z' sl0; replace sl1 := slg z' sl1; replace sl12 := slg z' sl12; replace sl13 := slg z' sl13; have sl24 := gu 24 z'; clear z' sl5; refine lsn ?_
    repeat ((fail_if_success refine stp ?_); go_step)
    refine cond_E sl24 (by decide) ?_ ?_ <;> (clear sl24; intro h24 sl24)
    ·skip
     have Hf := hid (show decide (l = m) = false from decide_eq_false (fun e => by subst e; have h := h24; rw [← Hy.out, ← Hz.out] at h; simp at h))
     repeat ((fail_if_success refine stp ?_); go_step)
     refine region_F ?_; refine pl ?_; refine lsa fun s14 z' => ?_; have sl4 := gu 4 z'; clear z' sl0 sl1 sl12 sl13 sl24; refine lsn ?_
     repeat ((fail_if_success refine stp ?_); go_step)
     refine ret_F _ (res_t Tryz.results81 ((getD_F (by decide)).trans sl4)) ?_; exact ⟨ret_bool Hf.out.symm, HB.out.toBelow⟩
    ·skip
     have hyz : y = z := by have h := h24; simp at h; exact h
     repeat ((fail_if_success refine stp ?_); go_step)
     refine region_F ?_; refine pl ?_; refine pl ?_; refine lsa fun s15 z' => ?_; replace sl0 := slg z' sl0; replace sl1 := slg z' sl1; replace sl12 := slg z' sl12; replace sl13 := gu 13 z'; clear z' sl24; refine lsn ?_
     repeat ((fail_if_success refine stp ?_); go_step)
     refine ⟨_, _, rfl, ?_, i + 1, rfl, (rL sl13), (sl0.trans hc0_0.out.symm), (sl1.trans hc0_1.out.symm), (sl12.trans hc0_12.out.symm), HL8.out, by omega, hid (take_more hi hi2 Htk.out (by rw [Hy.out, Hz.out, hyz]))⟩
     omega
   case dep16 =>
     iterate 8 refine dR ?_
     exact depR_nil
  ·skip
   have hi : i = l.length := by have h := h14; simp at h; omega
   have Hf := hid (show decide (l = m) = true from decide_eq_true (by have h1 := Htk.out; rw [hi, List.take_length, Hlen.out, List.take_length] at h1; exact h1))
   repeat ((fail_if_success refine stp ?_); go_step)
   clear HL8; clear hc0_0 hc0_1 hc0_12; refine region_F ?_; refine pl ?_; refine lsa fun s16 z' => ?_; have sl4 := gu 4 z'; clear z' sl0 sl1 sl12 sl13 sl14; refine lsn ?_
   repeat ((fail_if_success refine stp ?_); go_step)
   refine ret_F _ (res_t Tryz.results81 ((getD_F (by decide)).trans sl4)) ?_; exact ⟨ret_bool Hf.out.symm, HB.out.toBelow⟩

set_option maxRecDepth 100000 in
set_option maxHeartbeats 8000000 in
theorem tequal_any (s : St4) (A : SA) (t : St4) (B : SA) (w : World) (hR : RdSt w s A) (hQ : RdSt w t B) (hL : LenI s) (hM : LenI t) :
    Calls Tryz.prog 47 #[.agg #[.slice A.sa s.store.length A.sc, .slice A.ta s.tape.length A.tc, .int .i64 s.taken, .slice A.pa s.printed.length A.pc, .int .i64 s.time, .int .i64 s.pc, .int .i64 s.done, .int .i64 s.why], .agg #[.slice B.sa t.store.length B.sc, .slice B.ta t.tape.length B.tc, .int .i64 t.taken, .slice B.pa t.printed.length B.pc, .int .i64 t.time, .int .i64 t.pc, .int .i64 t.done, .int .i64 t.why]] w (fun e w' => e = .returned (.bool (decide (s = t))) ∧ Below w.heap.size w w') := by
 have HR := hid hR; have HQ := hid hQ; clear hR hQ; obtain ⟨l0, l1, l2⟩ := hL; obtain ⟨m0, m1, m2⟩ := hM
 refine enter_F Tryz.func47 rfl Tryz.ntmps47 (by simp) ?_
 intro s0 hs; have sl0 : s0 0 = .agg #[.slice A.sa s.store.length A.sc, .slice A.ta s.tape.length A.tc, .int .i64 s.taken, .slice A.pa s.printed.length A.pc, .int .i64 s.time, .int .i64 s.pc, .int .i64 s.done, .int .i64 s.why] := hs 0 (by simp); have sl1 : s0 1 = .agg #[.slice B.sa t.store.length B.sc, .slice B.ta t.tape.length B.tc, .int .i64 t.taken, .slice B.pa t.printed.length B.pc, .int .i64 t.time, .int .i64 t.pc, .int .i64 t.done, .int .i64 t.why] := hs 1 (by simp); clear hs; have HB := hid (OldB.refl [] w)
 repeat ((fail_if_success refine stp ?_); go_step)
 refine region_F ?_; refine pa (fun w1 B2 hB kb2' hb2 => ?_); have gb2 := HB.out.gB hB; have eb2 := eB hB; clear hB; replace HB := bE HB hb2; clear hb2; have kb2 := kb2'; clear kb2'; have qb2 := kb2.1; refine pa (fun w3 B3 hB kb3' hb4 => ?_); have gb3 := HB.out.gB hB; have ob2_b3 := oB qb2 hB; have eb3 := eB hB; clear hB; clear qb2; replace kb2 := kb2.at hb4; replace HB := bE HB hb4; clear hb4; have qb2 := kb2.1; have kb3 := kb3'; clear kb3'; have qb3 := kb3.1; refine pl ?_; refine lsa fun s5 z' => ?_; have sl2 := gu 2 z'; have sl3 := gu 3 z'; clear z' sl0 sl1; refine lsn ?_
 repeat ((fail_if_success refine stp ?_); go_step)
 refine cut_any (fun sJ wJ => sJ 4 = .bool (decide (s = t)) ∧ OldB [] w3 wJ) ?_ ?_
 ·skip
  have HL7 := hid (OldB.refl [] w3); refine region_F ?_; refine pl ?_; obtain ⟨cb2_0, cb2_1, cb2_2, cb2_3, cb2_4, cb2_5, cb2_6, cb2_7⟩ := cl8 kb2; refine pl ?_; refine pl ?_; obtain ⟨cb3_0, cb3_1, cb3_2, cb3_3, cb3_4, cb3_5, cb3_6, cb3_7⟩ := cl8 kb3; refine pl ?_; refine cal (eqInts_any A.sa A.sc s.store B.sa B.sc t.store _ (Rd.oldB HR.out.st HB.out (by simp)) (Rd.oldB HQ.out.st HB.out (by simp)) l0 m0) ?_; rintro e w8 ⟨rfl, hb9⟩; refine ⟨_, rfl, ?_⟩; clear cb2_0 cb2_1 cb2_2 cb2_3 cb2_4 cb2_5 cb2_6 cb2_7 cb3_0 cb3_1 cb3_2 cb3_3 cb3_4 cb3_5 cb3_6 cb3_7
  clear qb2 qb3; replace kb2 := kb2.at hb9; replace kb3 := kb3.at hb9; replace HL7 := bE HL7 hb9; replace HB := bE HB hb9; clear hb9; have qb2 := kb2.1; have qb3 := kb3.1; refine pl ?_; refine lsa fun s10 z' => ?_; replace sl2 := slg z' sl2; replace sl3 := slg z' sl3; have sl10 := gu 10 z'; clear z'
  refine boolG sl10 (fun sl10' h10 => ?_) (fun sl10' h10 => ?_) <;> (clear sl10; have sl10 := sl10'; clear sl10')
  ·skip
   have g10 : s.store = t.store := by simpa using h10
   refine py ?_; obtain ⟨cb2_0, cb2_1, cb2_2, cb2_3, cb2_4, cb2_5, cb2_6, cb2_7⟩ := cl8 kb2; refine py ?_; refine py ?_; obtain ⟨cb3_0, cb3_1, cb3_2, cb3_3, cb3_4, cb3_5, cb3_6, cb3_7⟩ := cl8 kb3; refine py ?_; refine listF_yes rfl rfl (by decide) ?_ (fun K' hK => ?_); (focus (go_simp; done)); unfold opF; go_simp; refine (eqInts_any A.ta A.tc s.tape B.ta B.tc t.tape _ (Rd.oldB HR.out.tp HB.out (by simp)) (Rd.oldB HQ.out.tp HB.out (by simp)) l1 m1).mono ?_; rintro e w11 ⟨rfl, hb12⟩; refine ⟨_, rfl, hK _ _ ?_⟩; clear hK K'; clear cb2_0 cb2_1 cb2_2 cb2_3 cb2_4 cb2_5 cb2_6 cb2_7 cb3_0 cb3_1 cb3_2 cb3_3 cb3_4 cb3_5 cb3_6 cb3_7
   clear qb2 qb3; replace kb2 := kb2.at hb12; replace kb3 := kb3.at hb12; replace HL7 := bE HL7 hb12; replace HB := bE HB hb12; clear hb12; have qb2 := kb2.1; have qb3 := kb3.1; refine pl ?_; refine pl ?_; refine lsa fun s13 z' => ?_; replace sl2 := slg z' sl2; replace sl3 := slg z' sl3; have sl17 := gu 17 z'; clear z' sl10
   refine boolG sl17 (fun sl17' h17 => ?_) (fun sl17' h17 => ?_) <;> (clear sl17; have sl17 := sl17'; clear sl17')
   ·skip
    have g17 : s.tape = t.tape := by simpa using h17
    refine py ?_; obtain ⟨cb2_0, cb2_1, cb2_2, cb2_3, cb2_4, cb2_5, cb2_6, cb2_7⟩ := cl8 kb2; refine py ?_; refine py ?_; obtain ⟨cb3_0, cb3_1, cb3_2, cb3_3, cb3_4, cb3_5, cb3_6, cb3_7⟩ := cl8 kb3; refine py ?_; refine listF_yes rfl rfl (by decide) ?_ (fun K' hK => ?_); (focus (go_simp; done)); unfold opF; go_simp; refine (eqInts_any A.pa A.pc s.printed B.pa B.pc t.printed _ (Rd.oldB HR.out.pr HB.out (by simp)) (Rd.oldB HQ.out.pr HB.out (by simp)) l2 m2).mono ?_; rintro e w14 ⟨rfl, hb15⟩; refine ⟨_, rfl, hK _ _ ?_⟩; clear hK K'; clear cb2_0 cb2_1 cb2_2 cb2_3 cb2_4 cb2_5 cb2_6 cb2_7 cb3_0 cb3_1 cb3_2 cb3_3 cb3_4 cb3_5 cb3_6 cb3_7
    clear qb2 qb3; replace kb2 := kb2.at hb15; replace kb3 := kb3.at hb15; replace HL7 := bE HL7 hb15; replace HB := bE HB hb15; clear hb15; have qb2 := kb2.1; have qb3 := kb3.1; refine pl ?_; refine pl ?_; refine lsa fun s16 z' => ?_; replace sl2 := slg z' sl2; replace sl3 := slg z' sl3; have sl24 := gu 24 z'; clear z' sl17
    refine boolG sl24 (fun sl24' h24 => ?_) (fun sl24' h24 => ?_) <;> (clear sl24; have sl24 := sl24'; clear sl24')
    ·skip
     have g24 : s.printed = t.printed := by simpa using h24
     refine py ?_; obtain ⟨cb2_0, cb2_1, cb2_2, cb2_3, cb2_4, cb2_5, cb2_6, cb2_7⟩ := cl8 kb2; refine py ?_; refine py ?_; obtain ⟨cb3_0, cb3_1, cb3_2, cb3_3, cb3_4, cb3_5, cb3_6, cb3_7⟩ := cl8 kb3; refine py ?_; refine py ?_; refine pl ?_; refine pl ?_; refine lsa fun s17 z' => ?_; replace sl2 := slg z' sl2; replace sl3 := slg z' sl3; have sl31 := gu 31 z'; clear z' sl24
     refine boolG sl31 (fun sl31' h31 => ?_) (fun sl31' h31 => ?_) <;> (clear sl31; have sl31 := sl31'; clear sl31')
     ·skip
      have g31 : s.taken = t.taken := by simpa using h31
      iterate 5 refine py ?_
      refine pl ?_; refine pl ?_; refine lsa fun s18 z' => ?_; replace sl2 := slg z' sl2; replace sl3 := slg z' sl3; have sl38 := gu 38 z'; clear z' sl31
      refine boolG sl38 (fun sl38' h38 => ?_) (fun sl38' h38 => ?_) <;> (clear sl38; have sl38 := sl38'; clear sl38')
      ·skip
       have g38 : s.time = t.time := by simpa using h38
       iterate 5 refine py ?_
       refine pl ?_; refine pl ?_; refine lsa fun s19 z' => ?_; replace sl2 := slg z' sl2; replace sl3 := slg z' sl3; have sl45 := gu 45 z'; clear z' sl38
       refine boolG sl45 (fun sl45' h45 => ?_) (fun sl45' h45 => ?_) <;> (clear sl45; have sl45 := sl45'; clear sl45')
       ·skip
        have g45 : s.pc = t.pc := by simpa using h45
        iterate 5 refine py ?_
        refine pl ?_; refine pl ?_; refine lsa fun s20 z' => ?_; replace sl2 := slg z' sl2; replace sl3 := slg z' sl3; have sl52 := gu 52 z'; clear z' sl45
        refine boolG sl52 (fun sl52' h52 => ?_) (fun sl52' h52 => ?_) <;> (clear sl52; have sl52 := sl52'; clear sl52')
        ·skip
         have g52 : s.done = t.done := by simpa using h52
         iterate 5 refine py ?_
         refine pl ?_; refine pl ?_; refine lsa fun s21 z' => ?_; have sl4 := gu 4 z'; clear z' sl2 sl3 sl52; refine lsn ?_
         repeat ((fail_if_success refine stp ?_); go_step)
         clear cb2_0 cb2_1 cb2_2 cb2_3 cb2_4 cb2_5 cb2_6 cb2_7 cb3_0 cb3_1 cb3_2 cb3_3 cb3_4 cb3_5 cb3_6 cb3_7; exact ⟨rfl, _, rfl, (by rw [sl4]; congr 1; rw [Bool.eq_iff_iff, decide_eq_true_eq, st_eq]; simp [g10, g17, g24, g31, g38, g45, g52]), HL7.out⟩
        ·skip
         have g52 : ¬ (s.done = t.done) := by simpa using h52
         refine pn false ?_
         refine pn false ?_
         refine pn false ?_; refine pn false ?_; refine pn false ?_; refine pl ?_; refine pl ?_; refine lsa fun s22 z' => ?_; have sl4 := gu 4 z'; clear z' sl2 sl3 sl52; refine lsn ?_
         repeat ((fail_if_success refine stp ?_); go_step)
         clear cb2_0 cb2_1 cb2_2 cb2_3 cb2_4 cb2_5 cb2_6 cb2_7 cb3_0 cb3_1 cb3_2 cb3_3 cb3_4 cb3_5 cb3_6 cb3_7; exact ⟨rfl, _, rfl, (by rw [sl4]; congr 1; rw [Bool.eq_iff_iff, decide_eq_true_eq, st_eq]; simp [g10, g17, g24, g31, g38, g45, g52]), HL7.out⟩
       ·skip
        have g45 : ¬ (s.pc = t.pc) := by simpa using h45
        refine pn false ?_
        refine pn false ?_
        refine pn false ?_; refine pn false ?_; refine pn false ?_; refine pl ?_; refine pl ?_
        refine pn false ?_
        refine pn false ?_
        refine pn false ?_; refine pn false ?_; refine pn false ?_; refine pl ?_; refine pl ?_; refine lsa fun s23 z' => ?_; have sl4 := gu 4 z'; clear z' sl2 sl3 sl45; refine lsn ?_
        repeat ((fail_if_success refine stp ?_); go_step)
        clear cb2_0 cb2_1 cb2_2 cb2_3 cb2_4 cb2_5 cb2_6 cb2_7 cb3_0 cb3_1 cb3_2 cb3_3 cb3_4 cb3_5 cb3_6 cb3_7; exact ⟨rfl, _, rfl, (by rw [sl4]; congr 1; rw [Bool.eq_iff_iff, decide_eq_true_eq, st_eq]; simp [g10, g17, g24, g31, g38, g45]), HL7.out⟩
      ·skip
       have g38 : ¬ (s.time = t.time) := by simpa using h38
       refine pn false ?_
       refine pn false ?_
       refine pn false ?_; refine pn false ?_; refine pn false ?_; refine pl ?_; refine pl ?_
       refine pn false ?_
       refine pn false ?_
       refine pn false ?_; refine pn false ?_; refine pn false ?_; refine pl ?_; refine pl ?_
       refine pn false ?_
       refine pn false ?_
       refine pn false ?_; refine pn false ?_; refine pn false ?_; refine pl ?_; refine pl ?_; refine lsa fun s24 z' => ?_; have sl4 := gu 4 z'; clear z' sl2 sl3 sl38; refine lsn ?_
       repeat ((fail_if_success refine stp ?_); go_step)
       clear cb2_0 cb2_1 cb2_2 cb2_3 cb2_4 cb2_5 cb2_6 cb2_7 cb3_0 cb3_1 cb3_2 cb3_3 cb3_4 cb3_5 cb3_6 cb3_7; exact ⟨rfl, _, rfl, (by rw [sl4]; congr 1; rw [Bool.eq_iff_iff, decide_eq_true_eq, st_eq]; simp [g10, g17, g24, g31, g38]), HL7.out⟩
     ·skip
      have g31 : ¬ (s.taken = t.taken) := by simpa using h31
      refine pn false ?_
      refine pn false ?_
      refine pn false ?_; refine pn false ?_; refine pn false ?_; refine pl ?_; refine pl ?_
      refine pn false ?_
      refine pn false ?_
      refine pn false ?_; refine pn false ?_; refine pn false ?_; refine pl ?_; refine pl ?_
      refine pn false ?_
      refine pn false ?_
      refine pn false ?_; refine pn false ?_; refine pn false ?_; refine pl ?_; refine pl ?_
      refine pn false ?_
      refine pn false ?_
      refine pn false ?_; refine pn false ?_; refine pn false ?_; refine pl ?_; refine pl ?_; refine lsa fun s25 z' => ?_; have sl4 := gu 4 z'; clear z' sl2 sl3 sl31; refine lsn ?_
      repeat ((fail_if_success refine stp ?_); go_step)
      clear cb2_0 cb2_1 cb2_2 cb2_3 cb2_4 cb2_5 cb2_6 cb2_7 cb3_0 cb3_1 cb3_2 cb3_3 cb3_4 cb3_5 cb3_6 cb3_7; exact ⟨rfl, _, rfl, (by rw [sl4]; congr 1; rw [Bool.eq_iff_iff, decide_eq_true_eq, st_eq]; simp [g10, g17, g24, g31]), HL7.out⟩
    ·skip
     have g24 : ¬ (s.printed = t.printed) := by simpa using h24
     refine pn false ?_
     refine pn false ?_
     refine pn false ?_; refine pn false ?_; refine pn false ?_; refine pl ?_; refine pl ?_
     refine pn false ?_
     refine pn false ?_
     refine pn false ?_; refine pn false ?_; refine pn false ?_; refine pl ?_; refine pl ?_
     refine pn false ?_
     refine pn false ?_
     refine pn false ?_; refine pn false ?_; refine pn false ?_; refine pl ?_; refine pl ?_
     refine pn false ?_
     refine pn false ?_
     refine pn false ?_; refine pn false ?_; refine pn false ?_; refine pl ?_; refine pl ?_
     refine pn false ?_
     refine pn false ?_
     refine pn false ?_; refine pn false ?_; refine pn false ?_; refine pl ?_; refine pl ?_; refine lsa fun s26 z' => ?_; have sl4 := gu 4 z'; clear z' sl2 sl3 sl24; refine lsn ?_
     repeat ((fail_if_success refine stp ?_); go_step)
     exact ⟨rfl, _, rfl, (by rw [sl4]; congr 1; rw [Bool.eq_iff_iff, decide_eq_true_eq, st_eq]; simp [g10, g17, g24]), HL7.out⟩
   ·skip
    have g17 : ¬ (s.tape = t.tape) := by simpa using h17
    refine pn false ?_
    refine pn false ?_
    refine pn false ?_; refine pn false ?_; refine pn false ?_; refine pl ?_; refine pl ?_
    refine pn false ?_
    refine pn false ?_
    refine pn false ?_; refine pn false ?_; refine pn false ?_; refine pl ?_; refine pl ?_
    refine pn false ?_
    refine pn false ?_
    refine pn false ?_; refine pn false ?_; refine pn false ?_; refine pl ?_; refine pl ?_
    refine pn false ?_
    refine pn false ?_
    refine pn false ?_; refine pn false ?_; refine pn false ?_; refine pl ?_; refine pl ?_
    refine pn false ?_
    refine pn false ?_
    refine pn false ?_; refine pn false ?_; refine pn false ?_; refine pl ?_; refine pl ?_
    refine pn false ?_
    refine pn false ?_
    refine pn false ?_; refine pn false ?_; refine pn false ?_; refine pl ?_; refine pl ?_; refine lsa fun s27 z' => ?_; have sl4 := gu 4 z'; clear z' sl2 sl3 sl17; refine lsn ?_
    repeat ((fail_if_success refine stp ?_); go_step)
    exact ⟨rfl, _, rfl, (by rw [sl4]; congr 1; rw [Bool.eq_iff_iff, decide_eq_true_eq, st_eq]; simp [g10, g17]), HL7.out⟩
  ·skip
   have g10 : ¬ (s.store = t.store) := by simpa using h10
   refine pn false ?_
   refine pn false ?_
   refine pn false ?_; refine pn false ?_; refine pn false ?_; refine pl ?_; refine pl ?_
   refine pn false ?_
   refine pn false ?_
   refine pn false ?_; refine pn false ?_; refine pn false ?_; refine pl ?_; refine pl ?_
   refine pn false ?_
   refine pn false ?_
   refine pn false ?_; refine pn false ?_; refine pn false ?_; refine pl ?_; refine pl ?_
   refine pn false ?_
   refine pn false ?_
   refine pn false ?_; refine pn false ?_; refine pn false ?_; refine pl ?_; refine pl ?_
   refine pn false ?_
   refine pn false ?_
   refine pn false ?_; refine pn false ?_; refine pn false ?_; refine pl ?_; refine pl ?_
   refine pn false ?_
   refine pn false ?_
   refine pn false ?_; refine pn false ?_; refine pn false ?_; refine pl ?_; refine pl ?_
   refine pn false ?_
   refine pn false ?_
   refine pn false ?_; refine pn false ?_; refine pn false ?_; refine pl ?_; refine pl ?_; refine lsa fun s28 z' => ?_; have sl4 := gu 4 z'; clear z' sl2 sl3 sl10; refine lsn ?_
   repeat ((fail_if_success refine stp ?_); go_step)
   exact ⟨rfl, _, rfl, (by rw [sl4]; congr 1; rw [Bool.eq_iff_iff, decide_eq_true_eq, st_eq]; simp [g10]), HL7.out⟩
 ·skip
  clear sl2 sl3; rintro s29 w30 ⟨sl4, hb31⟩; clear qb2 qb3; replace kb2 := kb2.oB hb31; replace kb3 := kb3.oB hb31; replace HB := mO HB hb31; clear hb31; have qb2 := kb2.1; have qb3 := kb3.1
  repeat ((fail_if_success refine stp ?_); go_step)
  refine ret_F _ (res_t Tryz.results47 ((getD_F (by decide)).trans sl4)) ?_; exact ⟨rfl, HB.out.toBelow⟩

end Go.Proofs.YtleknidlgmmgbaaGreat
