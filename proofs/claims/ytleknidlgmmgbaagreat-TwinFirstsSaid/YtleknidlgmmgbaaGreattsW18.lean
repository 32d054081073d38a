/- The program: Decode, check, equal. -/
import Derived.Test.YtleknidlgmmgbaaGreattsW17
import Derived.Test.YtleknidlgmmgbaaGreattsCZ
set_option linter.all false
set_option maxRecDepth 100000
set_option maxHeartbeats 8000000
namespace Go.Proofs.YtleknidlgmmgbaaGreat

open Go.RowKit

theorem oDecode_ok (x : Int) (w : World) (hx : 0 ≤ x ∧ x ≤ 16777215) :
    Calls Tryz.prog 48 #[.int .i64 x] w (fun e w' => e = .returned (.tuple #[.agg #[.int .i64 (decodeO x).op, .int .i64 (decodeO x).fr, .int .i64 (decodeO x).tt, .int .i64 (decodeO x).nx], .int .i64 0]) ∧ Below w.heap.size w w') := by
 refine enter_F Tryz.func48 rfl Tryz.ntmps48 (by simp) ?_
 intro s0 hs; have sl0 : s0 0 = .int .i64 x := hs 0 (by simp); clear hs; have HB := hid (OldB.refl [] w)
 refine nr ?_; intros; refine pa (fun _ B2 hB kb2 hb => ?_); have gb2 := HB.out.gB hB; have eb2 := eB hB; clear hB; replace HB := bE HB hb; clear hb; have qb2 := kb2.1; refine pl ?_; refine lx [2] ?_; clear sl0; intro _ sl0 sl2; refine lr ?_; intros; refine pl ?_; refine pas (fun _ B5 hB kb5 hb => ?_); have gb5 := HB.out.gB hB; have ob2_b5 := oB qb2 hB; have eb5 := eB hB; clear hB; clear qb2; revert HB; revert kb2; refine uA hb ?_; clear hb; intro kb2 qb2 HB; have qb5 := kb5.1; refine cal (oout_1 16777215 x B5 1 _ kb5) ?_; rintro e _ ⟨rfl, hb⟩; rw [show (!inI x 0 16777215) = false by rw [(inI_iff _ _ _).2 hx]; rfl]; refine ⟨_, rfl, ?_⟩; clear qb2 qb5; revert HB; revert kb5; revert kb2; refine uA hb ?_; clear hb; intro kb2 qb2 kb5 qb5 HB; refine lx [6] ?_; clear sl0 sl2; intro _ sl0 sl2 sl6; refine ln ?_; intros
 refine cond_f ?_
 refine nr ?_; intros; refine pl ?_; refine cal (odecode_any x _ hx) ?_; rintro e _ ⟨rfl, hb⟩; refine ⟨_, rfl, ?_⟩; clear qb2 qb5; revert HB; revert kb5; revert kb2; refine uA hb ?_; clear hb; intro kb2 qb2 kb5 qb5 HB; obtain ⟨cb2_0, cb2_1, cb2_2, cb2_3⟩ := cl4 kb2; have zb2 := kb2.2.2; refine pl ?_; refine sto kb2 ?_; clear kb2 cb2_0 cb2_1 cb2_2 cb2_3 zb2; intro _ kb2 hb; clear qb2 qb5; revert HB; revert kb5; refine uO hb ?_; clear hb; intro kb5 qb5 HB; have qb2 := kb2.1; refine pl ?_; clear sl0 sl6; refine lx [3] ?_; clear sl2; intro _ sl2 sl3; refine ln ?_; intros
 obtain ⟨cb2_0, cb2_1, cb2_2, cb2_3⟩ := cl4 kb2; refine ret_F _ (res_ct Tryz.results48 ((getD_F (by decide)).trans sl2) (load_t27 cb2_0 cb2_1 cb2_2 cb2_3) ((getD_F (by decide)).trans sl3)) ?_; exact ⟨rfl, HB.out.toBelow⟩

theorem tout_any (n a b : Int) (w : World) :
    Calls Tryz.prog 55 #[.int .i64 n, .int .i64 a, .int .i64 b] w (fun e w' => e = .returned (.bool (!inI n a b)) ∧ w = w') := by
 refine enter_F Tryz.func55 rfl Tryz.ntmps55 (by simp) ?_
 intro s0 hs; have sl0 : s0 0 = .int .i64 n := hs 0 (by simp); have sl1 : s0 1 = .int .i64 a := hs 1 (by simp); have sl2 : s0 2 = .int .i64 b := hs 2 (by simp); clear hs; have HB := hid (OldB.refl [] w)
 refine nr ?_; intros; refine pl ?_; refine lx [] ?_; clear sl0 sl1 sl2; intro _ sl0 sl1 sl2; refine lr ?_; intros
 refine P4 ?_
 clear sl1; refine lx [10] ?_; clear sl0 sl2; intro _ sl0 sl2 sl10
 refine boolG sl10 (fun sl10' h10 => ?_) (fun sl10' h10 => ?_) <;> (clear sl10; have sl10 := sl10'; clear sl10')
 ·skip
  refine pn true ?_; refine pn true ?_; refine pn true ?_; refine P2 ?_; clear sl0 sl2 sl10; refine lx [6] ?_; intro _ sl6; refine ln ?_; intros
  refine ret_F _ (res_t Tryz.results55 ((getD_F (by decide)).trans sl6)) ?_; exact ⟨ret_bool (by unfold inI; rw [Bool.eq_iff_iff]; simp at *; try omega), rfl⟩
 ·skip
  iterate 3 refine py ?_
  refine P2 ?_; clear sl0 sl2 sl10; refine lx [6] ?_; intro _ sl6; refine ln ?_; intros
  refine ret_F _ (res_t Tryz.results55 ((getD_F (by decide)).trans sl6)) ?_; exact ⟨ret_bool (by unfold inI; rw [Bool.eq_iff_iff]; simp at *; try omega), rfl⟩


theorem ocheck_v (s : St4) (A : SA) (c1 c2 c3 : Int) (w : World) (hC : chk4 s = (c1, c2, c3)) (hR : RdSt w s A) (hL : LenI s) :
    Calls Tryz.prog 75 #[.agg #[.slice A.sa s.store.length A.sc, .slice A.ta s.tape.length A.tc, .int .i64 s.taken, .slice A.pa s.printed.length A.pc, .int .i64 s.time, .int .i64 s.pc, .int .i64 s.done, .int .i64 s.why]] w (fun e w' => e = .returned (.tuple #[.int .i64 c1, .int .i64 c2, .int .i64 c3]) ∧ Below w.heap.size w w') := by
  have := ocheck_any s A w hR hL; rw [hC] at this; exact this

theorem XW18b {A B1 : Prop} (hX1 : B1) (e : B1 → A := by exact ret_F _ (res_t Tryz.results43 ((getD_F (by decide)).trans sl6))) : A := e hX1
theorem XW18c {A : Prop} (e : A := by exact ⟨trv, _, rfl, (by rw [sl30]; have h := h34; simp at h; simp [h]), (sl2.trans hj22_2.out.symm), (sl11.trans hj22_11.out.symm), (sl24.trans hj22_24.out.symm), (sl25.trans hj22_25.out.symm), (sl26.trans hj22_26.out.symm), HL23.out⟩) : A := e
theorem tcheck_any (s : St4) (A : SA) (af : Option Addr) (cf : Nat) (fs : List Flt) (most : Int) (w : World) (hR : RdSt w s A) (hL : LenI s) (hF : RdFl w af fs) (hlf : fs.length ≤ 9223372036854775807) :
    Calls Tryz.prog 43 #[.agg #[.slice A.sa s.store.length A.sc, .slice A.ta s.tape.length A.tc, .int .i64 s.taken, .slice A.pa s.printed.length A.pc, .int .i64 s.time, .int .i64 s.pc, .int .i64 s.done, .int .i64 s.why], .slice af fs.length cf, .int .i64 most] w (fun e w' => e = .returned (.int .i64 (askErr12 s fs most)) ∧ Below w.heap.size w w') := by
 have HR := hid hR; have HF := hid hF; have HL := hid hL; clear hR hF hL; obtain ⟨⟨c1, c2, c3⟩, hC⟩ : ∃ z, chk4 s = z := ⟨_, rfl⟩; have HC := hid hC; clear hC
 refine enter_F Tryz.func43 rfl Tryz.ntmps43 (by simp) ?_
 intro s0 hs; have sl0 : s0 0 = .agg #[.slice A.sa s.store.length A.sc, .slice A.ta s.tape.length A.tc, .int .i64 s.taken, .slice A.pa s.printed.length A.pc, .int .i64 s.time, .int .i64 s.pc, .int .i64 s.done, .int .i64 s.why] := hs 0 (by simp); have sl1 : s0 1 = .slice af fs.length cf := hs 1 (by simp); have sl2 : s0 2 = .int .i64 most := hs 2 (by simp); clear hs; have HB := hid (OldB.refl [] w)
 refine nr ?_; intros; refine pa (fun _ B3 hB kb3 hb => ?_); have gb3 := HB.out.gB hB; have eb3 := eB hB; clear hB; replace HB := bE HB hb; clear hb; have qb3 := kb3.1; refine pl ?_; clear sl0; refine lx [3] ?_; clear sl1 sl2; intro _ sl1 sl2 sl3; refine lr ?_; intros; have cb3 := clx kb3; refine pl ?_; refine cal (ocheck_v s A c1 c2 c3 _ HC.out (HR.out.old HB.out) HL.out) ?_; rintro e w4 ⟨rfl, hb⟩; refine ⟨_, rfl, ?_⟩; clear cb3; clear qb3; revert HB; revert kb3; refine uA hb ?_; clear hb; intro kb3 qb3 HB
 refine P7 ?_
 clear sl3; refine lx [9] ?_; clear sl1 sl2; intro _ sl1 sl2 sl9; refine lr ?_; intros; refine P2 ?_; refine lx [19] ?_; clear sl1 sl2 sl9; intro _ sl1 sl2 sl9 sl19; refine ln ?_; intros
 refine cond_E sl19 (by decide) ?_ ?_ <;> (clear sl19; intro h19 sl19)
 ·skip
  have Hr := hid (show askErr12 s fs most = c3 by unfold askErr12; rw [HC.out, if_pos (by simpa using h19)])
  refine nr ?_; intros; refine P2 ?_; clear sl1 sl2 sl9 sl19; refine lx [6] ?_; intro _ sl6; refine ln ?_; intros
  refine XW18b ?_; exact ⟨by rw [Hr.out], HB.out.toBelow⟩
 ·skip
  have H19 := hid (show ¬ c3 ≠ 0 by simpa using h19)
  refine nr ?_; intros
  refine P3 ?_
  clear sl9 sl19; refine lx [23] ?_; clear sl1 sl2; intro _ sl1 sl2 sl23; refine ln ?_; intros
  refine cond_E sl23 (by decide) ?_ ?_ <;> (clear sl23; intro h23 sl23)
  ·skip
   have Hr := hid (show askErr12 s fs most = 3 by unfold askErr12; rw [HC.out, if_neg H19.out, if_pos (by have h := h23; simp at h; omega)])
   refine nr ?_; intros; refine pl ?_; clear sl1 sl2 sl23; refine lx [6] ?_; intro _ sl6; refine ln ?_; intros
   refine XW18b ?_; exact ⟨by rw [Hr.out], HB.out.toBelow⟩
  ·skip
   have He0 := hid (show err0 s fs = 0 by unfold err0; rw [HC.out, if_neg H19.out, if_neg (by have h := h23; simp at h; omega)])
   have hf10 : fs.length ≤ 10 := by have h := h23; simp at h; omega
   refine nr ?_; intros
   refine P3 ?_
   clear sl1 sl23; refine lx [24,25,26] ?_; clear sl2; intro s11 sl2 sl24 sl25 sl26; refine ln ?_; intros
   have hc0_2 := hid sl2; have hc0_24 := hid sl24; have hc0_25 := hid sl25; refine loop_F (n := 46) (fun kJ sJ wJ => ∃ (i : Nat), kJ = fs.length - i ∧ sJ 26 = .int .i64 (i : Int) ∧ sJ 2 = s11 2 ∧ sJ 24 = s11 24 ∧ sJ 25 = s11 25 ∧ OldB [] w4 wJ ∧ i ≤ fs.length ∧ Hid (errU s fs i = 0)) ⟨0, rfl, (by first | exact sl26 | (rw [sl26]; go_num) | (rw [sl26]; rfl)), rfl, rfl, rfl, OldB.refl _ _, Nat.zero_le _, hid (by rw [errU_0]; exact He0.out)⟩ ?_; clear sl26; rintro kJ s12 w13 ⟨i, rfl, sl26, e2, e24, e25, hb, hil, HU⟩; replace sl2 := e2.trans sl2; clear e2; replace sl24 := e24.trans sl24; clear e24; replace sl25 := e25.trans sl25; clear e25; have hoJ := hb; clear qb3; revert HB; revert kb3; refine uO hb ?_; clear hb; intro kb3 qb3 HB; have HoJ := hid hoJ; clear hoJ; have HL15 := HoJ; clear HoJ
   refine nr ?_; intros; refine pl ?_; refine lx [27] ?_; clear sl2 sl24 sl25 sl26; intro _ sl2 sl24 sl25 sl26 sl27; refine ln ?_; intros
   refine cond_E sl27 (by decide) ?_ ?_ <;> (clear sl27; intro h27 sl27)
   ·skip
    have hi : i < fs.length := by simpa using h27
    have hii : (i : Int) < fs.length := by omega
    obtain ⟨b, off, hae, hbs, d0, d1, d2⟩ := RdFl.ne (Rd.oldB HF.out HB.out (by simp)) hi; subst hae; obtain ⟨y, hy⟩ : ∃ y, fs[i] = y := ⟨_, rfl⟩; rw [hy] at d0 d1 d2; have Hn := hid (errU_succ hi hy HU.out); clear hy
    refine nr ?_; intros; refine P2 ?_; refine pa (fun _ B11 hB kb11 hb => ?_); have gb11 := HB.out.gB hB; have lHL15_b11 := HL15.out.gB hB; have ob3_b11 := oB qb3 hB; have eb11 := eB hB; clear hB; clear qb3; revert HB; revert HL15; revert kb3; refine uA hb ?_; clear hb; intro kb3 qb3 HL15 HB; have qb11 := kb11.1; have cb11 := clx kb11; have zb11 := kb11.2.2; refine pl ?_; refine sto kb11 ?_; clear kb11 cb11 zb11; intro w19 kb11 hb; clear qb3 qb11; revert HB; revert HL15; revert kb3; refine uO hb ?_; clear hb; intro kb3 qb3 HL15 HB; have qb11 := kb11.1; clear sl27; refine lx [11] ?_; clear sl2 sl24 sl25 sl26; intro s21 sl2 sl24 sl25 sl26 sl11; refine ln ?_; intros
    have hj22_2 := hid sl2; have hj22_11 := hid sl11; have hj22_24 := hid sl24; have hj22_25 := hid sl25; have hj22_26 := hid sl26; refine cut_any (fun sJ wJ => sJ 30 = .bool (!inI y.done 0 1000 || !inI y.mask 1 16777215) ∧ sJ 2 = s21 2 ∧ sJ 11 = s21 11 ∧ sJ 24 = s21 24 ∧ sJ 25 = s21 25 ∧ sJ 26 = s21 26 ∧ OldB [] w19 wJ) ?_ ?_
    ·skip
     have HL23 := hid (OldB.refl [] w19); refine region_F ?_; refine pl ?_; have cb11 := clx kb11; refine pl ?_; refine cal (tout_any y.done 0 1000 _) ?_; rintro e w' ⟨rfl, rfl⟩; refine ⟨_, rfl, ?_⟩; refine pl ?_; refine lx [34] ?_; clear sl2 sl11 sl24 sl25 sl26; intro _ sl2 sl11 sl24 sl25 sl26 sl34
     refine boolG sl34 (fun sl34' h34 => ?_) (fun sl34' h34 => ?_) <;> (clear sl34; have sl34 := sl34'; clear sl34')
     ·skip
      refine pn true ?_; refine pn true ?_; refine pn true ?_; refine P2 ?_; clear sl34; refine lx [30] ?_; clear sl2 sl11 sl24 sl25 sl26; intro _ sl2 sl11 sl24 sl25 sl26 sl30; refine ln ?_; intros
      clear cb11; exact XW18c
     ·skip
      refine py ?_; refine py ?_; refine listF_yes rfl rfl (by decide) ?_ (fun K' hK => ?_); (focus (go_simp; done)); unfold opF; go_simp; refine (tout_any y.mask 1 16777215 _).mono ?_; rintro e w' ⟨rfl, rfl⟩; refine ⟨_, rfl, hK _ _ ?_⟩; clear hK K'; refine P2 ?_; clear sl34; refine lx [30,35,36,37] ?_; clear sl2 sl11 sl24 sl25 sl26; intro _ sl2 sl11 sl24 sl25 sl26 sl30 sl35 sl36 sl37; refine ln ?_; intros
      clear cb11; exact XW18c
    ·skip
     rintro s29 w30 ⟨sl30, e2, e11, e24, e25, e26, hb⟩; replace sl2 := e2.trans sl2; clear e2 hj22_2; replace sl11 := e11.trans sl11; clear e11 hj22_11; replace sl24 := e24.trans sl24; clear e24 hj22_24; replace sl25 := e25.trans sl25; clear e25 hj22_25; replace sl26 := e26.trans sl26; clear e26 hj22_26; clear qb3 qb11; revert HB; revert HL15; revert kb11; revert kb3; refine uO hb ?_; clear hb; intro kb3 qb3 kb11 qb11 HL15 HB
     refine zx ?_; intros
     refine cond_E sl30 (by decide) ?_ ?_ <;> (clear sl30; intro h30 sl30)
     ·skip
      have e7 : fErr y = 7 := by unfold fErr; rw [if_pos (by simpa using h30)]
      have hs9 := errU_stay (s := s) (fs := fs) (k := fs.length - (i + 1)) (i := i + 1) (by rw [Hn.out, e7]; decide) (by omega); rw [show i + 1 + (fs.length - (i + 1)) = fs.length by omega, Hn.out, e7] at hs9; have Hr := hid (show askErr12 s fs most = 7 by rw [ask_errU, if_pos (by rw [hs9]; decide), hs9]); clear hs9 e7
      refine nr ?_; intros; refine pl ?_; clear sl2 sl11 sl24 sl25 sl26 sl30; refine lx [6] ?_; intro _ sl6; refine ln ?_; intros
      refine XW18b ?_; exact ⟨by rw [Hr.out], HB.out.toBelow⟩
     ·skip
      have H30 := hid (show ¬ (inI y.done 0 1000 = false ∨ inI y.mask 1 16777215 = false) by have h := h30; simp at h; simp [h])
      refine nr ?_; intros; refine pl ?_; have cb11 := clx kb11; refine pl ?_; refine cal (tout_any y.addr 0 127 _) ?_; rintro e w' ⟨rfl, rfl⟩; refine ⟨_, rfl, ?_⟩; refine pl ?_; clear sl11 sl30; refine lx [39] ?_; clear sl2 sl24 sl25 sl26; intro _ sl2 sl24 sl25 sl26 sl39; refine ln ?_; intros
      refine cond_E sl39 (by decide) ?_ ?_ <;> (clear sl39; intro h39 sl39)
      ·skip
       have e4 : fErr y = 4 := by unfold fErr; rw [if_neg H30.out, if_pos (by unfold addrB; simpa using h39)]
       have hs9 := errU_stay (s := s) (fs := fs) (k := fs.length - (i + 1)) (i := i + 1) (by rw [Hn.out, e4]; decide) (by omega); rw [show i + 1 + (fs.length - (i + 1)) = fs.length by omega, Hn.out, e4] at hs9; have Hr := hid (show askErr12 s fs most = 4 by rw [ask_errU, if_pos (by rw [hs9]; decide), hs9]); clear hs9 e4
       refine nr ?_; intros; refine pl ?_; clear sl2 sl24 sl25 sl26 sl39; refine lx [6] ?_; intro _ sl6; refine ln ?_; intros
       refine XW18b ?_; exact ⟨by rw [Hr.out], HB.out.toBelow⟩
      ·skip
       have Hn0 := hid (show errU s fs (i + 1) = 0 by rw [Hn.out]; unfold fErr; rw [if_neg H30.out, if_neg (by unfold addrB; simpa using h39)])
       refine nr ?_; intros; refine P2 ?_; clear sl26 sl39; refine lx [26] ?_; clear sl2 sl24 sl25; intro _ sl2 sl24 sl25 sl26; refine ln ?_; intros
       clear cb11; refine ⟨_, _, rfl, ?_, i + 1, rfl, (rL sl26), (sl2.trans hc0_2.out.symm), (sl24.trans hc0_24.out.symm), (sl25.trans hc0_25.out.symm), HL15.out, by omega, hid Hn0.out⟩
       omega
   ·skip
    have hi : i = fs.length := by have h := h27; simp at h; omega
    have HUf := hid (show errU s fs fs.length = 0 by have h := HU.out; rw [hi] at h; exact h)
    refine zx ?_; intros
    clear HL15; clear hc0_2 hc0_24 hc0_25; refine region_F ?_; refine pl ?_; refine cal (tout_any most 0 1000 _) ?_; rintro e w' ⟨rfl, rfl⟩; refine ⟨_, rfl, ?_⟩; clear sl2 sl24 sl25 sl26 sl27; refine lx [45] ?_; intro _ sl45; refine ln ?_; intros
    refine cond_E sl45 (by decide) ?_ ?_ <;> (clear sl45; intro h45 sl45)
    ·skip
     have Hr := hid (show askErr12 s fs most = 7 by rw [ask_errU, if_neg (by rw [HUf.out]; decide), if_pos (by simpa using h45)])
     refine nr ?_; intros; refine pl ?_; clear sl45; refine lx [6] ?_; intro _ sl6; refine ln ?_; intros
     refine XW18b ?_; exact ⟨by rw [Hr.out], HB.out.toBelow⟩
    ·skip
     have Hr := hid (show askErr12 s fs most = 0 by rw [ask_errU, if_neg (by rw [HUf.out]; decide), if_neg (by simpa using h45)])
     refine nr ?_; intros; refine pl ?_; clear sl45; refine lx [6] ?_; intro _ sl6; refine ln ?_; intros
     refine XW18b ?_; exact ⟨by rw [Hr.out], HB.out.toBelow⟩

theorem XW18d {A B1 : Prop} (hX1 : B1) (e : B1 → A := by exact ret_F _ (res_t Tryz.results81 ((getD_F (by decide)).trans sl4))) : A := e hX1
theorem eqInts_any (al : Option Addr) (cl : Nat) (l : List Int) (am : Option Addr) (cm : Nat) (m : List Int) (w : World) (hRl : RdInts w al l) (hRm : RdInts w am m) (hll : l.length ≤ 9223372036854775807) (hlm : m.length ≤ 9223372036854775807) :
    Calls Tryz.prog 81 #[.slice al l.length cl, .slice am m.length cm] w (fun e w' => e = .returned (.bool (decide (l = m))) ∧ Below w.heap.size w w') := by
 have HRl := hid hRl; have HRm := hid hRm; clear hRl hRm
 refine enter_F Tryz.func81 rfl Tryz.ntmps81 (by simp) ?_
 intro s0 hs; have sl0 : s0 0 = .slice al l.length cl := hs 0 (by simp); have sl1 : s0 1 = .slice am m.length cm := hs 1 (by simp); clear hs; have HB := hid (OldB.refl [] w)
 refine nr ?_; intros; refine pl ?_; refine lx [] ?_; clear sl0 sl1; intro _ sl0 sl1; refine lr ?_; intros
 refine P5 ?_
 refine lx [10] ?_; clear sl0 sl1; intro _ sl0 sl1 sl10; refine ln ?_; intros
 refine cond_E sl10 (by decide) ?_ ?_ <;> (clear sl10; intro h10 sl10)
 ·skip
  have Hf := hid (show decide (l = m) = false from decide_eq_false (fun e => by have h := h10; rw [e] at h; simp at h))
  refine nr ?_; intros; refine pl ?_; clear sl0 sl1 sl10; refine lx [4] ?_; intro _ sl4; refine ln ?_; intros
  refine XW18d ?_; exact ⟨ret_bool Hf.out.symm, HB.out.toBelow⟩
 ·skip
  have hlen : (l.length : Int) = m.length := by have h := h10; simp at h; omega
  have Hlen := hid (show l.length = m.length by omega); clear hlen
  refine nr ?_; intros
  refine P3 ?_
  clear sl10; refine lx [12,13] ?_; clear sl0 sl1; intro s4 sl0 sl1 sl12 sl13; refine ln ?_; intros
  have hc0_0 := hid sl0; have hc0_1 := hid sl1; have hc0_12 := hid sl12; refine loop_F (n := 26) (fun kJ sJ wJ => ∃ (i : Nat), kJ = l.length - i ∧ sJ 13 = .int .i64 (i : Int) ∧ sJ 0 = s4 0 ∧ sJ 1 = s4 1 ∧ sJ 12 = s4 12 ∧ OldB [] w wJ ∧ i ≤ l.length ∧ Hid (l.take i = m.take i)) ⟨0, rfl, (by first | exact sl13 | (rw [sl13]; go_num) | (rw [sl13]; rfl)), rfl, rfl, rfl, OldB.refl _ _, Nat.zero_le _, hid rfl⟩ ?_; clear sl13; rintro kJ s5 w6 ⟨i, rfl, sl13, e0, e1, e12, hb, hil, Htk⟩; replace sl0 := e0.trans sl0; clear e0; replace sl1 := e1.trans sl1; clear e1; replace sl12 := e12.trans sl12; clear e12; have hoJ := hb; replace HB := mO HB hb; clear hb; have HoJ := hid hoJ; clear hoJ; have HL8 := HoJ; clear HoJ
  refine nr ?_; intros; refine pl ?_; refine lx [14] ?_; clear sl0 sl1 sl12 sl13; intro _ sl0 sl1 sl12 sl13 sl14; refine ln ?_; intros
  refine cond_E sl14 (by decide) ?_ ?_ <;> (clear sl14; intro h14 sl14)
  ·skip
   have hi : i < l.length := by simpa using h14
   have hii : (i : Int) < l.length := by omega
   have hi2 : i < m.length := by have := Hlen.out; omega
   have hii2 : (i : Int) < m.length := by omega
   obtain ⟨bl, ol, hal, hbl, c0⟩ := RdInts.ne (Rd.oldB HRl.out HB.out (by simp)) hi; subst hal; obtain ⟨bm, om, ham, hbm, d0⟩ := RdInts.ne (Rd.oldB HRm.out HB.out (by simp)) hi2; subst ham; obtain ⟨y, hy⟩ : ∃ z, l[i] = z := ⟨_, rfl⟩; obtain ⟨z, hz⟩ : ∃ z, m[i] = z := ⟨_, rfl⟩; rw [hy] at c0; rw [hz] at d0; have Hy := hid hy; have Hz := hid hz; clear hy hz
   refine nr ?_; intros; refine P2 ?_; clear sl14; refine lx [5] ?_; clear sl0 sl1 sl12 sl13; intro _ sl0 sl1 sl12 sl13 sl5; refine ln ?_; intros
   refine rgQ 8 [?_,?_,?_,?_,?_,?_,?_,?_] ?walk16 ?dep16
   case walk16 =>
    iterate 8 refine rq ?_
    refine walkR_nil (fun X hX w11 hwz hcz => ?_); clear hX hcz
    (try clear X)
    skip; have hb := hwz.unDrew; clear hwz; revert HB; revert HL8; refine zO hb ?_; clear hb; intro HL8 HB; refine pl ?_; clear sl5; refine lx [24] ?_; clear sl0 sl1 sl12 sl13; intro _ sl0 sl1 sl12 sl13 sl24; refine ln ?_; intros
    refine cond_E sl24 (by decide) ?_ ?_ <;> (clear sl24; intro h24 sl24)
    ·skip
     have Hf := hid (show decide (l = m) = false from decide_eq_false (fun e => by subst e; have h := h24; rw [← Hy.out, ← Hz.out] at h; simp at h))
     refine nr ?_; intros; refine pl ?_; clear sl0 sl1 sl12 sl13 sl24; refine lx [4] ?_; intro _ sl4; refine ln ?_; intros
     refine XW18d ?_; exact ⟨ret_bool Hf.out.symm, HB.out.toBelow⟩
    ·skip
     have hyz : y = z := by have h := h24; simp at h; exact h
     refine nr ?_; intros; refine P2 ?_; clear sl13 sl24; refine lx [13] ?_; clear sl0 sl1 sl12; intro _ sl0 sl1 sl12 sl13; refine ln ?_; intros
     refine ⟨_, _, rfl, ?_, i + 1, rfl, (rL sl13), (sl0.trans hc0_0.out.symm), (sl1.trans hc0_1.out.symm), (sl12.trans hc0_12.out.symm), HL8.out, by omega, hid (take_more hi hi2 Htk.out (by rw [Hy.out, Hz.out, hyz]))⟩
     omega
   case dep16 => exact dA
  ·skip
   have hi : i = l.length := by have h := h14; simp at h; omega
   have Hf := hid (show decide (l = m) = true from decide_eq_true (by have h1 := Htk.out; rw [hi, List.take_length, Hlen.out, List.take_length] at h1; exact h1))
   refine zx ?_; intros
   clear HL8; clear hc0_0 hc0_1 hc0_12; refine region_F ?_; refine pl ?_; clear sl0 sl1 sl12 sl13 sl14; refine lx [4] ?_; intro _ sl4; refine ln ?_; intros
   refine XW18d ?_; exact ⟨ret_bool Hf.out.symm, HB.out.toBelow⟩

theorem XW18e {A : Prop} (e : A := by exact ⟨trv, _, rfl, (by rw [sl4]; congr 1; rw [Bool.eq_iff_iff, decide_eq_true_eq, st_eq]; simp [g10, g17, g24, g31, g38, g45, g52]), HL7.out⟩) : A := e
theorem tequal_any (s : St4) (A : SA) (t : St4) (B : SA) (w : World) (hR : RdSt w s A) (hQ : RdSt w t B) (hL : LenI s) (hM : LenI t) :
    Calls Tryz.prog 47 #[.agg #[.slice A.sa s.store.length A.sc, .slice A.ta s.tape.length A.tc, .int .i64 s.taken, .slice A.pa s.printed.length A.pc, .int .i64 s.time, .int .i64 s.pc, .int .i64 s.done, .int .i64 s.why], .agg #[.slice B.sa t.store.length B.sc, .slice B.ta t.tape.length B.tc, .int .i64 t.taken, .slice B.pa t.printed.length B.pc, .int .i64 t.time, .int .i64 t.pc, .int .i64 t.done, .int .i64 t.why]] w (fun e w' => e = .returned (.bool (decide (s = t))) ∧ Below w.heap.size w w') := by
 have HR := hid hR; have HQ := hid hQ; clear hR hQ; obtain ⟨l0, l1, l2⟩ := hL; obtain ⟨m0, m1, m2⟩ := hM
 refine enter_F Tryz.func47 rfl Tryz.ntmps47 (by simp) ?_
 intro s0 hs; have sl0 : s0 0 = .agg #[.slice A.sa s.store.length A.sc, .slice A.ta s.tape.length A.tc, .int .i64 s.taken, .slice A.pa s.printed.length A.pc, .int .i64 s.time, .int .i64 s.pc, .int .i64 s.done, .int .i64 s.why] := hs 0 (by simp); have sl1 : s0 1 = .agg #[.slice B.sa t.store.length B.sc, .slice B.ta t.tape.length B.tc, .int .i64 t.taken, .slice B.pa t.printed.length B.pc, .int .i64 t.time, .int .i64 t.pc, .int .i64 t.done, .int .i64 t.why] := hs 1 (by simp); clear hs; have HB := hid (OldB.refl [] w)
 refine nr ?_; intros; refine pa (fun _ B2 hB kb2 hb => ?_); have gb2 := HB.out.gB hB; have eb2 := eB hB; clear hB; replace HB := bE HB hb; clear hb; have qb2 := kb2.1; refine pa (fun w3 B3 hB kb3 hb => ?_); have gb3 := HB.out.gB hB; have ob2_b3 := oB qb2 hB; have eb3 := eB hB; clear hB; clear qb2; revert HB; revert kb2; refine uA hb ?_; clear hb; intro kb2 qb2 HB; have qb3 := kb3.1; refine pl ?_; clear sl0 sl1; refine lx [2,3] ?_; intro _ sl2 sl3; refine ln ?_; intros
 refine cut_any (fun sJ wJ => sJ 4 = .bool (decide (s = t)) ∧ OldB [] w3 wJ) ?_ ?_
 ·skip
  have HL7 := hid (OldB.refl [] w3); refine region_F ?_; refine pl ?_; have cb2 := clx kb2; refine P2 ?_; have cb3 := clx kb3; refine pl ?_; refine cal (eqInts_any A.sa A.sc s.store B.sa B.sc t.store _ (Rd.oldB HR.out.st HB.out (by simp)) (Rd.oldB HQ.out.st HB.out (by simp)) l0 m0) ?_; rintro e _ ⟨rfl, hb⟩; refine ⟨_, rfl, ?_⟩; clear cb2 cb3
  clear qb2 qb3; revert HB; revert HL7; revert kb3; revert kb2; refine uA hb ?_; clear hb; intro kb2 qb2 kb3 qb3 HL7 HB; refine pl ?_; refine lx [10] ?_; clear sl2 sl3; intro _ sl2 sl3 sl10
  refine boolG sl10 (fun sl10' h10 => ?_) (fun sl10' h10 => ?_) <;> (clear sl10; have sl10 := sl10'; clear sl10')
  ·skip
   have g10 : s.store = t.store := by simpa using h10
   refine py ?_; have cb2 := clx kb2; refine py ?_; refine py ?_; have cb3 := clx kb3; refine py ?_; refine listF_yes rfl rfl (by decide) ?_ (fun K' hK => ?_); (focus (go_simp; done)); unfold opF; go_simp; refine (eqInts_any A.ta A.tc s.tape B.ta B.tc t.tape _ (Rd.oldB HR.out.tp HB.out (by simp)) (Rd.oldB HQ.out.tp HB.out (by simp)) l1 m1).mono ?_; rintro e _ ⟨rfl, hb⟩; refine ⟨_, rfl, hK _ _ ?_⟩; clear hK K'; clear cb2 cb3
   clear qb2 qb3; revert HB; revert HL7; revert kb3; revert kb2; refine uA hb ?_; clear hb; intro kb2 qb2 kb3 qb3 HL7 HB; refine P2 ?_; clear sl10; refine lx [17] ?_; clear sl2 sl3; intro _ sl2 sl3 sl17
   refine boolG sl17 (fun sl17' h17 => ?_) (fun sl17' h17 => ?_) <;> (clear sl17; have sl17 := sl17'; clear sl17')
   ·skip
    have g17 : s.tape = t.tape := by simpa using h17
    refine py ?_; have cb2 := clx kb2; refine py ?_; refine py ?_; have cb3 := clx kb3; refine py ?_; refine listF_yes rfl rfl (by decide) ?_ (fun K' hK => ?_); (focus (go_simp; done)); unfold opF; go_simp; refine (eqInts_any A.pa A.pc s.printed B.pa B.pc t.printed _ (Rd.oldB HR.out.pr HB.out (by simp)) (Rd.oldB HQ.out.pr HB.out (by simp)) l2 m2).mono ?_; rintro e _ ⟨rfl, hb⟩; refine ⟨_, rfl, hK _ _ ?_⟩; clear hK K'; clear cb2 cb3
    clear qb2 qb3; revert HB; revert HL7; revert kb3; revert kb2; refine uA hb ?_; clear hb; intro kb2 qb2 kb3 qb3 HL7 HB; refine P2 ?_; clear sl17; refine lx [24] ?_; clear sl2 sl3; intro _ sl2 sl3 sl24
    refine boolG sl24 (fun sl24' h24 => ?_) (fun sl24' h24 => ?_) <;> (clear sl24; have sl24 := sl24'; clear sl24')
    ·skip
     have g24 : s.printed = t.printed := by simpa using h24
     refine py ?_; have cb2 := clx kb2; refine py ?_; refine py ?_; have cb3 := clx kb3; refine py ?_; refine py ?_; refine P2 ?_; clear sl24; refine lx [31] ?_; clear sl2 sl3; intro _ sl2 sl3 sl31
     refine boolG sl31 (fun sl31' h31 => ?_) (fun sl31' h31 => ?_) <;> (clear sl31; have sl31 := sl31'; clear sl31')
     ·skip
      have g31 : s.taken = t.taken := by simpa using h31
      iterate 5 refine py ?_
      refine P2 ?_; clear sl31; refine lx [38] ?_; clear sl2 sl3; intro _ sl2 sl3 sl38
      refine boolG sl38 (fun sl38' h38 => ?_) (fun sl38' h38 => ?_) <;> (clear sl38; have sl38 := sl38'; clear sl38')
      ·skip
       have g38 : s.time = t.time := by simpa using h38
       iterate 5 refine py ?_
       refine P2 ?_; clear sl38; refine lx [45] ?_; clear sl2 sl3; intro _ sl2 sl3 sl45
       refine boolG sl45 (fun sl45' h45 => ?_) (fun sl45' h45 => ?_) <;> (clear sl45; have sl45 := sl45'; clear sl45')
       ·skip
        have g45 : s.pc = t.pc := by simpa using h45
        iterate 5 refine py ?_
        refine P2 ?_; clear sl45; refine lx [52] ?_; clear sl2 sl3; intro _ sl2 sl3 sl52
        refine boolG sl52 (fun sl52' h52 => ?_) (fun sl52' h52 => ?_) <;> (clear sl52; have sl52 := sl52'; clear sl52')
        ·skip
         have g52 : s.done = t.done := by simpa using h52
         iterate 5 refine py ?_
         refine P2 ?_; clear sl2 sl3 sl52; refine lx [4] ?_; intro _ sl4; refine ln ?_; intros
         clear cb2 cb3; exact XW18e
        ·skip
         have g52 : ¬ (s.done = t.done) := by simpa using h52
         refine F5 ?_; refine P2 ?_; clear sl2 sl3 sl52; refine lx [4] ?_; intro _ sl4; refine ln ?_; intros
         clear cb2 cb3; exact XW18e
       ·skip
        have g45 : ¬ (s.pc = t.pc) := by simpa using h45
        refine F5 ?_; refine P2 ?_
        refine F5 ?_; refine P2 ?_; clear sl2 sl3 sl45; refine lx [4] ?_; intro _ sl4; refine ln ?_; intros
        clear cb2 cb3; exact ⟨trv, _, rfl, (by rw [sl4]; congr 1; rw [Bool.eq_iff_iff, decide_eq_true_eq, st_eq]; simp [g10, g17, g24, g31, g38, g45]), HL7.out⟩
      ·skip
       have g38 : ¬ (s.time = t.time) := by simpa using h38
       refine F5 ?_; refine P2 ?_
       refine F5 ?_; refine P2 ?_
       refine F5 ?_; refine P2 ?_; clear sl2 sl3 sl38; refine lx [4] ?_; intro _ sl4; refine ln ?_; intros
       clear cb2 cb3; exact ⟨trv, _, rfl, (by rw [sl4]; congr 1; rw [Bool.eq_iff_iff, decide_eq_true_eq, st_eq]; simp [g10, g17, g24, g31, g38]), HL7.out⟩
     ·skip
      have g31 : ¬ (s.taken = t.taken) := by simpa using h31
      refine F5 ?_; refine P2 ?_
      refine F5 ?_; refine P2 ?_
      refine F5 ?_; refine P2 ?_
      refine F5 ?_; refine P2 ?_; clear sl2 sl3 sl31; refine lx [4] ?_; intro _ sl4; refine ln ?_; intros
      clear cb2 cb3; exact ⟨trv, _, rfl, (by rw [sl4]; congr 1; rw [Bool.eq_iff_iff, decide_eq_true_eq, st_eq]; simp [g10, g17, g24, g31]), HL7.out⟩
    ·skip
     have g24 : ¬ (s.printed = t.printed) := by simpa using h24
     refine F5 ?_; refine P2 ?_
     refine F5 ?_; refine P2 ?_
     refine F5 ?_; refine P2 ?_
     refine F5 ?_; refine P2 ?_
     refine F5 ?_; refine P2 ?_; clear sl2 sl3 sl24; refine lx [4] ?_; intro _ sl4; refine ln ?_; intros
     exact ⟨trv, _, rfl, (by rw [sl4]; congr 1; rw [Bool.eq_iff_iff, decide_eq_true_eq, st_eq]; simp [g10, g17, g24]), HL7.out⟩
   ·skip
    have g17 : ¬ (s.tape = t.tape) := by simpa using h17
    refine F5 ?_; refine P2 ?_
    refine F5 ?_; refine P2 ?_
    refine F5 ?_; refine P2 ?_
    refine F5 ?_; refine P2 ?_
    refine F5 ?_; refine P2 ?_
    refine F5 ?_; refine P2 ?_; clear sl2 sl3 sl17; refine lx [4] ?_; intro _ sl4; refine ln ?_; intros
    exact ⟨trv, _, rfl, (by rw [sl4]; congr 1; rw [Bool.eq_iff_iff, decide_eq_true_eq, st_eq]; simp [g10, g17]), HL7.out⟩
  ·skip
   have g10 : ¬ (s.store = t.store) := by simpa using h10
   refine F5 ?_; refine P2 ?_
   refine F5 ?_; refine P2 ?_
   refine F5 ?_; refine P2 ?_
   refine F5 ?_; refine P2 ?_
   refine F5 ?_; refine P2 ?_
   refine F5 ?_; refine P2 ?_
   refine F5 ?_; refine P2 ?_; clear sl2 sl3 sl10; refine lx [4] ?_; intro _ sl4; refine ln ?_; intros
   exact ⟨trv, _, rfl, (by rw [sl4]; congr 1; rw [Bool.eq_iff_iff, decide_eq_true_eq, st_eq]; simp [g10]), HL7.out⟩
 ·skip
  clear sl2 sl3; rintro s29 w30 ⟨sl4, hb⟩; clear qb2 qb3; revert HB; revert kb3; revert kb2; refine uO hb ?_; clear hb; intro kb2 qb2 kb3 qb3 HB
  refine zx ?_; intros
  refine ret_F _ (res_t Tryz.results47 ((getD_F (by decide)).trans sl4)) ?_; exact ⟨rfl, HB.out.toBelow⟩

end Go.Proofs.YtleknidlgmmgbaaGreat
