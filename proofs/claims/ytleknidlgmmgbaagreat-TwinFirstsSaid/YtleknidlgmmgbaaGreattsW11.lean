/- The program's order: Check, Clone. -/
import Derived.Test.YtleknidlgmmgbaaGreattsW10
import Derived.Test.YtleknidlgmmgbaaGreattsCZ
set_option linter.all false
set_option maxRecDepth 100000
set_option maxHeartbeats 16000000
namespace Go.Proofs.YtleknidlgmmgbaaGreat

open Go.RowKit


abbrev notW : Int → Bool := fun n => !inI n 0 16777215
theorem odd_idx (l : List Int) : oddI l = idxOf notW l := by
  unfold idxOf
  cases hf : l.findIdx? notW with
  | none =>
    rw [List.findIdx?_eq_none_iff] at hf; exact oddU_none (fun j hj => by have := hf _ (getD_in (d := 0) hj); unfold wordB; simpa [notW] using this)
  | some i =>
    obtain ⟨h, h1, h2⟩ := List.findIdx?_eq_some_iff_getElem.1 hf; exact oddU_found h (fun j hj => by have := h2 j hj; unfold wordB; rw [getD_get (by omega)]; simpa [notW] using this) (by unfold wordB; rw [getD_get h]; simpa [notW] using h1)
theorem tm16 (a b : Int) : (a - b).tmod 16 = 0 ↔ a % 16 = b % 16 := by
  constructor
  · intro h
    have h1 := Int.mul_tdiv_add_tmod (a - b) 16
    omega
  · intro h
    exact Int.tmod_eq_zero_of_dvd (Int.dvd_of_emod_eq_zero (by omega))

theorem ocheck1_any (n : Int) (w : World) :
    Calls Tryz.prog 103 #[.int .i64 n] w (fun e w' => e = .returned (.bool (notW n)) ∧ Below w.heap.size w w') := by
 refine enter_F Tryz.func103 rfl Tryz.ntmps103 (by simp) ?_
 intro s0 hs; have sl0 : s0 0 = .int .i64 n := hs 0 (by simp); clear hs; have HB := hid (OldB.refl [] w)
 refine nr ?_; intros; refine pl ?_; refine lx [] ?_; clear sl0; intro _ sl0; refine lr ?_; intros; refine pl ?_; refine pas (fun _ B4 hB kb4 hb => ?_); have gb4 := HB.out.gB hB; have eb4 := eB hB; clear hB; replace HB := bE HB hb; clear hb; have qb4 := kb4.1; refine cal (oout_1 16777215 n B4 1 _ kb4) ?_; rintro e _ ⟨rfl, hb⟩; refine ⟨_, rfl, ?_⟩; clear qb4; revert HB; revert kb4; refine uA hb ?_; clear hb; intro kb4 qb4 HB; refine pl ?_; clear sl0; refine lx [2] ?_; intro _ sl2; refine ln ?_; intros
 refine ret_F _ (res_t Tryz.results103 ((getD_F (by decide)).trans sl2)) ?_; exact ⟨rfl, HB.out.toBelow⟩

theorem idxWord_any (a : Option Addr) (c : Nat) (l : List Int)  (w : World) (hl : l.length ≤ 9223372036854775807) (hR : RdInts w a l)  :
    Calls Tryz.prog 102 #[.slice a l.length c, .func (.func 103) #[] #[]] w (fun e w' => e = .returned (.int .i64 (idxOf notW l)) ∧ Below w.heap.size w w') := by
 have HR := hid hR; clear hR
 refine enter_F Tryz.func102 rfl Tryz.ntmps102 (by simp) ?_
 intro s0 hs; have sl0 : s0 0 = .slice a l.length c := hs 0 (by simp); have sl1 : s0 1 = .func (.func 103) #[] #[] := hs 1 (by simp); clear hs; have HB := hid (OldB.refl [] w)
 refine nr ?_; intros; refine pl ?_; refine lx [] ?_; clear sl0 sl1; intro s1 sl0 sl1; refine lr ?_; intros
 refine P3 ?_
 refine lx [7,8] ?_; clear sl0 sl1; intro s2 sl0 sl1 sl7 sl8; refine ln ?_; intros
 have hc0_0 := hid sl0; have hc0_1 := hid sl1; have hc0_7 := hid sl7; refine loop_F (n := 19) (fun kJ sJ wJ => ∃ (k : Nat), kJ = l.length - k ∧ sJ 8 = .int .i64 (k : Int) ∧ sJ 0 = s2 0 ∧ sJ 1 = s2 1 ∧ sJ 7 = s2 7 ∧ OldB [] w wJ ∧ k ≤ l.length ∧ Hid ((l.take k).any notW = false)) ⟨0, rfl, (by first | exact sl8 | (rw [sl8]; go_num) | (rw [sl8]; rfl)), rfl, rfl, rfl, OldB.refl _ _, Nat.zero_le _, hid rfl⟩ ?_; clear sl8; rintro kJ s3 w4 ⟨k, rfl, sl8, e0, e1, e7, hb5, hkl, hno⟩; replace sl0 := e0.trans sl0; clear e0; replace sl1 := e1.trans sl1; clear e1; replace sl7 := e7.trans sl7; clear e7; have hoJ := hb5; replace HB := mO HB hb5; clear hb5; have HoJ := hid hoJ; clear hoJ; have HL6 := HoJ; clear HoJ
 refine nr ?_; intros; refine pl ?_; refine lx [9] ?_; clear sl0 sl1 sl7 sl8; intro s7 sl0 sl1 sl7 sl8 sl9; refine ln ?_; intros
 refine cond_E sl9 (by decide) ?_ ?_ <;> (clear sl9; intro h9 sl9)
 ·skip
  have hlt : k < l.length := by simpa using h9
  obtain ⟨b, off, rfl, hb, h0⟩ := RdInts.ne (Rd.oldB HR.out HB.out (by simp)) hlt
  refine nr ?_; intros; refine P2 ?_; clear sl9; refine lx [5] ?_; clear sl0 sl1 sl7 sl8; intro s8 sl0 sl1 sl7 sl8 sl5; refine lr ?_; intros
  refine P5 ?_
  refine cal (ocheck1_any l[k] _) ?_; rintro e w9 ⟨rfl, hb10⟩; refine ⟨_, rfl, ?_⟩; revert HB; revert HL6; refine zA hb10 ?_; clear hb10; intro HL6 HB; refine lx [16] ?_; clear sl0 sl1 sl5 sl7 sl8; intro s11 sl0 sl1 sl5 sl7 sl8 sl16; refine ln ?_; intros
  refine cond_E sl16 (by decide) ?_ ?_ <;> (clear sl16; intro h16 sl16)
  ·skip
   have Hpk := hid (idx_found hlt hno.out h16)
   refine nr ?_; intros; refine P2 ?_; clear sl0 sl1 sl5 sl7 sl8 sl16; refine lx [4] ?_; intro s12 sl4; refine ln ?_; intros
   refine ret_F _ (res_t Tryz.results102 ((getD_F (by decide)).trans sl4)) ?_; exact ⟨ret_int Hpk.out.symm, HB.out.toBelow⟩
  ·skip
   have hpk := hid h16
   refine nr ?_; intros; refine P2 ?_; clear sl8 sl5 sl16; refine lx [8] ?_; clear sl0 sl1 sl7; intro s13 sl0 sl1 sl7 sl8; refine ln ?_; intros
   refine ⟨_, _, rfl, ?_, k + 1, rfl, (rL sl8), (sl0.trans hc0_0.out.symm), (sl1.trans hc0_1.out.symm), (sl7.trans hc0_7.out.symm), HL6.out, by omega, hid (by rw [any_take_succ _ _ _ hlt, hno.out, hpk.out]; rfl)⟩
   omega
 ·skip
  have hge : l.length ≤ k := by simpa using h9
  have hno2 : l.any notW = false := by have := hno.out; rwa [List.take_of_length_le hge] at this
  have Hno := hid hno2; clear hno2
  refine zx ?_; intros
  clear HL6; clear hc0_0 hc0_1 hc0_7; refine region_F ?_; refine pl ?_; clear sl0 sl1 sl7 sl8 sl9; refine lx [4] ?_; intro s14 sl4; refine ln ?_; intros
  refine ret_F _ (res_t Tryz.results102 ((getD_F (by decide)).trans sl4)) ?_; exact ⟨ret_int (idx_none Hno.out).symm, HB.out.toBelow⟩

theorem XW11b {A B1 : Prop} (hX1 : B1) (e : B1 → A := by exact ret_F _ (res_ttt Tryz.results75 ((getD_F (by decide)).trans sl2) ((getD_F (by decide)).trans sl3) ((getD_F (by decide)).trans sl4))) : A := e hX1
theorem XW11c {A : Prop} (e : A := by exact ⟨trv, _, rfl, (by rw [sl45]; unfold numB addrB; congr 1; have g53 := h53; simp at g53; have g59 := h59; simp at g59; have g65 := h65; simp at g65; have g73 := h73; simp at g73;  simp [g53, g59, g65, g73]), (sl1.trans hj44_1.out.symm), HL45.out⟩) : A := e
theorem ocheck_any (s : St4) (A : SA) (w : World) (hR : RdSt w s A) (hL : LenI s) :
    Calls Tryz.prog 75 #[.agg #[.slice A.sa s.store.length A.sc, .slice A.ta s.tape.length A.tc, .int .i64 s.taken, .slice A.pa s.printed.length A.pc, .int .i64 s.time, .int .i64 s.pc, .int .i64 s.done, .int .i64 s.why]] w (fun e w' => e = .returned (.tuple #[.int .i64 (chk4 s).1, .int .i64 (chk4 s).2.1, .int .i64 (chk4 s).2.2]) ∧ Below w.heap.size w w') := by
 have HR := hid hR; clear hR; obtain ⟨l0, l1, l2⟩ := hL
 refine enter_F Tryz.func75 rfl Tryz.ntmps75 (by simp) ?_
 intro s0 hs; have sl0 : s0 0 = .agg #[.slice A.sa s.store.length A.sc, .slice A.ta s.tape.length A.tc, .int .i64 s.taken, .slice A.pa s.printed.length A.pc, .int .i64 s.time, .int .i64 s.pc, .int .i64 s.done, .int .i64 s.why] := hs 0 (by simp); clear hs; have HB := hid (OldB.refl [] w)
 refine nr ?_; intros; refine pa (fun w1 B1 hB kb1 hb2 => ?_); have gb1 := HB.out.gB hB; have eb1 := eB hB; clear hB; replace HB := bE HB hb2; clear hb2; have qb1 := kb1.1
 refine P3 ?_
 clear sl0; refine lx [1] ?_; intro s3 sl1; refine ln ?_; intros
 have hj4_1 := hid sl1; refine cut_any (fun sJ wJ => sJ 23 = .bool (decide (s.store.length ≠ 128 ∨ 200 < s.tape.length ∨ 200 < s.printed.length)) ∧ sJ 1 = s3 1 ∧ OldB [] w1 wJ) ?_ ?_
 ·skip
  have HL5 := hid (OldB.refl [] w1); refine region_F ?_; refine pl ?_; have cb1 := clx kb1
  refine P4 ?_
  refine lx [12] ?_; clear sl1; intro _ sl1 sl12
  refine boolG sl12 (fun sl12' h12 => ?_) (fun sl12' h12 => ?_) <;> (clear sl12; have sl12 := sl12'; clear sl12')
  ·skip
   refine pn true ?_
   refine pn true ?_; refine pn true ?_; refine pn true ?_; refine P2 ?_
   refine pn true ?_
   refine pn true ?_; refine pn true ?_; refine pn true ?_; refine pl ?_; clear sl12; refine lx [23] ?_; clear sl1; intro _ sl1 sl23; refine ln ?_; intros
   clear cb1; exact ⟨trv, _, rfl, (by rw [sl23]; congr 1; rw [Bool.eq_iff_iff]; have h := h12; simp at h; simp [h]; try omega), (sl1.trans hj4_1.out.symm), HL5.out⟩
  ·skip
   iterate 4 refine py ?_
   refine P2 ?_; clear sl12; refine lx [18] ?_; clear sl1; intro _ sl1 sl18
   refine boolG sl18 (fun sl18' h18 => ?_) (fun sl18' h18 => ?_) <;> (clear sl18; have sl18 := sl18'; clear sl18')
   ·skip
    refine pn true ?_
    refine pn true ?_; refine pn true ?_; refine pn true ?_; refine pl ?_; clear sl18; refine lx [23] ?_; clear sl1; intro _ sl1 sl23; refine ln ?_; intros
    clear cb1; exact ⟨trv, _, rfl, (by rw [sl23]; congr 1; rw [Bool.eq_iff_iff]; have h := h18; simp at h; simp [h]; try omega), (sl1.trans hj4_1.out.symm), HL5.out⟩
   ·skip
    iterate 4 refine py ?_
    refine pl ?_; clear sl18; refine lx [23] ?_; clear sl1; intro _ sl1 sl23; refine ln ?_; intros
    clear cb1; exact ⟨trv, _, rfl, (by rw [sl23]; congr 1; rw [Bool.eq_iff_iff]; have h := h18; have h2 := h12; simp at h h2; simp; omega), (sl1.trans hj4_1.out.symm), HL5.out⟩
 ·skip
  rintro s11 w12 ⟨sl23, e1, hb13⟩; replace sl1 := e1.trans sl1; clear e1 hj4_1; clear qb1; revert HB; revert kb1; refine uO hb13 ?_; clear hb13; intro kb1 qb1 HB
  refine zx ?_; intros
  refine cond_E sl23 (by decide) ?_ ?_ <;> (clear sl23; intro h23 sl23)
  ·skip
   have Hc := hid (chk_1 (show (s.store.length ≠ 128 ∨ 200 < s.tape.length ∨ 200 < s.printed.length) by simpa using h23))
   refine nr ?_; intros
   refine P3 ?_
   clear sl1 sl23; refine lx [2,3,4] ?_; intro _ sl2 sl3 sl4; refine ln ?_; intros
   refine XW11b ?_; exact ⟨by rw [Hc.out] <;> rfl, HB.out.toBelow⟩
  ·skip
   have H1 := hid (show ¬ (s.store.length ≠ 128 ∨ 200 < s.tape.length ∨ 200 < s.printed.length) by simpa using h23)
   refine nr ?_; intros; refine pl ?_; have cb1 := clx kb1
   refine P5 ?_
   refine pas (fun w15 B30 hB kb30 hb16 => ?_); have gb30 := HB.out.gB hB; have ob1_b30 := oB qb1 hB; have eb30 := eB hB; clear hB; clear cb1; clear qb1; revert HB; revert kb1; refine uA hb16 ?_; clear hb16; intro kb1 qb1 HB; have qb30 := kb30.1; refine P2 ?_; clear sl23; refine lx [30,31,32] ?_; clear sl1; intro s17 sl1 sl30 sl31 sl32; refine ln ?_; intros
   have hc0_1 := hid sl1; have hc0_30 := hid sl30; have hc0_31 := hid sl31; refine loop_F (n := 87) (fun kJ sJ wJ => ∃ (i : Nat), kJ = 3 - i ∧ sJ 32 = .int .i64 (i : Int) ∧ sJ 1 = s17 1 ∧ sJ 30 = s17 30 ∧ sJ 31 = s17 31 ∧ OldB [] w15 wJ ∧ i ≤ 3 ∧ (Hid ((0 < i → oddI s.store < 0) ∧ (1 < i → oddI s.tape < 0) ∧ (2 < i → oddI s.printed < 0)))) ⟨0, rfl, (by first | exact sl32 | (rw [sl32]; go_num) | (rw [sl32]; rfl)), rfl, rfl, rfl, OldB.refl _ _, by omega, hid ⟨fun h => by omega, fun h => by omega, fun h => by omega⟩⟩ ?_; clear sl32; rintro kJ s18 w19 ⟨i, rfl, sl32, e1, e30, e31, hb20, hi4, Ha⟩; replace sl1 := e1.trans sl1; clear e1; replace sl30 := e30.trans sl30; clear e30; replace sl31 := e31.trans sl31; clear e31; have hoJ := hb20; clear qb1 qb30; revert HB; revert kb30; revert kb1; refine uO hb20 ?_; clear hb20; intro kb1 qb1 kb30 qb30 HB; have HoJ := hid hoJ; clear hoJ; have HL21 := HoJ; clear HoJ
   refine nr ?_; intros; refine pl ?_; refine lx [33] ?_; clear sl1 sl30 sl31 sl32; intro s22 sl1 sl30 sl31 sl32 sl33; refine ln ?_; intros
   refine cond_E sl33 (by decide) ?_ ?_ <;> (clear sl33; intro h33 sl33)
   ·skip
    have hi3 : i < 3 := by have h := h33; simp at h; omega
    refine zx ?_; intros
    rcases (show i = 0 ∨ i = 1 ∨ i = 2 by omega) with rfl | rfl | rfl
    ·skip
     refine region_F ?_; refine P2 ?_; have cj := kb30.cell 0 rfl
     refine P3 ?_
     clear sl33; refine lx [5,6] ?_; clear sl1 sl30 sl31 sl32; intro _ sl1 sl30 sl31 sl32 sl5 sl6; refine lr ?_; intros; refine pl ?_; refine cal (idxWord_any A.sa A.sc s.store _ l0 (Rd.oldB HR.out.st HB.out (by simp))) ?_; rintro e _ ⟨rfl, hb25⟩; rw [← odd_idx]; refine ⟨_, rfl, ?_⟩; clear qb1 qb30; revert HB; revert HL21; revert kb30; revert kb1; refine uA hb25 ?_; clear hb25; intro kb1 qb1 kb30 qb30 HL21 HB; refine pl ?_; clear sl6; refine lx [7] ?_; clear sl1 sl5 sl30 sl31 sl32; intro _ sl1 sl5 sl30 sl31 sl32 sl7; refine lr ?_; intros; refine P2 ?_; refine lx [40] ?_; clear sl1 sl5 sl7 sl30 sl31 sl32; intro _ sl1 sl5 sl7 sl30 sl31 sl32 sl40; refine ln ?_; intros
     refine cond_E sl40 (by decide) ?_ ?_ <;> (clear sl40; intro h40 sl40)
     ·skip
      have g0 : 0 ≤ oddI s.store := by simpa using h40
      have Hc := hid (chk_2 H1.out g0)
      refine nr ?_; intros
      refine P6 ?_
      clear sl1 sl5 sl7 sl30 sl31 sl32 sl40; refine lx [2,3,4] ?_; intro _ sl2 sl3 sl4; refine ln ?_; intros
      refine XW11b ?_; exact ⟨by rw [Hc.out] <;> rfl, HB.out.toBelow⟩
     ·skip
      have g0 : oddI s.store < 0 := by have h := h40; simp at h; exact h
      refine nr ?_; intros; refine P2 ?_; clear sl32 sl5 sl7 sl40; refine lx [32] ?_; clear sl1 sl30 sl31; intro _ sl1 sl30 sl31 sl32; refine ln ?_; intros
      refine ⟨_, _, rfl, ?_, 0 + 1, rfl, (rL sl32), (sl1.trans hc0_1.out.symm), (sl30.trans hc0_30.out.symm), (sl31.trans hc0_31.out.symm), HL21.out, by omega, hid ⟨fun _ => g0, fun h => by omega, fun h => by omega⟩⟩
      omega
    ·skip
     refine region_F ?_; refine P2 ?_; have cj := kb30.cell 1 rfl
     refine P3 ?_
     clear sl33; refine lx [5,6] ?_; clear sl1 sl30 sl31 sl32; intro _ sl1 sl30 sl31 sl32 sl5 sl6; refine lr ?_; intros; refine pl ?_; refine cal (idxWord_any A.ta A.tc s.tape _ l1 (Rd.oldB HR.out.tp HB.out (by simp))) ?_; rintro e _ ⟨rfl, hb32⟩; rw [← odd_idx]; refine ⟨_, rfl, ?_⟩; clear qb1 qb30; revert HB; revert HL21; revert kb30; revert kb1; refine uA hb32 ?_; clear hb32; intro kb1 qb1 kb30 qb30 HL21 HB; refine pl ?_; clear sl6; refine lx [7] ?_; clear sl1 sl5 sl30 sl31 sl32; intro _ sl1 sl5 sl30 sl31 sl32 sl7; refine lr ?_; intros; refine P2 ?_; refine lx [40] ?_; clear sl1 sl5 sl7 sl30 sl31 sl32; intro _ sl1 sl5 sl7 sl30 sl31 sl32 sl40; refine ln ?_; intros
     refine cond_E sl40 (by decide) ?_ ?_ <;> (clear sl40; intro h40 sl40)
     ·skip
      have g0 : 0 ≤ oddI s.tape := by simpa using h40
      have Hc := hid (chk_3 H1.out (by have := Ha.out.1 (by omega); omega) g0)
      refine nr ?_; intros
      refine P6 ?_
      clear sl1 sl5 sl7 sl30 sl31 sl32 sl40; refine lx [2,3,4] ?_; intro _ sl2 sl3 sl4; refine ln ?_; intros
      refine XW11b ?_; exact ⟨by rw [Hc.out] <;> rfl, HB.out.toBelow⟩
     ·skip
      have g0 : oddI s.tape < 0 := by have h := h40; simp at h; exact h
      refine nr ?_; intros; refine P2 ?_; clear sl32 sl5 sl7 sl40; refine lx [32] ?_; clear sl1 sl30 sl31; intro _ sl1 sl30 sl31 sl32; refine ln ?_; intros
      refine ⟨_, _, rfl, ?_, 1 + 1, rfl, (rL sl32), (sl1.trans hc0_1.out.symm), (sl30.trans hc0_30.out.symm), (sl31.trans hc0_31.out.symm), HL21.out, by omega, hid ⟨fun _ => Ha.out.1 (by omega), fun _ => g0, fun h => by omega⟩⟩
      omega
    ·skip
     refine region_F ?_; refine P2 ?_; have cj := kb30.cell 2 rfl
     refine P3 ?_
     clear sl33; refine lx [5,6] ?_; clear sl1 sl30 sl31 sl32; intro _ sl1 sl30 sl31 sl32 sl5 sl6; refine lr ?_; intros; refine pl ?_; refine cal (idxWord_any A.pa A.pc s.printed _ l2 (Rd.oldB HR.out.pr HB.out (by simp))) ?_; rintro e _ ⟨rfl, hb39⟩; rw [← odd_idx]; refine ⟨_, rfl, ?_⟩; clear qb1 qb30; revert HB; revert HL21; revert kb30; revert kb1; refine uA hb39 ?_; clear hb39; intro kb1 qb1 kb30 qb30 HL21 HB; refine pl ?_; clear sl6; refine lx [7] ?_; clear sl1 sl5 sl30 sl31 sl32; intro _ sl1 sl5 sl30 sl31 sl32 sl7; refine lr ?_; intros; refine P2 ?_; refine lx [40] ?_; clear sl1 sl5 sl7 sl30 sl31 sl32; intro _ sl1 sl5 sl7 sl30 sl31 sl32 sl40; refine ln ?_; intros
     refine cond_E sl40 (by decide) ?_ ?_ <;> (clear sl40; intro h40 sl40)
     ·skip
      have g0 : 0 ≤ oddI s.printed := by simpa using h40
      have Hc := hid (chk_4 H1.out (by have := Ha.out.1 (by omega); omega) (by have := Ha.out.2.1 (by omega); omega) g0)
      refine nr ?_; intros
      refine P6 ?_
      clear sl1 sl5 sl7 sl30 sl31 sl32 sl40; refine lx [2,3,4] ?_; intro _ sl2 sl3 sl4; refine ln ?_; intros
      refine XW11b ?_; exact ⟨by rw [Hc.out] <;> rfl, HB.out.toBelow⟩
     ·skip
      have g0 : oddI s.printed < 0 := by have h := h40; simp at h; exact h
      refine nr ?_; intros; refine P2 ?_; clear sl32 sl5 sl7 sl40; refine lx [32] ?_; clear sl1 sl30 sl31; intro _ sl1 sl30 sl31 sl32; refine ln ?_; intros
      refine ⟨_, _, rfl, ?_, 2 + 1, rfl, (rL sl32), (sl1.trans hc0_1.out.symm), (sl30.trans hc0_30.out.symm), (sl31.trans hc0_31.out.symm), HL21.out, by omega, hid ⟨fun _ => Ha.out.1 (by omega), fun _ => Ha.out.2.1 (by omega), fun _ => g0⟩⟩
      omega
   ·skip
    have hi3 : i = 3 := by have h := h33; simp at h; omega
    have G0 := hid (show ¬ 0 ≤ oddI s.store by have := Ha.out.1 (by omega); omega); have G1 := hid (show ¬ 0 ≤ oddI s.tape by have := Ha.out.2.1 (by omega); omega); have G2 := hid (show ¬ 0 ≤ oddI s.printed by have := Ha.out.2.2 (by omega); omega)
    refine zx ?_; intros
    clear HL21; clear hc0_1 hc0_30 hc0_31; have hj44_1 := hid sl1; refine cut_any (fun sJ wJ => sJ 45 = .bool (numB s) ∧ sJ 1 = s22 1 ∧ OldB [] w19 wJ) ?_ ?_
    ·skip
     have HL45 := hid (OldB.refl [] w19); refine region_F ?_; refine pl ?_; have cb1 := clx kb1
     refine P4 ?_
     refine pas (fun _ B51 hB kb51 hb47 => ?_); have gb51 := HB.out.gB hB; have lHL45_b51 := HL45.out.gB hB; have ob1_b51 := oB qb1 hB; have ob30_b51 := oB qb30 hB; have eb51 := eB hB; clear hB; clear cb1; clear qb1 qb30; revert HB; revert HL45; revert kb30; revert kb1; refine uA hb47 ?_; clear hb47; intro kb1 qb1 kb30 qb30 HL45 HB; have qb51 := kb51.1; refine cal (oout_1 s.tape.length s.taken B51 1 _ kb51) ?_; rintro e _ ⟨rfl, hb49⟩; refine ⟨_, rfl, ?_⟩; clear qb1 qb30 qb51; revert HB; revert HL45; revert kb51; revert kb30; revert kb1; refine uA hb49 ?_; clear hb49; intro kb1 qb1 kb30 qb30 kb51 qb51 HL45 HB
     refine pl ?_; clear sl30 sl31 sl32 sl33; refine lx [53] ?_; clear sl1; intro _ sl1 sl53
     refine boolG sl53 (fun sl53' h53 => ?_) (fun sl53' h53 => ?_) <;> (clear sl53; have sl53 := sl53'; clear sl53')
     ·skip
      refine pn true ?_
      refine pn true ?_; refine pn true ?_; refine pn true ?_; refine P2 ?_
      refine pn true ?_
      refine pn true ?_; refine pn true ?_; refine pn true ?_; refine P2 ?_
      refine pn true ?_
      refine pn true ?_
      refine pn true ?_
      refine pn true ?_; refine pn true ?_; refine pn true ?_; refine P2 ?_
      refine pn true ?_
      refine pn true ?_; refine pn true ?_; refine pn true ?_; refine P2 ?_; clear sl53; refine lx [45] ?_; clear sl1; intro _ sl1 sl45; refine ln ?_; intros
      exact ⟨trv, _, rfl, (by rw [sl45]; unfold numB addrB; congr 1; have g53 := h53; simp at g53;  simp [g53]), (sl1.trans hj44_1.out.symm), HL45.out⟩
     ·skip
      refine py ?_; have cb1 := clx kb1; refine py ?_; refine pasy (fun _ B56 hB kb56 hb53 => ?_); have gb56 := HB.out.gB hB; have lHL45_b56 := HL45.out.gB hB; have ob1_b56 := oB qb1 hB; have ob30_b56 := oB qb30 hB; have ob51_b56 := oB qb51 hB; have eb56 := eB hB; clear hB; clear cb1; clear qb1 qb30 qb51; revert HB; revert HL45; revert kb51; revert kb30; revert kb1; refine uA hb53 ?_; clear hb53; intro kb1 qb1 kb30 qb30 kb51 qb51 HL45 HB; have qb56 := kb56.1; refine listF_yes rfl rfl (by decide) ?_ (fun K' hK => ?_); (focus (go_simp; done)); unfold opF; go_simp
      refine (oout_1 1000000000 s.time B56 1 _ kb56).mono ?_; rintro e _ ⟨rfl, hb55⟩; refine ⟨_, rfl, hK _ _ ?_⟩; clear hK K'; clear qb1 qb30 qb51 qb56; revert HB; revert HL45; revert kb56; revert kb51; revert kb30; revert kb1; refine uA hb55 ?_; clear hb55; intro kb1 qb1 kb30 qb30 kb51 qb51 kb56 qb56 HL45 HB; refine P2 ?_; clear sl53; refine lx [59] ?_; clear sl1; intro _ sl1 sl59
      refine boolG sl59 (fun sl59' h59 => ?_) (fun sl59' h59 => ?_) <;> (clear sl59; have sl59 := sl59'; clear sl59')
      ·skip
       refine pn true ?_
       refine pn true ?_; refine pn true ?_; refine pn true ?_; refine P2 ?_
       refine pn true ?_
       refine pn true ?_
       refine pn true ?_
       refine pn true ?_; refine pn true ?_; refine pn true ?_; refine P2 ?_
       refine pn true ?_
       refine pn true ?_; refine pn true ?_; refine pn true ?_; refine P2 ?_; clear sl59; refine lx [45] ?_; clear sl1; intro _ sl1 sl45; refine ln ?_; intros
       exact ⟨trv, _, rfl, (by rw [sl45]; unfold numB addrB; congr 1; have g53 := h53; simp at g53; have g59 := h59; simp at g59;  simp [g53, g59]), (sl1.trans hj44_1.out.symm), HL45.out⟩
      ·skip
       refine py ?_; have cb1 := clx kb1; refine py ?_; refine pasy (fun _ B62 hB kb62 hb59 => ?_); have gb62 := HB.out.gB hB; have lHL45_b62 := HL45.out.gB hB; have ob1_b62 := oB qb1 hB; have ob30_b62 := oB qb30 hB; have ob51_b62 := oB qb51 hB; have ob56_b62 := oB qb56 hB; have eb62 := eB hB; clear hB; clear cb1; clear qb1 qb30 qb51 qb56; revert HB; revert HL45; revert kb56; revert kb51; revert kb30; revert kb1; refine uA hb59 ?_; clear hb59; intro kb1 qb1 kb30 qb30 kb51 qb51 kb56 qb56 HL45 HB; have qb62 := kb62.1; refine listF_yes rfl rfl (by decide) ?_ (fun K' hK => ?_); (focus (go_simp; done)); unfold opF; go_simp
       refine (oout_1 127 s.pc B62 1 _ kb62).mono ?_; rintro e _ ⟨rfl, hb61⟩; refine ⟨_, rfl, hK _ _ ?_⟩; clear hK K'; clear qb1 qb30 qb51 qb56 qb62; revert HB; revert HL45; revert kb62; revert kb56; revert kb51; revert kb30; revert kb1; refine uA hb61 ?_; clear hb61; intro kb1 qb1 kb30 qb30 kb51 qb51 kb56 qb56 kb62 qb62 HL45 HB; refine P2 ?_; clear sl59; refine lx [65] ?_; clear sl1; intro _ sl1 sl65
       refine boolG sl65 (fun sl65' h65 => ?_) (fun sl65' h65 => ?_) <;> (clear sl65; have sl65 := sl65'; clear sl65')
       ·skip
        refine pn true ?_
        refine pn true ?_
        refine pn true ?_
        refine pn true ?_; refine pn true ?_; refine pn true ?_; refine P2 ?_
        refine pn true ?_
        refine pn true ?_; refine pn true ?_; refine pn true ?_; refine P2 ?_; clear sl65; refine lx [45] ?_; clear sl1; intro _ sl1 sl45; refine ln ?_; intros
        exact ⟨trv, _, rfl, (by rw [sl45]; unfold numB addrB; congr 1; have g53 := h53; simp at g53; have g59 := h59; simp at g59; have g65 := h65; simp at g65;  simp [g53, g59, g65]), (sl1.trans hj44_1.out.symm), HL45.out⟩
       ·skip
        refine py ?_; have cb1 := clx kb1
        iterate 3 refine py ?_
        refine pasy (fun _ B70 hB kb70 hb65 => ?_); have gb70 := HB.out.gB hB; have lHL45_b70 := HL45.out.gB hB; have ob1_b70 := oB qb1 hB; have ob30_b70 := oB qb30 hB; have ob51_b70 := oB qb51 hB; have ob56_b70 := oB qb56 hB; have ob62_b70 := oB qb62 hB; have eb70 := eB hB; clear hB; clear cb1; clear qb1 qb30 qb51 qb56 qb62; revert HB; revert HL45; revert kb62; revert kb56; revert kb51; revert kb30; revert kb1; refine uA hb65 ?_; clear hb65; intro kb1 qb1 kb30 qb30 kb51 qb51 kb56 qb56 kb62 qb62 HL45 HB; have qb70 := kb70.1; refine listF_yes rfl rfl (by decide) ?_ (fun K' hK => ?_); (focus (go_simp; done)); unfold opF; go_simp; refine (oout_1 s.time s.done B70 1 _ kb70).mono ?_; rintro e _ ⟨rfl, hb67⟩; refine ⟨_, rfl, hK _ _ ?_⟩; clear hK K'
        clear qb1 qb30 qb51 qb56 qb62 qb70; revert HB; revert HL45; revert kb70; revert kb62; revert kb56; revert kb51; revert kb30; revert kb1; refine uA hb67 ?_; clear hb67; intro kb1 qb1 kb30 qb30 kb51 qb51 kb56 qb56 kb62 qb62 kb70 qb70 HL45 HB; refine P2 ?_; clear sl65; refine lx [73] ?_; clear sl1; intro _ sl1 sl73
        refine boolG sl73 (fun sl73' h73 => ?_) (fun sl73' h73 => ?_) <;> (clear sl73; have sl73 := sl73'; clear sl73')
        ·skip
         refine pn true ?_
         refine pn true ?_; refine pn true ?_; refine pn true ?_; refine P2 ?_; clear sl73; refine lx [45] ?_; clear sl1; intro _ sl1 sl45; refine ln ?_; intros
         exact XW11c
        ·skip
         refine py ?_; have cb1 := clx kb1; refine py ?_; refine pasy (fun _ B76 hB kb76 hb71 => ?_); have gb76 := HB.out.gB hB; have lHL45_b76 := HL45.out.gB hB; have ob1_b76 := oB qb1 hB; have ob30_b76 := oB qb30 hB; have ob51_b76 := oB qb51 hB; have ob56_b76 := oB qb56 hB; have ob62_b76 := oB qb62 hB; have ob70_b76 := oB qb70 hB; have eb76 := eB hB; clear hB; clear cb1; clear qb1 qb30 qb51 qb56 qb62 qb70; revert HB; revert HL45; revert kb70; revert kb62; revert kb56; revert kb51; revert kb30; revert kb1; refine uA hb71 ?_; clear hb71; intro kb1 qb1 kb30 qb30 kb51 qb51 kb56 qb56 kb62 qb62 kb70 qb70 HL45 HB; have qb76 := kb76.1; refine listF_yes rfl rfl (by decide) ?_ (fun K' hK => ?_); (focus (go_simp; done)); unfold opF; go_simp; refine (oout_1 4 s.why B76 1 _ kb76).mono ?_; rintro e _ ⟨rfl, hb73⟩; refine ⟨_, rfl, hK _ _ ?_⟩; clear hK K'; clear qb1 qb30 qb51 qb56 qb62 qb70 qb76; revert HB; revert HL45; revert kb76; revert kb70; revert kb62; revert kb56; revert kb51; revert kb30; revert kb1; refine uA hb73 ?_; clear hb73; intro kb1 qb1 kb30 qb30 kb51 qb51 kb56 qb56 kb62 qb62 kb70 qb70 kb76 qb76 HL45 HB; refine P2 ?_; clear sl73; refine lx [45] ?_; clear sl1; intro _ sl1 sl45
         refine ln ?_; intros
         exact XW11c
    ·skip
     clear sl30 sl31 sl32 sl33; rintro s75 w76 ⟨sl45, e1, hb77⟩; replace sl1 := e1.trans sl1; clear e1 hj44_1; clear qb1 qb30; revert HB; revert kb30; revert kb1; refine uO hb77 ?_; clear hb77; intro kb1 qb1 kb30 qb30 HB
     refine zx ?_; intros
     refine cond_E sl45 (by decide) ?_ ?_ <;> (clear sl45; intro h45 sl45)
     ·skip
      have Hc := hid (chk_5 H1.out G0.out G1.out G2.out h45)
      refine nr ?_; intros
      refine P3 ?_
      clear sl1 sl45; refine lx [2,3,4] ?_; intro _ sl2 sl3 sl4; refine ln ?_; intros
      refine XW11b ?_; exact ⟨by rw [Hc.out] <;> rfl, HB.out.toBelow⟩
     ·skip
      obtain ⟨-, ⟨n1, n2⟩, ⟨n3, n4⟩, -⟩ := num_of h45; have H6 := hid (chk_6 H1.out G0.out G1.out G2.out h45); have wd : IntKind.i64.wrap (s.time - s.pc) = s.time - s.pc := IntWalk.i64_in _ (by omega); have ht := tm16 s.time s.pc; have hb1 := Int.tmod_lt_of_pos (s.time - s.pc) (show (0 : Int) < 16 by decide); have hb2 := Int.lt_tmod_of_pos (s.time - s.pc) (show (0 : Int) < 16 by decide); obtain ⟨r, hr⟩ : ∃ r, (s.time - s.pc).tmod 16 = r := ⟨_, rfl⟩; rw [hr] at ht hb1 hb2; have wr : IntKind.i64.wrap r = r := IntWalk.i64_in _ (by omega); have Ht := hid ht; clear ht hb1 hb2
      refine nr ?_; intros; refine pl ?_; have cb1 := clx kb1
      refine P7 ?_
      clear sl1 sl45; refine lx [79] ?_; intro _ sl79; refine ln ?_; intros
      refine cond_E sl79 (by decide) ?_ ?_ <;> (clear sl79; intro h79 sl79)
      ·skip
       have Hc := hid (show chk4 s = (6, 0, 2) by rw [H6.out, if_pos (fun e => by have := Ht.out.2 e; simp [this] at h79)])
       refine nr ?_; intros
       refine P3 ?_
       clear sl79; refine lx [2,3,4] ?_; intro _ sl2 sl3 sl4; refine ln ?_; intros
       refine XW11b ?_; exact ⟨by rw [Hc.out] <;> rfl, HB.out.toBelow⟩
      ·skip
       have Hc := hid (show chk4 s = (0, 0, 0) by rw [H6.out, if_neg (fun e => e (Ht.out.1 (by simpa using h79)))])
       refine nr ?_; intros
       refine P3 ?_
       clear sl79; refine lx [2,3,4] ?_; intro _ sl2 sl3 sl4; refine ln ?_; intros
       refine XW11b ?_; exact ⟨by rw [Hc.out] <;> rfl, HB.out.toBelow⟩

theorem cloneInt_none (c : Nat) (l : List Int) (w : World) (hl : l.length ≤ 1000) (hR : RdInts w none l) :
    Calls Tryz.prog 69 #[.slice none l.length c] w (fun e w' => ∃ v, e = .returned v ∧ Own int1 1 3 w.heap.size w' v l ∧ Below w.heap.size w w') := by
 obtain ⟨i0, hi0, hz0, hz1, hz2⟩ := info_parts info_int; have HR := hid hR; clear hR
 have hnil : ∀ w, (binOp .eql 22 (.slice none l.length c) (.slice none 0 0)).run Tryz.prog w = .ok (.bool true) w := fun w => Lib.run_eql_slice_nil w _ _ _ _ _ _ _ Tryz.underlying22
 refine enter_F Tryz.func69 rfl Tryz.ntmps69 (by simp) ?_
 intro s0 hs; have sl0 : s0 0 = .slice none l.length c := hs 0 (by simp); clear hs; have HB := hid (OldB.refl [] w)
 refine nr ?_; intros; refine pl ?_; refine lx [] ?_; clear sl0; intro _ sl0; refine lr ?_; intros; refine P2 ?_; refine lx [4] ?_; clear sl0; intro _ sl0 sl4; refine ln ?_; intros
 refine cond_t ?_
 refine nr ?_; intros; refine pl ?_; clear sl0 sl4; refine lx [2] ?_; intro _ sl2; refine ln ?_; intros
 refine ret_F _ (res_t Tryz.results69 ((getD_F (by decide)).trans sl2)) ?_
 have hl0 : l = [] := by rcases HR.out with h | ⟨b, o, h, _⟩; exact h; cases h
 exact ⟨_, rfl, by rw [hl0]; exact Own.nil _ _ _ _ _, HB.out.toBelow⟩

theorem cloneInt_some (p : Addr) (c : Nat) (l : List Int) (w : World) (hl : l.length ≤ 1000) (hR : RdInts w (some p) l) :
    Calls Tryz.prog 69 #[.slice (some p) l.length c] w (fun e w' => ∃ v, e = .returned v ∧ Own int1 1 3 w.heap.size w' v l ∧ Below w.heap.size w w') := by
 obtain ⟨i0, hi0, hz0, hz1, hz2⟩ := info_parts info_int; have HR := hid hR; clear hR
 have hnil : ∀ w, (binOp .eql 22 (.slice (some p) l.length c) (.slice none 0 0)).run Tryz.prog w = .ok (.bool false) w := fun w => Lib.run_eql_slice_nil w _ _ _ _ _ _ _ Tryz.underlying22
 refine enter_F Tryz.func69 rfl Tryz.ntmps69 (by simp) ?_
 intro s0 hs; have sl0 : s0 0 = .slice (some p) l.length c := hs 0 (by simp); clear hs; have HB := hid (OldB.refl [] w)
 refine nr ?_; intros; refine pl ?_; refine lx [] ?_; clear sl0; intro _ sl0; refine lr ?_; intros; refine P2 ?_; refine lx [4] ?_; clear sl0; intro _ sl0 sl4; refine ln ?_; intros
 refine cond_f ?_
 refine nr ?_; intros; refine listF_step rfl (fun K' hK => ?_); unfold opF; go_simp; refine hK _ _ ?_; clear hK K'; refine listF_absw ?_; intro w3 hw'
 have hO5 : Own int1 1 3 w.heap.size w3 (.slice (some ⟨w.heap.size, 0, none⟩) 0 0) [] := by rw [hw']; exact Own.lit (l := ([] : List Int)) (Nat.le_refl _) (by unfold maxLen; simp) rfl (fun _ => rfl)
 have hb : Below w.heap.size w w3 := by rw [hw']; exact below_alloc1 _ _
 clear hw'; replace HB := bE HB hb; clear hb; refine pl ?_; refine listF_step rfl (fun K' hK => ?_); have hzz := HB.out.size; refine opF_app (d := 7) rfl (by decide) (.tmp 5) (.tmp 6) _ rfl 3 i0 _ 8 Tryz.underlying22 hi0 hz0 hz1 hz2 rfl (by decide) (fun _ => rfl) int_one w.heap.size _ [] l (some p) c (by go_simp) (by go_simp) hO5 (Rd.oldB HR.out HB.out (by simp)) (by unfold maxLen; simp; omega) (by simp; omega) (by omega) (fun v7 w5 hO7 hG7 hV7 => hK _ _ ?_); clear hK K'; replace HB := hid (HB.out.grown hG7 (fun k hk => .inl (by simp [Value.ownBlock] at hk; omega))); have HO7 := hid hO7; clear hO5 hG7 hV7 hzz hO7; refine pl ?_; clear sl0 sl4; refine lx [2] ?_; intro _ sl2; refine ln ?_; intros
 refine ret_F _ (res_t Tryz.results69 ((getD_F (by decide)).trans sl2)) ?_; exact ⟨_, rfl, HO7.out, HB.out.toBelow⟩

theorem cloneInt_any (a : Option Addr) (c : Nat) (l : List Int) (w : World) (hl : l.length ≤ 1000) (hR : RdInts w a l) :
    Calls Tryz.prog 69 #[.slice a l.length c] w fun e w' => ∃ v, e = .returned v ∧ Own int1 1 3 w.heap.size w' v l ∧ Below w.heap.size w w' := by
  cases a with
  | none => exact cloneInt_none c l w hl hR
  | some p => exact cloneInt_some p c l w hl hR

end Go.Proofs.YtleknidlgmmgbaaGreat
