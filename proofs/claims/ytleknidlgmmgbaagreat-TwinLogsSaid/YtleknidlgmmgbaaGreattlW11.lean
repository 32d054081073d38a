/- The program's order: Check, Clone. -/
import Derived.Test.YtleknidlgmmgbaaGreattlW10
set_option linter.all false
set_option maxRecDepth 100000
set_option maxHeartbeats 16000000
namespace Go.Proofs.YtleknidlgmmgbaaGreat

open Go.RowKit


abbrev notW : Int → Bool := fun n => !inI n 0 16777215
theorem odd_idx (l : List Int) : oddI l = idxOf notW l := by
  unfold idxOf
  cases hf : l.findIdx? notW with
  | none =>
    rw [List.findIdx?_eq_none_iff] at hf; exact oddU_none (fun j hj => by have := hf _ (getD_in (d := 0) hj); unfold wordB; simpa [notW] using this)
  | some i =>
    obtain ⟨h, h1, h2⟩ := List.findIdx?_eq_some_iff_getElem.1 hf; exact oddU_found h (fun j hj => by have := h2 j hj; unfold wordB; rw [getD_get (by omega)]; simpa [notW] using this) (by unfold wordB; rw [getD_get h]; simpa [notW] using h1)
theorem tm16 (a b : Int) : (a - b).tmod 16 = 0 ↔ a % 16 = b % 16 := by
  constructor
  · intro h
    have h1 := Int.mul_tdiv_add_tmod (a - b) 16
    omega
  · intro h
    exact Int.tmod_eq_zero_of_dvd (Int.dvd_of_emod_eq_zero (by omega))

theorem ocheck1_any (n : Int) (w : World) :
    Calls Tryz.prog 103 #[.int .i64 n] w (fun e w' => e = .returned (.bool (notW n)) ∧ Below w.heap.size w w') := by
 refine enter_F Tryz.func103 rfl Tryz.ntmps103 (by simp) ?_
 intro s0 hs; have Z0 : s0 0 = .int .i64 n := hs 0 (by simp); clear hs; have HB := hid (OldB.refl [] w)
 refine nr ?_; intros; refine pl ?_; refine lx [] ?_; clear Z0; intro _ Z0; refine lr ?_; intros; refine pl ?_; refine pas (fun _ B4 hB Y4 hb => ?_); have gb4 := HB.out.gB hB; have eb4 := eB hB; clear hB; replace HB := bE HB hb; clear hb; have Q4 := Y4.1; refine cal (oout_1 16777215 n B4 1 _ Y4) ?_; rintro e _ ⟨rfl, hb⟩; refine ⟨_, rfl, ?_⟩; clear Q4; revert Y4 HB; refine uA hb ?_; clear hb; intro Y4 Q4 HB; refine pl ?_; clear Z0; refine lx [2] ?_; intro _ Z2; refine ln ?_; intros
 refine ret_F _ (res_t Tryz.results103 ((getD_F (by decide)).trans Z2)) ?_; exact ⟨rfl, HB.out.toBelow⟩

theorem idxWord_any (a : Option Addr) (c : Nat) (l : List Int)  (w : World) (hl : l.length ≤ 9223372036854775807) (hR : RdInts w a l)  :
    Calls Tryz.prog 102 #[.slice a l.length c, .func (.func 103) #[] #[]] w (fun e w' => e = .returned (.int .i64 (idxOf notW l)) ∧ Below w.heap.size w w') := by
 have HR := hid hR; clear hR
 refine enter_F Tryz.func102 rfl Tryz.ntmps102 (by simp) ?_
 intro s0 hs; have Z0 : s0 0 = .slice a l.length c := hs 0 (by simp); have Z1 : s0 1 = .func (.func 103) #[] #[] := hs 1 (by simp); clear hs; have HB := hid (OldB.refl [] w)
 refine nr ?_; intros; refine pl ?_; refine lx [] ?_; clear Z0 Z1; intro s1 Z0 Z1; refine lr ?_; intros
 refine P3 ?_
 refine lx [7,8] ?_; clear Z0 Z1; intro s2 Z0 Z1 Z7 Z8; refine ln ?_; intros
 have hc0_0 := hid Z0; have hc0_1 := hid Z1; have hc0_7 := hid Z7; refine loop_F (n := 19) (fun kJ sJ wJ => ∃ (k : Nat), kJ = l.length - k ∧ sJ 8 = .int .i64 (k : Int) ∧ sJ 0 = s2 0 ∧ sJ 1 = s2 1 ∧ sJ 7 = s2 7 ∧ OldB [] w wJ ∧ k ≤ l.length ∧ Hid ((l.take k).any notW = false)) ⟨0, rfl, (by first | exact Z8 | (rw [Z8]; go_num) | (rw [Z8]; rfl)), rfl, rfl, rfl, OldB.refl _ _, Nat.zero_le _, hid rfl⟩ ?_; clear Z8; rintro kJ s3 w4 ⟨k, rfl, Z8, e0, e1, e7, hb5, hkl, hno⟩; rw [← e0] at Z0; clear e0; rw [← e1] at Z1; clear e1; rw [← e7] at Z7; clear e7; have hoJ := hb5; replace HB := mO HB hb5; clear hb5; have HoJ := hid hoJ; clear hoJ; have HL6 := HoJ; clear HoJ
 refine nr ?_; intros; refine pl ?_; refine lx [9] ?_; clear Z0 Z1 Z7 Z8; intro s7 Z0 Z1 Z7 Z8 Z9; refine ln ?_; intros
 refine cond_E Z9 (by decide) ?_ ?_ <;> (clear Z9; intro h9 Z9)
 ·skip
  have hlt : k < l.length := by simpa using h9
  obtain ⟨b, off, rfl, hb, h0⟩ := RdInts.ne (Rd.oldB HR.out HB.out (by simp)) hlt
  refine nr ?_; intros; refine P2 ?_; clear Z9; refine lx [5] ?_; clear Z0 Z1 Z7 Z8; intro s8 Z0 Z1 Z7 Z8 Z5; refine lr ?_; intros
  refine P5 ?_
  refine cal (ocheck1_any l[k] _) ?_; rintro e w9 ⟨rfl, hb10⟩; refine ⟨_, rfl, ?_⟩; revert HB; revert HL6; refine zA hb10 ?_; clear hb10; intro HL6 HB; refine lx [16] ?_; clear Z0 Z1 Z5 Z7 Z8; intro s11 Z0 Z1 Z5 Z7 Z8 Z16; refine ln ?_; intros
  refine cond_E Z16 (by decide) ?_ ?_ <;> (clear Z16; intro h16 Z16)
  ·skip
   have Hpk := hid (idx_found hlt hno.out h16)
   refine nr ?_; intros; refine P2 ?_; clear Z0 Z1 Z5 Z7 Z8 Z16; refine lx [4] ?_; intro s12 Z4; refine ln ?_; intros
   refine ret_F _ (res_t Tryz.results102 ((getD_F (by decide)).trans Z4)) ?_; exact ⟨ret_int Hpk.out.symm, HB.out.toBelow⟩
  ·skip
   have hpk := hid h16
   refine nr ?_; intros; refine P2 ?_; clear Z8 Z5 Z16; refine lx [8] ?_; clear Z0 Z1 Z7; intro s13 Z0 Z1 Z7 Z8; refine ln ?_; intros
   refine ⟨_, _, rfl, ?_, k + 1, rfl, (rL Z8), sh, sh, sh, HL6.out, by omega, hid (by rw [any_take_succ _ _ _ hlt, hno.out, hpk.out]; rfl)⟩
   omega
 ·skip
  have hge : l.length ≤ k := by simpa using h9
  have hno2 : l.any notW = false := by have := hno.out; rwa [List.take_of_length_le hge] at this
  have Hno := hid hno2; clear hno2
  refine zx ?_; intros
  clear HL6; clear hc0_0 hc0_1 hc0_7; refine region_F ?_; refine pl ?_; clear Z0 Z1 Z7 Z8 Z9; refine lx [4] ?_; intro s14 Z4; refine ln ?_; intros
  refine ret_F _ (res_t Tryz.results102 ((getD_F (by decide)).trans Z4)) ?_; exact ⟨ret_int (idx_none Hno.out).symm, HB.out.toBelow⟩

theorem XW11b {A B1 : Prop} (hX1 : B1) (e : B1 → A := by exact ret_F _ (res_ttt Tryz.results75 ((getD_F (by decide)).trans Z2) ((getD_F (by decide)).trans Z3) ((getD_F (by decide)).trans Z4))) : A := e hX1
theorem XW11c {A : Prop} (e : A := by exact ⟨trv, _, rfl, (by rw [Z45]; unfold numB addrB; congr 1; have g53 := h53; simp at g53; have g59 := h59; simp at g59; have g65 := h65; simp at g65; have g73 := h73; simp at g73;  simp [g53, g59, g65, g73]), sh, HL45.out⟩) : A := e
theorem ocheck_any (s : St4) (A : SA) (w : World) (hR : RdSt w s A) (hL : LenI s) :
    Calls Tryz.prog 75 #[sV s A] w (fun e w' => e = .returned (.tuple #[.int .i64 (chk4 s).1, .int .i64 (chk4 s).2.1, .int .i64 (chk4 s).2.2]) ∧ Below w.heap.size w w') := by
 have HR := hid hR; clear hR; obtain ⟨l0, l1, l2⟩ := hL
 refine enter_F Tryz.func75 rfl Tryz.ntmps75 (by simp) ?_
 intro s0 hs; have Z0 : s0 0 = .agg #[.slice A.sa s.store.length A.sc, .slice A.ta s.tape.length A.tc, .int .i64 s.taken, .slice A.pa s.printed.length A.pc, .int .i64 s.time, .int .i64 s.pc, .int .i64 s.done, .int .i64 s.why] := hs 0 (by simp); clear hs; have HB := hid (OldB.refl [] w)
 refine nr ?_; intros; refine pa (fun w1 B1 hB Y1 hb2 => ?_); have gb1 := HB.out.gB hB; have eb1 := eB hB; clear hB; replace HB := bE HB hb2; clear hb2; have Q1 := Y1.1
 refine P3 ?_
 clear Z0; refine lx [1] ?_; intro s3 Z1; refine ln ?_; intros
 have hj4_1 := hid Z1; refine cut_any (fun sJ wJ => sJ 23 = .bool (decide (s.store.length ≠ 128 ∨ 200 < s.tape.length ∨ 200 < s.printed.length)) ∧ sJ 1 = s3 1 ∧ OldB [] w1 wJ) ?_ ?_
 ·skip
  have HL5 := hid (OldB.refl [] w1); refine region_F ?_; refine pl ?_; have cb1 := clx Y1
  refine P4 ?_
  refine lx [12] ?_; clear Z1; intro _ Z1 Z12
  refine boolG Z12 (fun Z12' h12 => ?_) (fun Z12' h12 => ?_) <;> (clear Z12; have Z12 := Z12'; clear Z12')
  ·skip
   refine pn true ?_
   refine pn true ?_; refine pn true ?_; refine pn true ?_; refine P2 ?_
   refine pn true ?_
   refine pn true ?_; refine pn true ?_; refine pn true ?_; refine pl ?_; clear Z12; refine lx [23] ?_; clear Z1; intro _ Z1 Z23; refine ln ?_; intros
   clear cb1; exact ⟨trv, _, rfl, (by rw [Z23]; congr 1; rw [Bool.eq_iff_iff]; have h := h12; simp at h; simp [h]; try omega), sh, HL5.out⟩
  ·skip
   iterate 4 refine py ?_
   refine P2 ?_; clear Z12; refine lx [18] ?_; clear Z1; intro _ Z1 Z18
   refine boolG Z18 (fun Z18' h18 => ?_) (fun Z18' h18 => ?_) <;> (clear Z18; have Z18 := Z18'; clear Z18')
   ·skip
    refine pn true ?_
    refine pn true ?_; refine pn true ?_; refine pn true ?_; refine pl ?_; clear Z18; refine lx [23] ?_; clear Z1; intro _ Z1 Z23; refine ln ?_; intros
    clear cb1; exact ⟨trv, _, rfl, (by rw [Z23]; congr 1; rw [Bool.eq_iff_iff]; have h := h18; simp at h; simp [h]; try omega), sh, HL5.out⟩
   ·skip
    iterate 4 refine py ?_
    refine pl ?_; clear Z18; refine lx [23] ?_; clear Z1; intro _ Z1 Z23; refine ln ?_; intros
    clear cb1; exact ⟨trv, _, rfl, (by rw [Z23]; congr 1; rw [Bool.eq_iff_iff]; have h := h18; have h2 := h12; simp at h h2; simp; omega), sh, HL5.out⟩
 ·skip
  rintro s11 w12 ⟨Z23, e1, hb13⟩; rw [← e1] at Z1; clear e1 hj4_1; clear Q1; revert Y1 HB; refine uO hb13 ?_; clear hb13; intro Y1 Q1 HB
  refine zx ?_; intros
  refine cond_E Z23 (by decide) ?_ ?_ <;> (clear Z23; intro h23 Z23)
  ·skip
   have Hc := hid (chk_1 (show (s.store.length ≠ 128 ∨ 200 < s.tape.length ∨ 200 < s.printed.length) by simpa using h23))
   refine nr ?_; intros
   refine P3 ?_
   clear Z1 Z23; refine lx [2,3,4] ?_; intro _ Z2 Z3 Z4; refine ln ?_; intros
   refine XW11b ?_; exact ⟨by rw [Hc.out] <;> rfl, HB.out.toBelow⟩
  ·skip
   have H1 := hid (show ¬ (s.store.length ≠ 128 ∨ 200 < s.tape.length ∨ 200 < s.printed.length) by simpa using h23)
   refine nr ?_; intros; refine pl ?_; have cb1 := clx Y1
   refine P5 ?_
   refine pas (fun w15 B30 hB Y30 hb16 => ?_); have gb30 := HB.out.gB hB; have ob1_b30 := oB Q1 hB; have eb30 := eB hB; clear hB; clear cb1; clear Q1; revert Y1 HB; refine uA hb16 ?_; clear hb16; intro Y1 Q1 HB; have Q30 := Y30.1; refine P2 ?_; clear Z23; refine lx [30,31,32] ?_; clear Z1; intro s17 Z1 Z30 Z31 Z32; refine ln ?_; intros
   have hc0_1 := hid Z1; have hc0_30 := hid Z30; have hc0_31 := hid Z31; refine loop_F (n := 87) (fun kJ sJ wJ => ∃ (i : Nat), kJ = 3 - i ∧ sJ 32 = .int .i64 (i : Int) ∧ sJ 1 = s17 1 ∧ sJ 30 = s17 30 ∧ sJ 31 = s17 31 ∧ OldB [] w15 wJ ∧ i ≤ 3 ∧ (Hid ((0 < i → oddI s.store < 0) ∧ (1 < i → oddI s.tape < 0) ∧ (2 < i → oddI s.printed < 0)))) ⟨0, rfl, (by first | exact Z32 | (rw [Z32]; go_num) | (rw [Z32]; rfl)), rfl, rfl, rfl, OldB.refl _ _, by omega, hid ⟨fun h => by omega, fun h => by omega, fun h => by omega⟩⟩ ?_; clear Z32; rintro kJ s18 w19 ⟨i, rfl, Z32, e1, e30, e31, hb20, hi4, Ha⟩; rw [← e1] at Z1; clear e1; rw [← e30] at Z30; clear e30; rw [← e31] at Z31; clear e31; have hoJ := hb20; clear Q1 Q30; revert Y30 Y1 HB; refine uO hb20 ?_; clear hb20; intro Y30 Q30 Y1 Q1 HB; have HoJ := hid hoJ; clear hoJ; have HL21 := HoJ; clear HoJ
   refine nr ?_; intros; refine pl ?_; refine lx [33] ?_; clear Z1 Z30 Z31 Z32; intro s22 Z1 Z30 Z31 Z32 Z33; refine ln ?_; intros
   refine cond_E Z33 (by decide) ?_ ?_ <;> (clear Z33; intro h33 Z33)
   ·skip
    have hi3 : i < 3 := by have h := h33; simp at h; omega
    refine zx ?_; intros
    rcases (show i = 0 ∨ i = 1 ∨ i = 2 by omega) with rfl | rfl | rfl
    ·skip
     refine region_F ?_; refine P2 ?_; have cj := Y30.cell 0 rfl
     refine P3 ?_
     clear Z33; refine lx [5,6] ?_; clear Z1 Z30 Z31 Z32; intro _ Z1 Z30 Z31 Z32 Z5 Z6; refine lr ?_; intros; refine pl ?_; refine cal (idxWord_any A.sa A.sc s.store _ l0 (Rd.oldB HR.out.st HB.out (by simp))) ?_; rintro e _ ⟨rfl, hb25⟩; rw [← odd_idx]; refine ⟨_, rfl, ?_⟩; clear Q1 Q30; revert HB; revert HL21; revert Y30; revert Y1; refine uA hb25 ?_; clear hb25; intro Y1 Q1 Y30 Q30 HL21 HB; refine pl ?_; clear Z6; refine lx [7] ?_; clear Z1 Z5 Z30 Z31 Z32; intro _ Z1 Z5 Z30 Z31 Z32 Z7; refine lr ?_; intros; refine P2 ?_; refine lx [40] ?_; clear Z1 Z5 Z7 Z30 Z31 Z32; intro _ Z1 Z5 Z7 Z30 Z31 Z32 Z40; refine ln ?_; intros
     refine cond_E Z40 (by decide) ?_ ?_ <;> (clear Z40; intro h40 Z40)
     ·skip
      have g0 : 0 ≤ oddI s.store := by simpa using h40
      have Hc := hid (chk_2 H1.out g0)
      refine nr ?_; intros
      refine P6 ?_
      clear Z1 Z5 Z7 Z30 Z31 Z32 Z40; refine lx [2,3,4] ?_; intro _ Z2 Z3 Z4; refine ln ?_; intros
      refine XW11b ?_; exact ⟨by rw [Hc.out] <;> rfl, HB.out.toBelow⟩
     ·skip
      have g0 : oddI s.store < 0 := by have h := h40; simp at h; exact h
      refine nr ?_; intros; refine P2 ?_; clear Z32 Z5 Z7 Z40; refine lx [32] ?_; clear Z1 Z30 Z31; intro _ Z1 Z30 Z31 Z32; refine ln ?_; intros
      refine ⟨_, _, rfl, ?_, 0 + 1, rfl, (rL Z32), sh, sh, sh, HL21.out, by omega, hid ⟨fun _ => g0, fun h => by omega, fun h => by omega⟩⟩
      omega
    ·skip
     refine region_F ?_; refine P2 ?_; have cj := Y30.cell 1 rfl
     refine P3 ?_
     clear Z33; refine lx [5,6] ?_; clear Z1 Z30 Z31 Z32; intro _ Z1 Z30 Z31 Z32 Z5 Z6; refine lr ?_; intros; refine pl ?_; refine cal (idxWord_any A.ta A.tc s.tape _ l1 (Rd.oldB HR.out.tp HB.out (by simp))) ?_; rintro e _ ⟨rfl, hb32⟩; rw [← odd_idx]; refine ⟨_, rfl, ?_⟩; clear Q1 Q30; revert HB; revert HL21; revert Y30; revert Y1; refine uA hb32 ?_; clear hb32; intro Y1 Q1 Y30 Q30 HL21 HB; refine pl ?_; clear Z6; refine lx [7] ?_; clear Z1 Z5 Z30 Z31 Z32; intro _ Z1 Z5 Z30 Z31 Z32 Z7; refine lr ?_; intros; refine P2 ?_; refine lx [40] ?_; clear Z1 Z5 Z7 Z30 Z31 Z32; intro _ Z1 Z5 Z7 Z30 Z31 Z32 Z40; refine ln ?_; intros
     refine cond_E Z40 (by decide) ?_ ?_ <;> (clear Z40; intro h40 Z40)
     ·skip
      have g0 : 0 ≤ oddI s.tape := by simpa using h40
      have Hc := hid (chk_3 H1.out (by have := Ha.out.1 (by omega); omega) g0)
      refine nr ?_; intros
      refine P6 ?_
      clear Z1 Z5 Z7 Z30 Z31 Z32 Z40; refine lx [2,3,4] ?_; intro _ Z2 Z3 Z4; refine ln ?_; intros
      refine XW11b ?_; exact ⟨by rw [Hc.out] <;> rfl, HB.out.toBelow⟩
     ·skip
      have g0 : oddI s.tape < 0 := by have h := h40; simp at h; exact h
      refine nr ?_; intros; refine P2 ?_; clear Z32 Z5 Z7 Z40; refine lx [32] ?_; clear Z1 Z30 Z31; intro _ Z1 Z30 Z31 Z32; refine ln ?_; intros
      refine ⟨_, _, rfl, ?_, 1 + 1, rfl, (rL Z32), sh, sh, sh, HL21.out, by omega, hid ⟨fun _ => Ha.out.1 (by omega), fun _ => g0, fun h => by omega⟩⟩
      omega
    ·skip
     refine region_F ?_; refine P2 ?_; have cj := Y30.cell 2 rfl
     refine P3 ?_
     clear Z33; refine lx [5,6] ?_; clear Z1 Z30 Z31 Z32; intro _ Z1 Z30 Z31 Z32 Z5 Z6; refine lr ?_; intros; refine pl ?_; refine cal (idxWord_any A.pa A.pc s.printed _ l2 (Rd.oldB HR.out.pr HB.out (by simp))) ?_; rintro e _ ⟨rfl, hb39⟩; rw [← odd_idx]; refine ⟨_, rfl, ?_⟩; clear Q1 Q30; revert HB; revert HL21; revert Y30; revert Y1; refine uA hb39 ?_; clear hb39; intro Y1 Q1 Y30 Q30 HL21 HB; refine pl ?_; clear Z6; refine lx [7] ?_; clear Z1 Z5 Z30 Z31 Z32; intro _ Z1 Z5 Z30 Z31 Z32 Z7; refine lr ?_; intros; refine P2 ?_; refine lx [40] ?_; clear Z1 Z5 Z7 Z30 Z31 Z32; intro _ Z1 Z5 Z7 Z30 Z31 Z32 Z40; refine ln ?_; intros
     refine cond_E Z40 (by decide) ?_ ?_ <;> (clear Z40; intro h40 Z40)
     ·skip
      have g0 : 0 ≤ oddI s.printed := by simpa using h40
      have Hc := hid (chk_4 H1.out (by have := Ha.out.1 (by omega); omega) (by have := Ha.out.2.1 (by omega); omega) g0)
      refine nr ?_; intros
      refine P6 ?_
      clear Z1 Z5 Z7 Z30 Z31 Z32 Z40; refine lx [2,3,4] ?_; intro _ Z2 Z3 Z4; refine ln ?_; intros
      refine XW11b ?_; exact ⟨by rw [Hc.out] <;> rfl, HB.out.toBelow⟩
     ·skip
      have g0 : oddI s.printed < 0 := by have h := h40; simp at h; exact h
      refine nr ?_; intros; refine P2 ?_; clear Z32 Z5 Z7 Z40; refine lx [32] ?_; clear Z1 Z30 Z31; intro _ Z1 Z30 Z31 Z32; refine ln ?_; intros
      refine ⟨_, _, rfl, ?_, 2 + 1, rfl, (rL Z32), sh, sh, sh, HL21.out, by omega, hid ⟨fun _ => Ha.out.1 (by omega), fun _ => Ha.out.2.1 (by omega), fun _ => g0⟩⟩
      omega
   ·skip
    have hi3 : i = 3 := by have h := h33; simp at h; omega
    have G0 := hid (show ¬ 0 ≤ oddI s.store by have := Ha.out.1 (by omega); omega); have G1 := hid (show ¬ 0 ≤ oddI s.tape by have := Ha.out.2.1 (by omega); omega); have G2 := hid (show ¬ 0 ≤ oddI s.printed by have := Ha.out.2.2 (by omega); omega)
    refine zx ?_; intros
    clear HL21; clear hc0_1 hc0_30 hc0_31; have hj44_1 := hid Z1; refine cut_any (fun sJ wJ => sJ 45 = .bool (numB s) ∧ sJ 1 = s22 1 ∧ OldB [] w19 wJ) ?_ ?_
    ·skip
     have HL45 := hid (OldB.refl [] w19); refine region_F ?_; refine pl ?_; have cb1 := clx Y1
     refine P4 ?_
     refine pas (fun _ B51 hB Y51 hb47 => ?_); have gb51 := HB.out.gB hB; have lHL45_b51 := HL45.out.gB hB; have ob1_b51 := oB Q1 hB; have ob30_b51 := oB Q30 hB; have eb51 := eB hB; clear hB; clear cb1; clear Q1 Q30; revert Y30 Y1 HB HL45; refine uA hb47 ?_; clear hb47; intro Y30 Q30 Y1 Q1 HB HL45; have Q51 := Y51.1; refine cal (oout_1 s.tape.length s.taken B51 1 _ Y51) ?_; rintro e _ ⟨rfl, hb49⟩; refine ⟨_, rfl, ?_⟩; clear Q1 Q30 Q51; revert Y51 Y30 Y1 HB HL45; refine uA hb49 ?_; clear hb49; intro Y51 Q51 Y30 Q30 Y1 Q1 HB HL45
     refine pl ?_; clear Z30 Z31 Z32 Z33; refine lx [53] ?_; clear Z1; intro _ Z1 Z53
     refine boolG Z53 (fun Z53' h53 => ?_) (fun Z53' h53 => ?_) <;> (clear Z53; have Z53 := Z53'; clear Z53')
     ·skip
      refine pn true ?_
      refine pn true ?_; refine pn true ?_; refine pn true ?_; refine P2 ?_
      refine pn true ?_
      refine pn true ?_; refine pn true ?_; refine pn true ?_; refine P2 ?_
      refine pn true ?_
      refine pn true ?_
      refine pn true ?_
      refine pn true ?_; refine pn true ?_; refine pn true ?_; refine P2 ?_
      refine pn true ?_
      refine pn true ?_; refine pn true ?_; refine pn true ?_; refine P2 ?_; clear Z53; refine lx [45] ?_; clear Z1; intro _ Z1 Z45; refine ln ?_; intros
      exact ⟨trv, _, rfl, (by rw [Z45]; unfold numB addrB; congr 1; have g53 := h53; simp at g53;  simp [g53]), sh, HL45.out⟩
     ·skip
      refine py ?_; have cb1 := clx Y1; refine py ?_; refine pasy (fun _ B56 hB Y56 hb53 => ?_); have gb56 := HB.out.gB hB; have lHL45_b56 := HL45.out.gB hB; have ob1_b56 := oB Q1 hB; have ob30_b56 := oB Q30 hB; have ob51_b56 := oB Q51 hB; have eb56 := eB hB; clear hB; clear cb1; clear Q1 Q30 Q51; revert Y51 Y30 Y1 HB HL45; refine uA hb53 ?_; clear hb53; intro Y51 Q51 Y30 Q30 Y1 Q1 HB HL45; have Q56 := Y56.1; refine listF_yes rfl rfl (by decide) ?_ (fun K' hK => ?_); (focus (go_simp; done)); unfold opF; go_simp
      refine (oout_1 1000000000 s.time B56 1 _ Y56).mono ?_; rintro e _ ⟨rfl, hb55⟩; refine ⟨_, rfl, hK _ _ ?_⟩; clear hK K'; clear Q1 Q30 Q51 Q56; revert Y56 Y51 Y30 Y1 HB HL45; refine uA hb55 ?_; clear hb55; intro Y56 Q56 Y51 Q51 Y30 Q30 Y1 Q1 HB HL45; refine P2 ?_; clear Z53; refine lx [59] ?_; clear Z1; intro _ Z1 Z59
      refine boolG Z59 (fun Z59' h59 => ?_) (fun Z59' h59 => ?_) <;> (clear Z59; have Z59 := Z59'; clear Z59')
      ·skip
       refine pn true ?_
       refine pn true ?_; refine pn true ?_; refine pn true ?_; refine P2 ?_
       refine pn true ?_
       refine pn true ?_
       refine pn true ?_
       refine pn true ?_; refine pn true ?_; refine pn true ?_; refine P2 ?_
       refine pn true ?_
       refine pn true ?_; refine pn true ?_; refine pn true ?_; refine P2 ?_; clear Z59; refine lx [45] ?_; clear Z1; intro _ Z1 Z45; refine ln ?_; intros
       exact ⟨trv, _, rfl, (by rw [Z45]; unfold numB addrB; congr 1; have g53 := h53; simp at g53; have g59 := h59; simp at g59;  simp [g53, g59]), sh, HL45.out⟩
      ·skip
       refine py ?_; have cb1 := clx Y1; refine py ?_; refine pasy (fun _ B62 hB Y62 hb59 => ?_); have gb62 := HB.out.gB hB; have lHL45_b62 := HL45.out.gB hB; have ob1_b62 := oB Q1 hB; have ob30_b62 := oB Q30 hB; have ob51_b62 := oB Q51 hB; have ob56_b62 := oB Q56 hB; have eb62 := eB hB; clear hB; clear cb1; clear Q1 Q30 Q51 Q56; revert Y56 Y51 Y30 Y1 HB HL45; refine uA hb59 ?_; clear hb59; intro Y56 Q56 Y51 Q51 Y30 Q30 Y1 Q1 HB HL45; have Q62 := Y62.1; refine listF_yes rfl rfl (by decide) ?_ (fun K' hK => ?_); (focus (go_simp; done)); unfold opF; go_simp
       refine (oout_1 127 s.pc B62 1 _ Y62).mono ?_; rintro e _ ⟨rfl, hb61⟩; refine ⟨_, rfl, hK _ _ ?_⟩; clear hK K'; clear Q1 Q30 Q51 Q56 Q62; revert Y62 Y56 Y51 Y30 Y1 HB HL45; refine uA hb61 ?_; clear hb61; intro Y62 Q62 Y56 Q56 Y51 Q51 Y30 Q30 Y1 Q1 HB HL45; refine P2 ?_; clear Z59; refine lx [65] ?_; clear Z1; intro _ Z1 Z65
       refine boolG Z65 (fun Z65' h65 => ?_) (fun Z65' h65 => ?_) <;> (clear Z65; have Z65 := Z65'; clear Z65')
       ·skip
        refine pn true ?_
        refine pn true ?_
        refine pn true ?_
        refine pn true ?_; refine pn true ?_; refine pn true ?_; refine P2 ?_
        refine pn true ?_
        refine pn true ?_; refine pn true ?_; refine pn true ?_; refine P2 ?_; clear Z65; refine lx [45] ?_; clear Z1; intro _ Z1 Z45; refine ln ?_; intros
        exact ⟨trv, _, rfl, (by rw [Z45]; unfold numB addrB; congr 1; have g53 := h53; simp at g53; have g59 := h59; simp at g59; have g65 := h65; simp at g65;  simp [g53, g59, g65]), sh, HL45.out⟩
       ·skip
        refine py ?_; have cb1 := clx Y1
        iterate 3 refine py ?_
        refine pasy (fun _ B70 hB Y70 hb65 => ?_); have gb70 := HB.out.gB hB; have lHL45_b70 := HL45.out.gB hB; have ob1_b70 := oB Q1 hB; have ob30_b70 := oB Q30 hB; have ob51_b70 := oB Q51 hB; have ob56_b70 := oB Q56 hB; have ob62_b70 := oB Q62 hB; have eb70 := eB hB; clear hB; clear cb1; clear Q1 Q30 Q51 Q56 Q62; revert Y62 Y56 Y51 Y30 Y1 HB HL45; refine uA hb65 ?_; clear hb65; intro Y62 Q62 Y56 Q56 Y51 Q51 Y30 Q30 Y1 Q1 HB HL45; have Q70 := Y70.1; refine listF_yes rfl rfl (by decide) ?_ (fun K' hK => ?_); (focus (go_simp; done)); unfold opF; go_simp; refine (oout_1 s.time s.done B70 1 _ Y70).mono ?_; rintro e _ ⟨rfl, hb67⟩; refine ⟨_, rfl, hK _ _ ?_⟩; clear hK K'
        clear Q1 Q30 Q51 Q56 Q62 Q70; revert Y70 Y62 Y56 Y51 Y30 Y1 HB HL45; refine uA hb67 ?_; clear hb67; intro Y70 Q70 Y62 Q62 Y56 Q56 Y51 Q51 Y30 Q30 Y1 Q1 HB HL45; refine P2 ?_; clear Z65; refine lx [73] ?_; clear Z1; intro _ Z1 Z73
        refine boolG Z73 (fun Z73' h73 => ?_) (fun Z73' h73 => ?_) <;> (clear Z73; have Z73 := Z73'; clear Z73')
        ·skip
         refine pn true ?_
         refine pn true ?_; refine pn true ?_; refine pn true ?_; refine P2 ?_; clear Z73; refine lx [45] ?_; clear Z1; intro _ Z1 Z45; refine ln ?_; intros
         exact XW11c
        ·skip
         refine py ?_; have cb1 := clx Y1; refine py ?_; refine pasy (fun _ B76 hB Y76 hb71 => ?_); have gb76 := HB.out.gB hB; have lHL45_b76 := HL45.out.gB hB; have ob1_b76 := oB Q1 hB; have ob30_b76 := oB Q30 hB; have ob51_b76 := oB Q51 hB; have ob56_b76 := oB Q56 hB; have ob62_b76 := oB Q62 hB; have ob70_b76 := oB Q70 hB; have eb76 := eB hB; clear hB; clear cb1; clear Q1 Q30 Q51 Q56 Q62 Q70; revert Y70 Y62 Y56 Y51 Y30 Y1 HB HL45; refine uA hb71 ?_; clear hb71; intro Y70 Q70 Y62 Q62 Y56 Q56 Y51 Q51 Y30 Q30 Y1 Q1 HB HL45; have Q76 := Y76.1; refine listF_yes rfl rfl (by decide) ?_ (fun K' hK => ?_); (focus (go_simp; done)); unfold opF; go_simp; refine (oout_1 4 s.why B76 1 _ Y76).mono ?_; rintro e _ ⟨rfl, hb73⟩; refine ⟨_, rfl, hK _ _ ?_⟩; clear hK K'; clear Q1 Q30 Q51 Q56 Q62 Q70 Q76; revert Y76 Y70 Y62 Y56 Y51 Y30 Y1 HB HL45; refine uA hb73 ?_; clear hb73; intro Y76 Q76 Y70 Q70 Y62 Q62 Y56 Q56 Y51 Q51 Y30 Q30 Y1 Q1 HB HL45; refine P2 ?_; clear Z73; refine lx [45] ?_; clear Z1; intro _ Z1 Z45
         refine ln ?_; intros
         exact XW11c
    ·skip
     clear Z30 Z31 Z32 Z33; rintro s75 w76 ⟨Z45, e1, hb77⟩; rw [← e1] at Z1; clear e1 hj44_1; clear Q1 Q30; revert Y30 Y1 HB; refine uO hb77 ?_; clear hb77; intro Y30 Q30 Y1 Q1 HB
     refine zx ?_; intros
     refine cond_E Z45 (by decide) ?_ ?_ <;> (clear Z45; intro h45 Z45)
     ·skip
      have Hc := hid (chk_5 H1.out G0.out G1.out G2.out h45)
      refine nr ?_; intros
      refine P3 ?_
      clear Z1 Z45; refine lx [2,3,4] ?_; intro _ Z2 Z3 Z4; refine ln ?_; intros
      refine XW11b ?_; exact ⟨by rw [Hc.out] <;> rfl, HB.out.toBelow⟩
     ·skip
      obtain ⟨-, ⟨n1, n2⟩, ⟨n3, n4⟩, -⟩ := num_of h45; have H6 := hid (chk_6 H1.out G0.out G1.out G2.out h45); have wd : IntKind.i64.wrap (s.time - s.pc) = s.time - s.pc := IntWalk.i64_in _ (by omega); have ht := tm16 s.time s.pc; have hb1 := Int.tmod_lt_of_pos (s.time - s.pc) (show (0 : Int) < 16 by decide); have hb2 := Int.lt_tmod_of_pos (s.time - s.pc) (show (0 : Int) < 16 by decide); obtain ⟨r, hr⟩ : ∃ r, (s.time - s.pc).tmod 16 = r := ⟨_, rfl⟩; rw [hr] at ht hb1 hb2; have wr : IntKind.i64.wrap r = r := IntWalk.i64_in _ (by omega); have Ht := hid ht; clear ht hb1 hb2
      refine nr ?_; intros; refine pl ?_; have cb1 := clx Y1
      refine P7 ?_
      clear Z1 Z45; refine lx [79] ?_; intro _ Z79; refine ln ?_; intros
      refine cond_E Z79 (by decide) ?_ ?_ <;> (clear Z79; intro h79 Z79)
      ·skip
       have Hc := hid (show chk4 s = (6, 0, 2) by rw [H6.out, if_pos (fun e => by have := Ht.out.2 e; simp [this] at h79)])
       refine nr ?_; intros
       refine P3 ?_
       clear Z79; refine lx [2,3,4] ?_; intro _ Z2 Z3 Z4; refine ln ?_; intros
       refine XW11b ?_; exact ⟨by rw [Hc.out] <;> rfl, HB.out.toBelow⟩
      ·skip
       have Hc := hid (show chk4 s = (0, 0, 0) by rw [H6.out, if_neg (fun e => e (Ht.out.1 (by simpa using h79)))])
       refine nr ?_; intros
       refine P3 ?_
       clear Z79; refine lx [2,3,4] ?_; intro _ Z2 Z3 Z4; refine ln ?_; intros
       refine XW11b ?_; exact ⟨by rw [Hc.out] <;> rfl, HB.out.toBelow⟩

theorem cloneInt_none (c : Nat) (l : List Int) (w : World) (hl : l.length ≤ 1000) (hR : RdInts w none l) :
    Calls Tryz.prog 69 #[.slice none l.length c] w (fun e w' => ∃ v, e = .returned v ∧ Own int1 1 3 w.heap.size w' v l ∧ Below w.heap.size w w') := by
 obtain ⟨i0, hi0, hz0, hz1, hz2⟩ := info_parts info_int; have HR := hid hR; clear hR
 have hnil : ∀ w, (binOp .eql 22 (.slice none l.length c) (.slice none 0 0)).run Tryz.prog w = .ok (.bool true) w := fun w => Lib.run_eql_slice_nil w _ _ _ _ _ _ _ Tryz.underlying22
 refine enter_F Tryz.func69 rfl Tryz.ntmps69 (by simp) ?_
 intro s0 hs; have Z0 : s0 0 = .slice none l.length c := hs 0 (by simp); clear hs; have HB := hid (OldB.refl [] w)
 refine nr ?_; intros; refine pl ?_; refine lx [] ?_; clear Z0; intro _ Z0; refine lr ?_; intros; refine P2 ?_; refine lx [4] ?_; clear Z0; intro _ Z0 Z4; refine ln ?_; intros
 refine cond_t ?_
 refine nr ?_; intros; refine pl ?_; clear Z0 Z4; refine lx [2] ?_; intro _ Z2; refine ln ?_; intros
 refine ret_F _ (res_t Tryz.results69 ((getD_F (by decide)).trans Z2)) ?_
 have hl0 : l = [] := by rcases HR.out with h | ⟨b, o, h, _⟩; exact h; cases h
 exact ⟨_, rfl, by rw [hl0]; exact Own.nil _ _ _ _ _, HB.out.toBelow⟩

theorem cloneInt_some (p : Addr) (c : Nat) (l : List Int) (w : World) (hl : l.length ≤ 1000) (hR : RdInts w (some p) l) :
    Calls Tryz.prog 69 #[.slice (some p) l.length c] w (fun e w' => ∃ v, e = .returned v ∧ Own int1 1 3 w.heap.size w' v l ∧ Below w.heap.size w w') := by
 obtain ⟨i0, hi0, hz0, hz1, hz2⟩ := info_parts info_int; have HR := hid hR; clear hR
 have hnil : ∀ w, (binOp .eql 22 (.slice (some p) l.length c) (.slice none 0 0)).run Tryz.prog w = .ok (.bool false) w := fun w => Lib.run_eql_slice_nil w _ _ _ _ _ _ _ Tryz.underlying22
 refine enter_F Tryz.func69 rfl Tryz.ntmps69 (by simp) ?_
 intro s0 hs; have Z0 : s0 0 = .slice (some p) l.length c := hs 0 (by simp); clear hs; have HB := hid (OldB.refl [] w)
 refine nr ?_; intros; refine pl ?_; refine lx [] ?_; clear Z0; intro _ Z0; refine lr ?_; intros; refine P2 ?_; refine lx [4] ?_; clear Z0; intro _ Z0 Z4; refine ln ?_; intros
 refine cond_f ?_
 refine nr ?_; intros; refine listF_step rfl (fun K' hK => ?_); unfold opF; go_simp; refine hK _ _ ?_; clear hK K'; refine listF_absw ?_; intro w3 hw'
 have hO5 : Own int1 1 3 w.heap.size w3 (.slice (some ⟨w.heap.size, 0, none⟩) 0 0) [] := by rw [hw']; exact Own.lit (l := ([] : List Int)) (Nat.le_refl _) (by unfold maxLen; simp) rfl (fun _ => rfl)
 have hb : Below w.heap.size w w3 := by rw [hw']; exact below_alloc1 _ _
 clear hw'; replace HB := bE HB hb; clear hb; refine pl ?_; refine listF_step rfl (fun K' hK => ?_); have hzz := HB.out.size; refine opF_app (d := 7) rfl (by decide) (.tmp 5) (.tmp 6) _ rfl 3 i0 _ 8 Tryz.underlying22 hi0 hz0 hz1 hz2 rfl (by decide) (fun _ => rfl) int_one w.heap.size _ [] l (some p) c (by go_simp) (by go_simp) hO5 (Rd.oldB HR.out HB.out (by simp)) (by unfold maxLen; simp; omega) (by simp; omega) (by omega) (fun v7 w5 hO7 hG7 hV7 => hK _ _ ?_); clear hK K'; replace HB := hid (HB.out.grown hG7 (fun k hk => .inl (by simp [Value.ownBlock] at hk; omega))); have HO7 := hid hO7; clear hO5 hG7 hV7 hzz hO7; refine pl ?_; clear Z0 Z4; refine lx [2] ?_; intro _ Z2; refine ln ?_; intros
 refine ret_F _ (res_t Tryz.results69 ((getD_F (by decide)).trans Z2)) ?_; exact ⟨_, rfl, HO7.out, HB.out.toBelow⟩

theorem cloneInt_any (a : Option Addr) (c : Nat) (l : List Int) (w : World) (hl : l.length ≤ 1000) (hR : RdInts w a l) :
    Calls Tryz.prog 69 #[.slice a l.length c] w fun e w' => ∃ v, e = .returned v ∧ Own int1 1 3 w.heap.size w' v l ∧ Below w.heap.size w w' := by
  cases a with
  | none => exact cloneInt_none c l w hl hR
  | some p => exact cloneInt_some p c l w hl hR

end Go.Proofs.YtleknidlgmmgbaaGreat
