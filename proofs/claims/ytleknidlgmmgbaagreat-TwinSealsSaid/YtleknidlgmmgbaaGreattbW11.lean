/- The program's order: Check, Clone. -/
import Derived.Test.YtleknidlgmmgbaaGreattbW10
import Derived.Test.YtleknidlgmmgbaaGreattbCX
set_option linter.all false
namespace Go.Proofs.YtleknidlgmmgbaaGreat

open Go.RowKit


abbrev notW : Int → Bool := fun n => !inI n 0 16777215
theorem odd_idx (l : List Int) : oddI l = idxOf notW l := by
  unfold idxOf
  cases hf : l.findIdx? notW with
  | none =>
    rw [List.findIdx?_eq_none_iff] at hf; exact oddU_none (fun j hj => by have := hf _ (getD_in (d := 0) hj); unfold wordB; simpa [notW] using this)
  | some i =>
    obtain ⟨h, h1, h2⟩ := List.findIdx?_eq_some_iff_getElem.1 hf; exact oddU_found h (fun j hj => by have := h2 j hj; unfold wordB; rw [getD_get (by omega)]; simpa [notW] using this) (by unfold wordB; rw [getD_get h]; simpa [notW] using h1)
theorem tm16 (a b : Int) : (a - b).tmod 16 = 0 ↔ a % 16 = b % 16 := by
  constructor
  · intro h
    have h1 := Int.mul_tdiv_add_tmod (a - b) 16
    omega
  · intro h
    exact Int.tmod_eq_zero_of_dvd (Int.dvd_of_emod_eq_zero (by omega))

set_option maxRecDepth 100000 in
set_option maxHeartbeats 1000000 in
theorem ocheck1_any (n : Int) (w : World) :
    Calls Tryz.prog 103 #[.int .i64 n] w (fun e w' => e = .returned (.bool (notW n)) ∧ Below w.heap.size w w') := by
 refine enter_F Tryz.func103 rfl Tryz.ntmps103 (by simp) ?_
 intro s0 hs; have sl0 : s0 0 = .int .i64 n := hs 0 (by simp); clear hs; have HB := hid (OldB.refl [] w)
 repeat ((fail_if_success refine stp ?_); go_step)
 refine region_F ?_; refine pl ?_; refine lsa fun s1 z' => ?_; replace sl0 := slg z' sl0; clear z'; refine lsn ?_
 repeat ((fail_if_success refine stp ?_); go_step)
 refine region_F ?_; refine pl ?_; refine pas (fun w2 B4 hB kb4' hb3 => ?_); have gb4 := HB.out.gB hB; have eb4 := eB hB; clear hB; replace HB := bE HB hb3; clear hb3; have kb4 := kb4'; clear kb4'; have qb4 := kb4.1; refine cal (oout_1 16777215 n B4 1 _ kb4) ?_; rintro e w4 ⟨rfl, hb5⟩; refine ⟨_, rfl, ?_⟩; clear qb4; replace kb4 := kb4.at hb5; replace HB := bE HB hb5; clear hb5; have qb4 := kb4.1; refine pl ?_; refine lsa fun s6 z' => ?_; have sl2 := gu 2 z'; clear z' sl0; refine lsn ?_
 repeat ((fail_if_success refine stp ?_); go_step)
 refine ret_F _ (res_t Tryz.results103 ((getD_F (by decide)).trans sl2)) ?_; exact ⟨rfl, HB.out.toBelow⟩

set_option maxRecDepth 100000 in
set_option maxHeartbeats 1000000 in
theorem idxWord_any (a : Option Addr) (c : Nat) (l : List Int)  (w : World) (hl : l.length ≤ 9223372036854775807) (hR : RdInts w a l)  :
    Calls Tryz.prog 102 #[.slice a l.length c, .func (.func 103) #[] #[]] w (fun e w' => e = .returned (.int .i64 (idxOf notW l)) ∧ Below w.heap.size w w') := by
 have HR := hid hR; clear hR
 refine enter_F Tryz.func102 rfl Tryz.ntmps102 (by simp) ?_
 intro s0 hs; have sl0 : s0 0 = .slice a l.length c := hs 0 (by simp); have sl1 : s0 1 = .func (.func 103) #[] #[] := hs 1 (by simp); clear hs; have HB := hid (OldB.refl [] w)
 repeat ((fail_if_success refine stp ?_); go_step)
 refine region_F ?_; refine pl ?_; refine lsa fun s1 z' => ?_; replace sl0 := slg z' sl0; replace sl1 := slg z' sl1; clear z'; refine lsn ?_
 repeat ((fail_if_success refine stp ?_); go_step)
 refine region_F ?_
 iterate 3 refine pl ?_
 refine lsa fun s2 z' => ?_; replace sl0 := slg z' sl0; replace sl1 := slg z' sl1; have sl7 := gu 7 z'; have sl8 := gu 8 z'; clear z'; refine lsn ?_
 repeat ((fail_if_success refine stp ?_); go_step)
 have hc0_0 := hid sl0; have hc0_1 := hid sl1; have hc0_7 := hid sl7; refine loop_F (n := 19) (fun kJ sJ wJ => ∃ (k : Nat), kJ = l.length - k ∧ sJ 8 = .int .i64 (k : Int) ∧ sJ 0 = s2 0 ∧ sJ 1 = s2 1 ∧ sJ 7 = s2 7 ∧ OldB [] w wJ ∧ k ≤ l.length ∧ Hid ((l.take k).any notW = false)) ⟨0, rfl, (by first | exact sl8 | (rw [sl8]; go_num) | (rw [sl8]; rfl)), rfl, rfl, rfl, OldB.refl _ _, Nat.zero_le _, hid rfl⟩ ?_; clear sl8; rintro kJ s3 w4 ⟨k, rfl, sl8, e0, e1, e7, hb5, hkl, hno⟩; replace sl0 := e0.trans sl0; clear e0; replace sl1 := e1.trans sl1; clear e1; replace sl7 := e7.trans sl7; clear e7; have hoJ := hb5; replace HB := mO HB hb5; clear hb5; have HoJ := hid hoJ; clear hoJ; have HL6 := HoJ; clear HoJ
 repeat ((fail_if_success refine stp ?_); go_step)
 refine region_F ?_; refine pl ?_; refine lsa fun s7 z' => ?_; replace sl0 := slg z' sl0; replace sl1 := slg z' sl1; replace sl7 := slg z' sl7; replace sl8 := slg z' sl8; have sl9 := gu 9 z'; clear z'; refine lsn ?_
 repeat ((fail_if_success refine stp ?_); go_step)
 refine cond_E sl9 (by decide) ?_ ?_ <;> (clear sl9; intro h9 sl9)
 ·skip
  have hlt : k < l.length := by simpa using h9
  obtain ⟨b, off, rfl, hb, h0⟩ := RdInts.ne (Rd.oldB HR.out HB.out (by simp)) hlt
  repeat ((fail_if_success refine stp ?_); go_step)
  refine region_F ?_; refine pl ?_; refine pl ?_; refine lsa fun s8 z' => ?_; replace sl0 := slg z' sl0; replace sl1 := slg z' sl1; have sl5 := gu 5 z'; replace sl7 := slg z' sl7; replace sl8 := slg z' sl8; clear z' sl9; refine lsn ?_
  repeat ((fail_if_success refine stp ?_); go_step)
  refine region_F ?_
  iterate 5 refine pl ?_
  refine cal (ocheck1_any l[k] _) ?_; rintro e w9 ⟨rfl, hb10⟩; refine ⟨_, rfl, ?_⟩; replace HL6 := bE HL6 hb10; replace HB := bE HB hb10; clear hb10; refine lsa fun s11 z' => ?_; replace sl0 := slg z' sl0; replace sl1 := slg z' sl1; replace sl5 := slg z' sl5; replace sl7 := slg z' sl7; replace sl8 := slg z' sl8; have sl16 := gu 16 z'; clear z'; refine lsn ?_
  repeat ((fail_if_success refine stp ?_); go_step)
  refine cond_E sl16 (by decide) ?_ ?_ <;> (clear sl16; intro h16 sl16)
  ·skip
   have Hpk := hid (idx_found hlt hno.out h16)
   repeat ((fail_if_success refine stp ?_); go_step)
   refine region_F ?_; refine pl ?_; refine pl ?_; refine lsa fun s12 z' => ?_; have sl4 := gu 4 z'; clear z' sl0 sl1 sl5 sl7 sl8 sl16; refine lsn ?_
   repeat ((fail_if_success refine stp ?_); go_step)
   refine ret_F _ (res_t Tryz.results102 ((getD_F (by decide)).trans sl4)) ?_; exact ⟨ret_int Hpk.out.symm, HB.out.toBelow⟩
  ·skip
   have hpk := hid h16
   repeat ((fail_if_success refine stp ?_); go_step)
   refine region_F ?_; refine pl ?_; refine pl ?_; refine lsa fun s13 z' => ?_; replace sl0 := slg z' sl0; replace sl1 := slg z' sl1; replace sl7 := slg z' sl7; replace sl8 := gu 8 z'; clear z' sl5 sl16; refine lsn ?_
   repeat ((fail_if_success refine stp ?_); go_step)
   refine ⟨_, _, rfl, ?_, k + 1, rfl, (rL sl8), (sl0.trans hc0_0.out.symm), (sl1.trans hc0_1.out.symm), (sl7.trans hc0_7.out.symm), HL6.out, by omega, hid (by rw [any_take_succ _ _ _ hlt, hno.out, hpk.out]; rfl)⟩
   omega
 ·skip
  have hge : l.length ≤ k := by simpa using h9
  have hno2 : l.any notW = false := by have := hno.out; rwa [List.take_of_length_le hge] at this
  have Hno := hid hno2; clear hno2
  repeat ((fail_if_success refine stp ?_); go_step)
  clear HL6; clear hc0_0 hc0_1 hc0_7; refine region_F ?_; refine pl ?_; refine lsa fun s14 z' => ?_; have sl4 := gu 4 z'; clear z' sl0 sl1 sl7 sl8 sl9; refine lsn ?_
  repeat ((fail_if_success refine stp ?_); go_step)
  refine ret_F _ (res_t Tryz.results102 ((getD_F (by decide)).trans sl4)) ?_; exact ⟨ret_int (idx_none Hno.out).symm, HB.out.toBelow⟩

set_option maxRecDepth 100000 in
set_option maxHeartbeats 16000000 in
theorem ocheck_any (s : St4) (A : SA) (w : World) (hR : RdSt w s A) (hL : LenI s) :
    Calls Tryz.prog 75 #[.agg #[.slice A.sa s.store.length A.sc, .slice A.ta s.tape.length A.tc, .int .i64 s.taken, .slice A.pa s.printed.length A.pc, .int .i64 s.time, .int .i64 s.pc, .int .i64 s.done, .int .i64 s.why]] w (fun e w' => e = .returned (.tuple #[.int .i64 (chk4 s).1, .int .i64 (chk4 s).2.1, .int .i64 (chk4 s).2.2]) ∧ Below w.heap.size w w') := by
 have HR := hid hR; clear hR; obtain ⟨l0, l1, l2⟩ := hL
 refine enter_F Tryz.func75 rfl Tryz.ntmps75 (by simp) ?_
 intro s0 hs; have sl0 : s0 0 = .agg #[.slice A.sa s.store.length A.sc, .slice A.ta s.tape.length A.tc, .int .i64 s.taken, .slice A.pa s.printed.length A.pc, .int .i64 s.time, .int .i64 s.pc, .int .i64 s.done, .int .i64 s.why] := hs 0 (by simp); clear hs; have HB := hid (OldB.refl [] w)
 repeat ((fail_if_success refine stp ?_); go_step)
 refine region_F ?_; refine pa (fun w1 B1 hB kb1' hb2 => ?_); have gb1 := HB.out.gB hB; have eb1 := eB hB; clear hB; replace HB := bE HB hb2; clear hb2; have kb1 := kb1'; clear kb1'; have qb1 := kb1.1
 iterate 3 refine pl ?_
 refine lsa fun s3 z' => ?_; have sl1 := gu 1 z'; clear z' sl0; refine lsn ?_
 repeat ((fail_if_success refine stp ?_); go_step)
 have hj4_1 := hid sl1; refine cut_any (fun sJ wJ => sJ 23 = .bool (decide (s.store.length ≠ 128 ∨ 200 < s.tape.length ∨ 200 < s.printed.length)) ∧ sJ 1 = s3 1 ∧ OldB [] w1 wJ) ?_ ?_
 ·skip
  have HL5 := hid (OldB.refl [] w1); refine region_F ?_; refine pl ?_; obtain ⟨cb1_0, cb1_1, cb1_2, cb1_3, cb1_4, cb1_5, cb1_6, cb1_7⟩ := cl8 kb1
  iterate 4 refine pl ?_
  refine lsa fun s6 z' => ?_; replace sl1 := slg z' sl1; have sl12 := gu 12 z'; clear z'
  refine boolG sl12 (fun sl12' h12 => ?_) (fun sl12' h12 => ?_) <;> (clear sl12; have sl12 := sl12'; clear sl12')
  ·skip
   refine pn true ?_
   refine pn true ?_; refine pn true ?_; refine pn true ?_; refine pl ?_; refine pl ?_
   refine pn true ?_
   refine pn true ?_; refine pn true ?_; refine pn true ?_; refine pl ?_; refine lsa fun s7 z' => ?_; replace sl1 := slg z' sl1; have sl23 := gu 23 z'; clear z' sl12; refine lsn ?_
   repeat ((fail_if_success refine stp ?_); go_step)
   clear cb1_0 cb1_1 cb1_2 cb1_3 cb1_4 cb1_5 cb1_6 cb1_7; exact ⟨rfl, _, rfl, (by rw [sl23]; congr 1; rw [Bool.eq_iff_iff]; have h := h12; simp at h; simp [h]; try omega), (sl1.trans hj4_1.out.symm), HL5.out⟩
  ·skip
   iterate 4 refine py ?_
   refine pl ?_; refine pl ?_; refine lsa fun s8 z' => ?_; replace sl1 := slg z' sl1; have sl18 := gu 18 z'; clear z' sl12
   refine boolG sl18 (fun sl18' h18 => ?_) (fun sl18' h18 => ?_) <;> (clear sl18; have sl18 := sl18'; clear sl18')
   ·skip
    refine pn true ?_
    refine pn true ?_; refine pn true ?_; refine pn true ?_; refine pl ?_; refine lsa fun s9 z' => ?_; replace sl1 := slg z' sl1; have sl23 := gu 23 z'; clear z' sl18; refine lsn ?_
    repeat ((fail_if_success refine stp ?_); go_step)
    clear cb1_0 cb1_1 cb1_2 cb1_3 cb1_4 cb1_5 cb1_6 cb1_7; exact ⟨rfl, _, rfl, (by rw [sl23]; congr 1; rw [Bool.eq_iff_iff]; have h := h18; simp at h; simp [h]; try omega), (sl1.trans hj4_1.out.symm), HL5.out⟩
   ·skip
    iterate 4 refine py ?_
    refine pl ?_; refine lsa fun s10 z' => ?_; replace sl1 := slg z' sl1; have sl23 := gu 23 z'; clear z' sl18; refine lsn ?_
    repeat ((fail_if_success refine stp ?_); go_step)
    clear cb1_0 cb1_1 cb1_2 cb1_3 cb1_4 cb1_5 cb1_6 cb1_7; exact ⟨rfl, _, rfl, (by rw [sl23]; congr 1; rw [Bool.eq_iff_iff]; have h := h18; have h2 := h12; simp at h h2; simp; omega), (sl1.trans hj4_1.out.symm), HL5.out⟩
 ·skip
  rintro s11 w12 ⟨sl23, e1, hb13⟩; replace sl1 := e1.trans sl1; clear e1 hj4_1; clear qb1; replace kb1 := kb1.oB hb13; replace HB := mO HB hb13; clear hb13; have qb1 := kb1.1
  repeat ((fail_if_success refine stp ?_); go_step)
  refine cond_E sl23 (by decide) ?_ ?_ <;> (clear sl23; intro h23 sl23)
  ·skip
   have Hc := hid (chk_1 (show (s.store.length ≠ 128 ∨ 200 < s.tape.length ∨ 200 < s.printed.length) by simpa using h23))
   repeat ((fail_if_success refine stp ?_); go_step)
   refine region_F ?_
   iterate 3 refine pl ?_
   refine lsa fun s14 z' => ?_; have sl2 := gu 2 z'; have sl3 := gu 3 z'; have sl4 := gu 4 z'; clear z' sl1 sl23; refine lsn ?_
   repeat ((fail_if_success refine stp ?_); go_step)
   refine ret_F _ (res_ttt Tryz.results75 ((getD_F (by decide)).trans sl2) ((getD_F (by decide)).trans sl3) ((getD_F (by decide)).trans sl4)) ?_; exact ⟨by rw [Hc.out] <;> rfl, HB.out.toBelow⟩
  ·skip
   have H1 := hid (show ¬ (s.store.length ≠ 128 ∨ 200 < s.tape.length ∨ 200 < s.printed.length) by simpa using h23)
   repeat ((fail_if_success refine stp ?_); go_step)
   refine region_F ?_; refine pl ?_; obtain ⟨cb1_0, cb1_1, cb1_2, cb1_3, cb1_4, cb1_5, cb1_6, cb1_7⟩ := cl8 kb1
   iterate 5 refine pl ?_
   refine pas (fun w15 B30 hB kb30' hb16 => ?_); have gb30 := HB.out.gB hB; have ob1_b30 := oB qb1 hB; have eb30 := eB hB; clear hB; clear cb1_0 cb1_1 cb1_2 cb1_3 cb1_4 cb1_5 cb1_6 cb1_7; clear qb1; replace kb1 := kb1.at hb16; replace HB := bE HB hb16; clear hb16; have qb1 := kb1.1; have kb30 := kb30'; clear kb30'; have qb30 := kb30.1; refine pl ?_; refine pl ?_; refine lsa fun s17 z' => ?_; replace sl1 := slg z' sl1; have sl30 := gu 30 z'; have sl31 := gu 31 z'; have sl32 := gu 32 z'; clear z' sl23; refine lsn ?_
   repeat ((fail_if_success refine stp ?_); go_step)
   have hc0_1 := hid sl1; have hc0_30 := hid sl30; have hc0_31 := hid sl31; refine loop_F (n := 87) (fun kJ sJ wJ => ∃ (i : Nat), kJ = 3 - i ∧ sJ 32 = .int .i64 (i : Int) ∧ sJ 1 = s17 1 ∧ sJ 30 = s17 30 ∧ sJ 31 = s17 31 ∧ OldB [] w15 wJ ∧ i ≤ 3 ∧ (Hid ((0 < i → oddI s.store < 0) ∧ (1 < i → oddI s.tape < 0) ∧ (2 < i → oddI s.printed < 0)))) ⟨0, rfl, (by first | exact sl32 | (rw [sl32]; go_num) | (rw [sl32]; rfl)), rfl, rfl, rfl, OldB.refl _ _, by omega, hid ⟨fun h => by omega, fun h => by omega, fun h => by omega⟩⟩ ?_; clear sl32; rintro kJ s18 w19 ⟨i, rfl, sl32, e1, e30, e31, hb20, hi4, Ha⟩; replace sl1 := e1.trans sl1; clear e1; replace sl30 := e30.trans sl30; clear e30; replace sl31 := e31.trans sl31; clear e31; have hoJ := hb20; clear qb1 qb30; replace kb1 := kb1.oB hb20; replace kb30 := kb30.oB hb20; replace HB := mO HB hb20
   clear hb20; have qb1 := kb1.1; have qb30 := kb30.1; have HoJ := hid hoJ; clear hoJ; have HL21 := HoJ; clear HoJ
   repeat ((fail_if_success refine stp ?_); go_step)
   refine region_F ?_; refine pl ?_; refine lsa fun s22 z' => ?_; replace sl1 := slg z' sl1; replace sl30 := slg z' sl30; replace sl31 := slg z' sl31; replace sl32 := slg z' sl32; have sl33 := gu 33 z'; clear z'; refine lsn ?_
   repeat ((fail_if_success refine stp ?_); go_step)
   refine cond_E sl33 (by decide) ?_ ?_ <;> (clear sl33; intro h33 sl33)
   ·skip
    have hi3 : i < 3 := by have h := h33; simp at h; omega
    repeat ((fail_if_success refine stp ?_); go_step)
    rcases (show i = 0 ∨ i = 1 ∨ i = 2 by omega) with rfl | rfl | rfl
    ·skip
     refine region_F ?_; refine pl ?_; refine pl ?_; have cj := kb30.cell 0 rfl
     iterate 3 refine pl ?_
     refine lsa fun s23 z' => ?_; replace sl1 := slg z' sl1; have sl5 := gu 5 z'; have sl6 := gu 6 z'; replace sl30 := slg z' sl30; replace sl31 := slg z' sl31; replace sl32 := slg z' sl32; clear z' sl33; refine lsn ?_
     repeat ((fail_if_success refine stp ?_); go_step)
     refine region_F ?_; refine pl ?_; refine cal (idxWord_any A.sa A.sc s.store _ l0 (Rd.oldB HR.out.st HB.out (by simp))) ?_; rintro e w24 ⟨rfl, hb25⟩; rw [← odd_idx]; refine ⟨_, rfl, ?_⟩; clear qb1 qb30; replace kb1 := kb1.at hb25; replace kb30 := kb30.at hb25; replace HL21 := bE HL21 hb25; replace HB := bE HB hb25; clear hb25; have qb1 := kb1.1; have qb30 := kb30.1; refine pl ?_; refine lsa fun s26 z' => ?_; replace sl1 := slg z' sl1; replace sl5 := slg z' sl5; have sl7 := gu 7 z'; replace sl30 := slg z' sl30; replace sl31 := slg z' sl31; replace sl32 := slg z' sl32; clear z' sl6; refine lsn ?_
     repeat ((fail_if_success refine stp ?_); go_step)
     refine region_F ?_; refine pl ?_; refine pl ?_; refine lsa fun s27 z' => ?_; replace sl1 := slg z' sl1; replace sl5 := slg z' sl5; replace sl7 := slg z' sl7; replace sl30 := slg z' sl30; replace sl31 := slg z' sl31; replace sl32 := slg z' sl32; have sl40 := gu 40 z'; clear z'; refine lsn ?_
     repeat ((fail_if_success refine stp ?_); go_step)
     refine cond_E sl40 (by decide) ?_ ?_ <;> (clear sl40; intro h40 sl40)
     ·skip
      have g0 : 0 ≤ oddI s.store := by simpa using h40
      have Hc := hid (chk_2 H1.out g0)
      repeat ((fail_if_success refine stp ?_); go_step)
      refine region_F ?_
      iterate 6 refine pl ?_
      refine lsa fun s28 z' => ?_; have sl2 := gu 2 z'; have sl3 := gu 3 z'; have sl4 := gu 4 z'; clear z' sl1 sl5 sl7 sl30 sl31 sl32 sl40; refine lsn ?_
      repeat ((fail_if_success refine stp ?_); go_step)
      refine ret_F _ (res_ttt Tryz.results75 ((getD_F (by decide)).trans sl2) ((getD_F (by decide)).trans sl3) ((getD_F (by decide)).trans sl4)) ?_; exact ⟨by rw [Hc.out] <;> rfl, HB.out.toBelow⟩
     ·skip
      have g0 : oddI s.store < 0 := by have h := h40; simp at h; exact h
      repeat ((fail_if_success refine stp ?_); go_step)
      refine region_F ?_; refine pl ?_; refine pl ?_; refine lsa fun s29 z' => ?_; replace sl1 := slg z' sl1; replace sl30 := slg z' sl30; replace sl31 := slg z' sl31; replace sl32 := gu 32 z'; clear z' sl5 sl7 sl40; refine lsn ?_
      repeat ((fail_if_success refine stp ?_); go_step)
      refine ⟨_, _, rfl, ?_, 0 + 1, rfl, (rL sl32), (sl1.trans hc0_1.out.symm), (sl30.trans hc0_30.out.symm), (sl31.trans hc0_31.out.symm), HL21.out, by omega, hid ⟨fun _ => g0, fun h => by omega, fun h => by omega⟩⟩
      omega
    ·skip
     refine region_F ?_; refine pl ?_; refine pl ?_; have cj := kb30.cell 1 rfl
     iterate 3 refine pl ?_
     refine lsa fun s30 z' => ?_; replace sl1 := slg z' sl1; have sl5 := gu 5 z'; have sl6 := gu 6 z'; replace sl30 := slg z' sl30; replace sl31 := slg z' sl31; replace sl32 := slg z' sl32; clear z' sl33; refine lsn ?_
     repeat ((fail_if_success refine stp ?_); go_step)
     refine region_F ?_; refine pl ?_; refine cal (idxWord_any A.ta A.tc s.tape _ l1 (Rd.oldB HR.out.tp HB.out (by simp))) ?_; rintro e w31 ⟨rfl, hb32⟩; rw [← odd_idx]; refine ⟨_, rfl, ?_⟩; clear qb1 qb30; replace kb1 := kb1.at hb32; replace kb30 := kb30.at hb32; replace HL21 := bE HL21 hb32; replace HB := bE HB hb32; clear hb32; have qb1 := kb1.1; have qb30 := kb30.1; refine pl ?_; refine lsa fun s33 z' => ?_; replace sl1 := slg z' sl1; replace sl5 := slg z' sl5; have sl7 := gu 7 z'; replace sl30 := slg z' sl30; replace sl31 := slg z' sl31; replace sl32 := slg z' sl32; clear z' sl6; refine lsn ?_
     repeat ((fail_if_success refine stp ?_); go_step)
     refine region_F ?_; refine pl ?_; refine pl ?_; refine lsa fun s34 z' => ?_; replace sl1 := slg z' sl1; replace sl5 := slg z' sl5; replace sl7 := slg z' sl7; replace sl30 := slg z' sl30; replace sl31 := slg z' sl31; replace sl32 := slg z' sl32; have sl40 := gu 40 z'; clear z'; refine lsn ?_
     repeat ((fail_if_success refine stp ?_); go_step)
     refine cond_E sl40 (by decide) ?_ ?_ <;> (clear sl40; intro h40 sl40)
     ·skip
      have g0 : 0 ≤ oddI s.tape := by simpa using h40
      have Hc := hid (chk_3 H1.out (by have := Ha.out.1 (by omega); omega) g0)
      repeat ((fail_if_success refine stp ?_); go_step)
      refine region_F ?_
      iterate 6 refine pl ?_
      refine lsa fun s35 z' => ?_; have sl2 := gu 2 z'; have sl3 := gu 3 z'; have sl4 := gu 4 z'; clear z' sl1 sl5 sl7 sl30 sl31 sl32 sl40; refine lsn ?_
      repeat ((fail_if_success refine stp ?_); go_step)
      refine ret_F _ (res_ttt Tryz.results75 ((getD_F (by decide)).trans sl2) ((getD_F (by decide)).trans sl3) ((getD_F (by decide)).trans sl4)) ?_; exact ⟨by rw [Hc.out] <;> rfl, HB.out.toBelow⟩
     ·skip
      have g0 : oddI s.tape < 0 := by have h := h40; simp at h; exact h
      repeat ((fail_if_success refine stp ?_); go_step)
      refine region_F ?_; refine pl ?_; refine pl ?_; refine lsa fun s36 z' => ?_; replace sl1 := slg z' sl1; replace sl30 := slg z' sl30; replace sl31 := slg z' sl31; replace sl32 := gu 32 z'; clear z' sl5 sl7 sl40; refine lsn ?_
      repeat ((fail_if_success refine stp ?_); go_step)
      refine ⟨_, _, rfl, ?_, 1 + 1, rfl, (rL sl32), (sl1.trans hc0_1.out.symm), (sl30.trans hc0_30.out.symm), (sl31.trans hc0_31.out.symm), HL21.out, by omega, hid ⟨fun _ => Ha.out.1 (by omega), fun _ => g0, fun h => by omega⟩⟩
      omega
    ·skip
     refine region_F ?_; refine pl ?_; refine pl ?_; have cj := kb30.cell 2 rfl
     iterate 3 refine pl ?_
     refine lsa fun s37 z' => ?_; replace sl1 := slg z' sl1; have sl5 := gu 5 z'; have sl6 := gu 6 z'; replace sl30 := slg z' sl30; replace sl31 := slg z' sl31; replace sl32 := slg z' sl32; clear z' sl33; refine lsn ?_
     repeat ((fail_if_success refine stp ?_); go_step)
     refine region_F ?_; refine pl ?_; refine cal (idxWord_any A.pa A.pc s.printed _ l2 (Rd.oldB HR.out.pr HB.out (by simp))) ?_; rintro e w38 ⟨rfl, hb39⟩; rw [← odd_idx]; refine ⟨_, rfl, ?_⟩; clear qb1 qb30; replace kb1 := kb1.at hb39; replace kb30 := kb30.at hb39; replace HL21 := bE HL21 hb39; replace HB := bE HB hb39; clear hb39; have qb1 := kb1.1; have qb30 := kb30.1; refine pl ?_; refine lsa fun s40 z' => ?_; replace sl1 := slg z' sl1; replace sl5 := slg z' sl5; have sl7 := gu 7 z'; replace sl30 := slg z' sl30; replace sl31 := slg z' sl31; replace sl32 := slg z' sl32; clear z' sl6; refine lsn ?_
     repeat ((fail_if_success refine stp ?_); go_step)
     refine region_F ?_; refine pl ?_; refine pl ?_; refine lsa fun s41 z' => ?_; replace sl1 := slg z' sl1; replace sl5 := slg z' sl5; replace sl7 := slg z' sl7; replace sl30 := slg z' sl30; replace sl31 := slg z' sl31; replace sl32 := slg z' sl32; have sl40 := gu 40 z'; clear z'; refine lsn ?_
     repeat ((fail_if_success refine stp ?_); go_step)
     refine cond_E sl40 (by decide) ?_ ?_ <;> (clear sl40; intro h40 sl40)
     ·skip
      have g0 : 0 ≤ oddI s.printed := by simpa using h40
      have Hc := hid (chk_4 H1.out (by have := Ha.out.1 (by omega); omega) (by have := Ha.out.2.1 (by omega); omega) g0)
      repeat ((fail_if_success refine stp ?_); go_step)
      refine region_F ?_
      iterate 6 refine pl ?_
      refine lsa fun s42 z' => ?_; have sl2 := gu 2 z'; have sl3 := gu 3 z'; have sl4 := gu 4 z'; clear z' sl1 sl5 sl7 sl30 sl31 sl32 sl40; refine lsn ?_
      repeat ((fail_if_success refine stp ?_); go_step)
      refine ret_F _ (res_ttt Tryz.results75 ((getD_F (by decide)).trans sl2) ((getD_F (by decide)).trans sl3) ((getD_F (by decide)).trans sl4)) ?_; exact ⟨by rw [Hc.out] <;> rfl, HB.out.toBelow⟩
     ·skip
      have g0 : oddI s.printed < 0 := by have h := h40; simp at h; exact h
      repeat ((fail_if_success refine stp ?_); go_step)
      refine region_F ?_; refine pl ?_; refine pl ?_; refine lsa fun s43 z' => ?_; replace sl1 := slg z' sl1; replace sl30 := slg z' sl30; replace sl31 := slg z' sl31; replace sl32 := gu 32 z'; clear z' sl5 sl7 sl40; refine lsn ?_
      repeat ((fail_if_success refine stp ?_); go_step)
      refine ⟨_, _, rfl, ?_, 2 + 1, rfl, (rL sl32), (sl1.trans hc0_1.out.symm), (sl30.trans hc0_30.out.symm), (sl31.trans hc0_31.out.symm), HL21.out, by omega, hid ⟨fun _ => Ha.out.1 (by omega), fun _ => Ha.out.2.1 (by omega), fun _ => g0⟩⟩
      omega
   ·skip
    have hi3 : i = 3 := by have h := h33; simp at h; omega
    have G0 := hid (show ¬ 0 ≤ oddI s.store by have := Ha.out.1 (by omega); omega); have G1 := hid (show ¬ 0 ≤ oddI s.tape by have := Ha.out.2.1 (by omega); omega); have G2 := hid (show ¬ 0 ≤ oddI s.printed by have := Ha.out.2.2 (by omega); omega)
    repeat ((fail_if_success refine stp ?_); go_step)
    clear HL21; clear hc0_1 hc0_30 hc0_31; have hj44_1 := hid sl1; refine cut_any (fun sJ wJ => sJ 45 = .bool (numB s) ∧ sJ 1 = s22 1 ∧ OldB [] w19 wJ) ?_ ?_
    ·skip
     have HL45 := hid (OldB.refl [] w19); refine region_F ?_; refine pl ?_; obtain ⟨cb1_0, cb1_1, cb1_2, cb1_3, cb1_4, cb1_5, cb1_6, cb1_7⟩ := cl8 kb1
     iterate 4 refine pl ?_
     refine pas (fun w46 B51 hB kb51' hb47 => ?_); have gb51 := HB.out.gB hB; have lHL45_b51 := HL45.out.gB hB; have ob1_b51 := oB qb1 hB; have ob30_b51 := oB qb30 hB; have eb51 := eB hB; clear hB; clear cb1_0 cb1_1 cb1_2 cb1_3 cb1_4 cb1_5 cb1_6 cb1_7; clear qb1 qb30; replace kb1 := kb1.at hb47; replace kb30 := kb30.at hb47; replace HL45 := bE HL45 hb47; replace HB := bE HB hb47; clear hb47; have qb1 := kb1.1; have qb30 := kb30.1; have kb51 := kb51'; clear kb51'; have qb51 := kb51.1; refine cal (oout_1 s.tape.length s.taken B51 1 _ kb51) ?_; rintro e w48 ⟨rfl, hb49⟩; refine ⟨_, rfl, ?_⟩; clear qb1 qb30 qb51; replace kb1 := kb1.at hb49; replace kb30 := kb30.at hb49; replace kb51 := kb51.at hb49; replace HL45 := bE HL45 hb49; replace HB := bE HB hb49; clear hb49; have qb1 := kb1.1; have qb30 := kb30.1; have qb51 := kb51.1
     refine pl ?_; refine lsa fun s50 z' => ?_; replace sl1 := slg z' sl1; have sl53 := gu 53 z'; clear z' sl30 sl31 sl32 sl33
     refine boolG sl53 (fun sl53' h53 => ?_) (fun sl53' h53 => ?_) <;> (clear sl53; have sl53 := sl53'; clear sl53')
     ·skip
      refine pn true ?_
      refine pn true ?_; refine pn true ?_; refine pn true ?_; refine pl ?_; refine pl ?_
      refine pn true ?_
      refine pn true ?_; refine pn true ?_; refine pn true ?_; refine pl ?_; refine pl ?_
      refine pn true ?_
      refine pn true ?_
      refine pn true ?_
      refine pn true ?_; refine pn true ?_; refine pn true ?_; refine pl ?_; refine pl ?_
      refine pn true ?_
      refine pn true ?_; refine pn true ?_; refine pn true ?_; refine pl ?_; refine pl ?_; refine lsa fun s51 z' => ?_; replace sl1 := slg z' sl1; have sl45 := gu 45 z'; clear z' sl53; refine lsn ?_
      repeat ((fail_if_success refine stp ?_); go_step)
      exact ⟨rfl, _, rfl, (by rw [sl45]; unfold numB addrB; congr 1; have g53 := h53; simp at g53;  simp [g53]), (sl1.trans hj44_1.out.symm), HL45.out⟩
     ·skip
      refine py ?_; obtain ⟨cb1_0, cb1_1, cb1_2, cb1_3, cb1_4, cb1_5, cb1_6, cb1_7⟩ := cl8 kb1; refine py ?_; refine pasy (fun w52 B56 hB kb56' hb53 => ?_); have gb56 := HB.out.gB hB; have lHL45_b56 := HL45.out.gB hB; have ob1_b56 := oB qb1 hB; have ob30_b56 := oB qb30 hB; have ob51_b56 := oB qb51 hB; have eb56 := eB hB; clear hB; clear cb1_0 cb1_1 cb1_2 cb1_3 cb1_4 cb1_5 cb1_6 cb1_7; clear qb1 qb30 qb51; replace kb1 := kb1.at hb53; replace kb30 := kb30.at hb53; replace kb51 := kb51.at hb53; replace HL45 := bE HL45 hb53; replace HB := bE HB hb53; clear hb53; have qb1 := kb1.1; have qb30 := kb30.1; have qb51 := kb51.1; have kb56 := kb56'; clear kb56'; have qb56 := kb56.1; refine listF_yes rfl rfl (by decide) ?_ (fun K' hK => ?_); (focus (go_simp; done)); unfold opF; go_simp
      refine (oout_1 1000000000 s.time B56 1 _ kb56).mono ?_; rintro e w54 ⟨rfl, hb55⟩; refine ⟨_, rfl, hK _ _ ?_⟩; clear hK K'; clear qb1 qb30 qb51 qb56; replace kb1 := kb1.at hb55; replace kb30 := kb30.at hb55; replace kb51 := kb51.at hb55; replace kb56 := kb56.at hb55; replace HL45 := bE HL45 hb55; replace HB := bE HB hb55; clear hb55; have qb1 := kb1.1; have qb30 := kb30.1; have qb51 := kb51.1; have qb56 := kb56.1; refine pl ?_; refine pl ?_; refine lsa fun s56 z' => ?_; replace sl1 := slg z' sl1; have sl59 := gu 59 z'; clear z' sl53
      refine boolG sl59 (fun sl59' h59 => ?_) (fun sl59' h59 => ?_) <;> (clear sl59; have sl59 := sl59'; clear sl59')
      ·skip
       refine pn true ?_
       refine pn true ?_; refine pn true ?_; refine pn true ?_; refine pl ?_; refine pl ?_
       refine pn true ?_
       refine pn true ?_
       refine pn true ?_
       refine pn true ?_; refine pn true ?_; refine pn true ?_; refine pl ?_; refine pl ?_
       refine pn true ?_
       refine pn true ?_; refine pn true ?_; refine pn true ?_; refine pl ?_; refine pl ?_; refine lsa fun s57 z' => ?_; replace sl1 := slg z' sl1; have sl45 := gu 45 z'; clear z' sl59; refine lsn ?_
       repeat ((fail_if_success refine stp ?_); go_step)
       exact ⟨rfl, _, rfl, (by rw [sl45]; unfold numB addrB; congr 1; have g53 := h53; simp at g53; have g59 := h59; simp at g59;  simp [g53, g59]), (sl1.trans hj44_1.out.symm), HL45.out⟩
      ·skip
       refine py ?_; obtain ⟨cb1_0, cb1_1, cb1_2, cb1_3, cb1_4, cb1_5, cb1_6, cb1_7⟩ := cl8 kb1; refine py ?_; refine pasy (fun w58 B62 hB kb62' hb59 => ?_); have gb62 := HB.out.gB hB; have lHL45_b62 := HL45.out.gB hB; have ob1_b62 := oB qb1 hB; have ob30_b62 := oB qb30 hB; have ob51_b62 := oB qb51 hB; have ob56_b62 := oB qb56 hB; have eb62 := eB hB; clear hB; clear cb1_0 cb1_1 cb1_2 cb1_3 cb1_4 cb1_5 cb1_6 cb1_7; clear qb1 qb30 qb51 qb56; replace kb1 := kb1.at hb59; replace kb30 := kb30.at hb59; replace kb51 := kb51.at hb59; replace kb56 := kb56.at hb59; replace HL45 := bE HL45 hb59; replace HB := bE HB hb59; clear hb59; have qb1 := kb1.1; have qb30 := kb30.1; have qb51 := kb51.1; have qb56 := kb56.1; have kb62 := kb62'; clear kb62'; have qb62 := kb62.1; refine listF_yes rfl rfl (by decide) ?_ (fun K' hK => ?_); (focus (go_simp; done)); unfold opF; go_simp
       refine (oout_1 127 s.pc B62 1 _ kb62).mono ?_; rintro e w60 ⟨rfl, hb61⟩; refine ⟨_, rfl, hK _ _ ?_⟩; clear hK K'; clear qb1 qb30 qb51 qb56 qb62; replace kb1 := kb1.at hb61; replace kb30 := kb30.at hb61; replace kb51 := kb51.at hb61; replace kb56 := kb56.at hb61; replace kb62 := kb62.at hb61; replace HL45 := bE HL45 hb61; replace HB := bE HB hb61; clear hb61; have qb1 := kb1.1; have qb30 := kb30.1; have qb51 := kb51.1; have qb56 := kb56.1; have qb62 := kb62.1; refine pl ?_; refine pl ?_; refine lsa fun s62 z' => ?_; replace sl1 := slg z' sl1; have sl65 := gu 65 z'; clear z' sl59
       refine boolG sl65 (fun sl65' h65 => ?_) (fun sl65' h65 => ?_) <;> (clear sl65; have sl65 := sl65'; clear sl65')
       ·skip
        refine pn true ?_
        refine pn true ?_
        refine pn true ?_
        refine pn true ?_; refine pn true ?_; refine pn true ?_; refine pl ?_; refine pl ?_
        refine pn true ?_
        refine pn true ?_; refine pn true ?_; refine pn true ?_; refine pl ?_; refine pl ?_; refine lsa fun s63 z' => ?_; replace sl1 := slg z' sl1; have sl45 := gu 45 z'; clear z' sl65; refine lsn ?_
        repeat ((fail_if_success refine stp ?_); go_step)
        exact ⟨rfl, _, rfl, (by rw [sl45]; unfold numB addrB; congr 1; have g53 := h53; simp at g53; have g59 := h59; simp at g59; have g65 := h65; simp at g65;  simp [g53, g59, g65]), (sl1.trans hj44_1.out.symm), HL45.out⟩
       ·skip
        refine py ?_; obtain ⟨cb1_0, cb1_1, cb1_2, cb1_3, cb1_4, cb1_5, cb1_6, cb1_7⟩ := cl8 kb1
        iterate 3 refine py ?_
        refine pasy (fun w64 B70 hB kb70' hb65 => ?_); have gb70 := HB.out.gB hB; have lHL45_b70 := HL45.out.gB hB; have ob1_b70 := oB qb1 hB; have ob30_b70 := oB qb30 hB; have ob51_b70 := oB qb51 hB; have ob56_b70 := oB qb56 hB; have ob62_b70 := oB qb62 hB; have eb70 := eB hB; clear hB; clear cb1_0 cb1_1 cb1_2 cb1_3 cb1_4 cb1_5 cb1_6 cb1_7; clear qb1 qb30 qb51 qb56 qb62; replace kb1 := kb1.at hb65; replace kb30 := kb30.at hb65; replace kb51 := kb51.at hb65; replace kb56 := kb56.at hb65; replace kb62 := kb62.at hb65; replace HL45 := bE HL45 hb65; replace HB := bE HB hb65; clear hb65; have qb1 := kb1.1; have qb30 := kb30.1; have qb51 := kb51.1; have qb56 := kb56.1; have qb62 := kb62.1; have kb70 := kb70'; clear kb70'; have qb70 := kb70.1; refine listF_yes rfl rfl (by decide) ?_ (fun K' hK => ?_); (focus (go_simp; done)); unfold opF; go_simp; refine (oout_1 s.time s.done B70 1 _ kb70).mono ?_; rintro e w66 ⟨rfl, hb67⟩; refine ⟨_, rfl, hK _ _ ?_⟩; clear hK K'
        clear qb1 qb30 qb51 qb56 qb62 qb70; replace kb1 := kb1.at hb67; replace kb30 := kb30.at hb67; replace kb51 := kb51.at hb67; replace kb56 := kb56.at hb67; replace kb62 := kb62.at hb67; replace kb70 := kb70.at hb67; replace HL45 := bE HL45 hb67; replace HB := bE HB hb67; clear hb67; have qb1 := kb1.1; have qb30 := kb30.1; have qb51 := kb51.1; have qb56 := kb56.1; have qb62 := kb62.1; have qb70 := kb70.1; refine pl ?_; refine pl ?_; refine lsa fun s68 z' => ?_; replace sl1 := slg z' sl1; have sl73 := gu 73 z'; clear z' sl65
        refine boolG sl73 (fun sl73' h73 => ?_) (fun sl73' h73 => ?_) <;> (clear sl73; have sl73 := sl73'; clear sl73')
        ·skip
         refine pn true ?_
         refine pn true ?_; refine pn true ?_; refine pn true ?_; refine pl ?_; refine pl ?_; refine lsa fun s69 z' => ?_; replace sl1 := slg z' sl1; have sl45 := gu 45 z'; clear z' sl73; refine lsn ?_
         repeat ((fail_if_success refine stp ?_); go_step)
         exact ⟨rfl, _, rfl, (by rw [sl45]; unfold numB addrB; congr 1; have g53 := h53; simp at g53; have g59 := h59; simp at g59; have g65 := h65; simp at g65; have g73 := h73; simp at g73;  simp [g53, g59, g65, g73]), (sl1.trans hj44_1.out.symm), HL45.out⟩
        ·skip
         refine py ?_; obtain ⟨cb1_0, cb1_1, cb1_2, cb1_3, cb1_4, cb1_5, cb1_6, cb1_7⟩ := cl8 kb1; refine py ?_; refine pasy (fun w70 B76 hB kb76' hb71 => ?_); have gb76 := HB.out.gB hB; have lHL45_b76 := HL45.out.gB hB; have ob1_b76 := oB qb1 hB; have ob30_b76 := oB qb30 hB; have ob51_b76 := oB qb51 hB; have ob56_b76 := oB qb56 hB; have ob62_b76 := oB qb62 hB; have ob70_b76 := oB qb70 hB; have eb76 := eB hB; clear hB; clear cb1_0 cb1_1 cb1_2 cb1_3 cb1_4 cb1_5 cb1_6 cb1_7; clear qb1 qb30 qb51 qb56 qb62 qb70; replace kb1 := kb1.at hb71; replace kb30 := kb30.at hb71; replace kb51 := kb51.at hb71; replace kb56 := kb56.at hb71; replace kb62 := kb62.at hb71; replace kb70 := kb70.at hb71; replace HL45 := bE HL45 hb71; replace HB := bE HB hb71; clear hb71; have qb1 := kb1.1; have qb30 := kb30.1
         have qb51 := kb51.1; have qb56 := kb56.1; have qb62 := kb62.1; have qb70 := kb70.1; have kb76 := kb76'; clear kb76'; have qb76 := kb76.1; refine listF_yes rfl rfl (by decide) ?_ (fun K' hK => ?_); (focus (go_simp; done)); unfold opF; go_simp; refine (oout_1 4 s.why B76 1 _ kb76).mono ?_; rintro e w72 ⟨rfl, hb73⟩; refine ⟨_, rfl, hK _ _ ?_⟩; clear hK K'; clear qb1 qb30 qb51 qb56 qb62 qb70 qb76; replace kb1 := kb1.at hb73; replace kb30 := kb30.at hb73; replace kb51 := kb51.at hb73; replace kb56 := kb56.at hb73; replace kb62 := kb62.at hb73; replace kb70 := kb70.at hb73; replace kb76 := kb76.at hb73; replace HL45 := bE HL45 hb73; replace HB := bE HB hb73; clear hb73; have qb1 := kb1.1; have qb30 := kb30.1; have qb51 := kb51.1; have qb56 := kb56.1; have qb62 := kb62.1; have qb70 := kb70.1; have qb76 := kb76.1; refine pl ?_; refine pl ?_; refine lsa fun s74 z' => ?_; replace sl1 := slg z' sl1; have sl45 := gu 45 z'; clear z' sl73
         refine lsn ?_
         repeat ((fail_if_success refine stp ?_); go_step)
         exact ⟨rfl, _, rfl, (by rw [sl45]; unfold numB addrB; congr 1; have g53 := h53; simp at g53; have g59 := h59; simp at g59; have g65 := h65; simp at g65; have g73 := h73; simp at g73;  simp [g53, g59, g65, g73]), (sl1.trans hj44_1.out.symm), HL45.out⟩
    ·skip
     clear sl30 sl31 sl32 sl33; rintro s75 w76 ⟨sl45, e1, hb77⟩; replace sl1 := e1.trans sl1; clear e1 hj44_1; clear qb1 qb30; replace kb1 := kb1.oB hb77; replace kb30 := kb30.oB hb77; replace HB := mO HB hb77; clear hb77; have qb1 := kb1.1; have qb30 := kb30.1
     repeat ((fail_if_success refine stp ?_); go_step)
     refine cond_E sl45 (by decide) ?_ ?_ <;> (clear sl45; intro h45 sl45)
     ·skip
      have Hc := hid (chk_5 H1.out G0.out G1.out G2.out h45)
      repeat ((fail_if_success refine stp ?_); go_step)
      refine region_F ?_
      iterate 3 refine pl ?_
      refine lsa fun s78 z' => ?_; have sl2 := gu 2 z'; have sl3 := gu 3 z'; have sl4 := gu 4 z'; clear z' sl1 sl45; refine lsn ?_
      repeat ((fail_if_success refine stp ?_); go_step)
      refine ret_F _ (res_ttt Tryz.results75 ((getD_F (by decide)).trans sl2) ((getD_F (by decide)).trans sl3) ((getD_F (by decide)).trans sl4)) ?_; exact ⟨by rw [Hc.out] <;> rfl, HB.out.toBelow⟩
     ·skip
      obtain ⟨-, ⟨n1, n2⟩, ⟨n3, n4⟩, -⟩ := num_of h45; have H6 := hid (chk_6 H1.out G0.out G1.out G2.out h45); have wd : IntKind.i64.wrap (s.time - s.pc) = s.time - s.pc := IntWalk.i64_in _ (by omega); have ht := tm16 s.time s.pc; have hb1 := Int.tmod_lt_of_pos (s.time - s.pc) (show (0 : Int) < 16 by decide); have hb2 := Int.lt_tmod_of_pos (s.time - s.pc) (show (0 : Int) < 16 by decide); obtain ⟨r, hr⟩ : ∃ r, (s.time - s.pc).tmod 16 = r := ⟨_, rfl⟩; rw [hr] at ht hb1 hb2; have wr : IntKind.i64.wrap r = r := IntWalk.i64_in _ (by omega); have Ht := hid ht; clear ht hb1 hb2
      repeat ((fail_if_success refine stp ?_); go_step)
      refine region_F ?_; refine pl ?_; obtain ⟨cb1_0, cb1_1, cb1_2, cb1_3, cb1_4, cb1_5, cb1_6, cb1_7⟩ := cl8 kb1
      iterate 7 refine pl ?_
      refine lsa fun s79 z' => ?_; have sl79 := gu 79 z'; clear z' sl1 sl45; refine lsn ?_
      repeat ((fail_if_success refine stp ?_); go_step)
      refine cond_E sl79 (by decide) ?_ ?_ <;> (clear sl79; intro h79 sl79)
      ·skip
       have Hc := hid (show chk4 s = (6, 0, 2) by rw [H6.out, if_pos (fun e => by have := Ht.out.2 e; simp [this] at h79)])
       repeat ((fail_if_success refine stp ?_); go_step)
       refine region_F ?_
       iterate 3 refine pl ?_
       refine lsa fun s80 z' => ?_; have sl2 := gu 2 z'; have sl3 := gu 3 z'; have sl4 := gu 4 z'; clear z' sl79; refine lsn ?_
       repeat ((fail_if_success refine stp ?_); go_step)
       refine ret_F _ (res_ttt Tryz.results75 ((getD_F (by decide)).trans sl2) ((getD_F (by decide)).trans sl3) ((getD_F (by decide)).trans sl4)) ?_; exact ⟨by rw [Hc.out] <;> rfl, HB.out.toBelow⟩
      ·skip
       have Hc := hid (show chk4 s = (0, 0, 0) by rw [H6.out, if_neg (fun e => e (Ht.out.1 (by simpa using h79)))])
       repeat ((fail_if_success refine stp ?_); go_step)
       refine region_F ?_
       iterate 3 refine pl ?_
       refine lsa fun s81 z' => ?_; have sl2 := gu 2 z'; have sl3 := gu 3 z'; have sl4 := gu 4 z'; clear z' sl79; refine lsn ?_
       repeat ((fail_if_success refine stp ?_); go_step)
       refine ret_F _ (res_ttt Tryz.results75 ((getD_F (by decide)).trans sl2) ((getD_F (by decide)).trans sl3) ((getD_F (by decide)).trans sl4)) ?_; exact ⟨by rw [Hc.out] <;> rfl, HB.out.toBelow⟩

set_option maxRecDepth 100000 in
set_option maxHeartbeats 1000000 in
theorem cloneInt_none (c : Nat) (l : List Int) (w : World) (hl : l.length ≤ 1000) (hR : RdInts w none l) :
    Calls Tryz.prog 69 #[.slice none l.length c] w (fun e w' => ∃ v, e = .returned v ∧ Own int1 1 3 w.heap.size w' v l ∧ Below w.heap.size w w') := by
 obtain ⟨i0, hi0, hz0, hz1, hz2⟩ := info_parts info_int; have HR := hid hR; clear hR
 have hnil : ∀ w, (binOp .eql 22 (.slice none l.length c) (.slice none 0 0)).run Tryz.prog w = .ok (.bool true) w := fun w => Lib.run_eql_slice_nil w _ _ _ _ _ _ _ Tryz.underlying22
 refine enter_F Tryz.func69 rfl Tryz.ntmps69 (by simp) ?_
 intro s0 hs; have sl0 : s0 0 = .slice none l.length c := hs 0 (by simp); clear hs; have HB := hid (OldB.refl [] w)
 repeat ((fail_if_success refine stp ?_); go_step)
 refine region_F ?_; refine pl ?_; refine lsa fun s1 z' => ?_; replace sl0 := slg z' sl0; clear z'; refine lsn ?_
 repeat ((fail_if_success refine stp ?_); go_step)
 refine region_F ?_; refine pl ?_; refine pl ?_; refine lsa fun s2 z' => ?_; replace sl0 := slg z' sl0; have sl4 := gu 4 z'; clear z'; refine lsn ?_
 repeat ((fail_if_success refine stp ?_); go_step)
 refine cond_t ?_
 repeat ((fail_if_success refine stp ?_); go_step)
 refine region_F ?_; refine pl ?_; refine lsa fun s3 z' => ?_; have sl2 := gu 2 z'; clear z' sl0 sl4; refine lsn ?_
 repeat ((fail_if_success refine stp ?_); go_step)
 refine ret_F _ (res_t Tryz.results69 ((getD_F (by decide)).trans sl2)) ?_
 have hl0 : l = [] := by rcases HR.out with h | ⟨b, o, h, _⟩; exact h; cases h
 exact ⟨_, rfl, by rw [hl0]; exact Own.nil _ _ _ _ _, HB.out.toBelow⟩

set_option maxRecDepth 100000 in
set_option maxHeartbeats 1000000 in
theorem cloneInt_some (p : Addr) (c : Nat) (l : List Int) (w : World) (hl : l.length ≤ 1000) (hR : RdInts w (some p) l) :
    Calls Tryz.prog 69 #[.slice (some p) l.length c] w (fun e w' => ∃ v, e = .returned v ∧ Own int1 1 3 w.heap.size w' v l ∧ Below w.heap.size w w') := by
 obtain ⟨i0, hi0, hz0, hz1, hz2⟩ := info_parts info_int; have HR := hid hR; clear hR
 have hnil : ∀ w, (binOp .eql 22 (.slice (some p) l.length c) (.slice none 0 0)).run Tryz.prog w = .ok (.bool false) w := fun w => Lib.run_eql_slice_nil w _ _ _ _ _ _ _ Tryz.underlying22
 refine enter_F Tryz.func69 rfl Tryz.ntmps69 (by simp) ?_
 intro s0 hs; have sl0 : s0 0 = .slice (some p) l.length c := hs 0 (by simp); clear hs; have HB := hid (OldB.refl [] w)
 repeat ((fail_if_success refine stp ?_); go_step)
 refine region_F ?_; refine pl ?_; refine lsa fun s1 z' => ?_; replace sl0 := slg z' sl0; clear z'; refine lsn ?_
 repeat ((fail_if_success refine stp ?_); go_step)
 refine region_F ?_; refine pl ?_; refine pl ?_; refine lsa fun s2 z' => ?_; replace sl0 := slg z' sl0; have sl4 := gu 4 z'; clear z'; refine lsn ?_
 repeat ((fail_if_success refine stp ?_); go_step)
 refine cond_f ?_
 repeat ((fail_if_success refine stp ?_); go_step)
 refine region_F ?_; refine listF_step rfl (fun K' hK => ?_); unfold opF; go_simp; refine hK _ _ ?_; clear hK K'; refine listF_absw ?_; intro w3 hw'
 have hO5 : Own int1 1 3 w.heap.size w3 (.slice (some ⟨w.heap.size, 0, none⟩) 0 0) [] := by rw [hw']; exact Own.lit (l := ([] : List Int)) (Nat.le_refl _) (by unfold maxLen; simp) rfl (fun _ => rfl)
 have hb4 : Below w.heap.size w w3 := by rw [hw']; exact below_alloc1 _ _
 clear hw'; replace HB := bE HB hb4; clear hb4; refine pl ?_; refine listF_step rfl (fun K' hK => ?_); have hzz := HB.out.size; refine opF_app (d := 7) rfl (by decide) (.tmp 5) (.tmp 6) _ rfl 3 i0 _ 8 Tryz.underlying22 hi0 hz0 hz1 hz2 rfl (by decide) (fun _ => rfl) int_one w.heap.size _ [] l (some p) c (by go_simp) (by go_simp) hO5 (Rd.oldB HR.out HB.out (by simp)) (by unfold maxLen; simp; omega) (by simp; omega) (by omega) (fun v7 w5 hO7 hG7 hV7 => hK _ _ ?_); clear hK K'; replace HB := hid (HB.out.grown hG7 (fun k hk => .inl (by simp [Value.ownBlock] at hk; omega))); have HO7 := hid hO7; clear hO5 hG7 hV7 hzz hO7; refine pl ?_; refine lsa fun s7 z' => ?_; have sl2 := gu 2 z'; clear z' sl0 sl4; refine lsn ?_
 repeat ((fail_if_success refine stp ?_); go_step)
 refine ret_F _ (res_t Tryz.results69 ((getD_F (by decide)).trans sl2)) ?_; exact ⟨_, rfl, HO7.out, HB.out.toBelow⟩

theorem cloneInt_any (a : Option Addr) (c : Nat) (l : List Int) (w : World) (hl : l.length ≤ 1000) (hR : RdInts w a l) :
    Calls Tryz.prog 69 #[.slice a l.length c] w fun e w' => ∃ v, e = .returned v ∧ Own int1 1 3 w.heap.size w' v l ∧ Below w.heap.size w w' := by
  cases a with
  | none => exact cloneInt_none c l w hl hR
  | some p => exact cloneInt_some p c l w hl hR

end Go.Proofs.YtleknidlgmmgbaaGreat
