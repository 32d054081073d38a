/- The reference's machine: Product, Check, Ints, States. -/
import Derived.Test.YtleknidlgmmgbaaGreattsW1
import Derived.Test.YtleknidlgmmgbaaGreattsCZ
set_option linter.all false
set_option maxRecDepth 100000
set_option maxHeartbeats 16000000
namespace Go.Proofs.YtleknidlgmmgbaaGreat

open Go.RowKit


structure SA where
  sa : Option Addr
  sc : Nat
  ta : Option Addr
  tc : Nat
  pa : Option Addr
  pc : Nat
/-- the cells of a state -/
abbrev stC (s : St4) (A : SA) : List Value := [.slice A.sa s.store.length A.sc, .slice A.ta s.tape.length A.tc, .int .i64 s.taken, .slice A.pa s.printed.length A.pc, .int .i64 s.time, .int .i64 s.pc, .int .i64 s.done, .int .i64 s.why]
structure RdSt (w : World) (s : St4) (A : SA) : Prop where
  st : RdInts w A.sa s.store
  tp : RdInts w A.ta s.tape
  pr : RdInts w A.pa s.printed
theorem RdSt.at {w w' : World} {s : St4} {A : SA} (h : RdSt w s A) (hb : Below w.heap.size w w') : RdSt w' s A := ⟨Rd.at h.st hb, Rd.at h.tp hb, Rd.at h.pr hb⟩
theorem RdSt.old {w w' : World} {s : St4} {A : SA} (h : RdSt w s A) (ho : OldB [] w w') : RdSt w' s A := ⟨Rd.oldB h.st ho (by simp), Rd.oldB h.tp ho (by simp), Rd.oldB h.pr ho (by simp)⟩
def LenI (s : St4) : Prop := s.store.length ≤ 9223372036854775807 ∧ s.tape.length ≤ 9223372036854775807 ∧ s.printed.length ≤ 9223372036854775807
theorem chk_1 {s : St4} (h : s.store.length ≠ 128 ∨ 200 < s.tape.length ∨ 200 < s.printed.length) : chk4 s = (1, 0, 3) := by unfold chk4; rw [if_pos h]
theorem chk_2 {s : St4} (h : ¬ (s.store.length ≠ 128 ∨ 200 < s.tape.length ∨ 200 < s.printed.length)) (g : 0 ≤ oddI s.store) : chk4 s = (2, oddI s.store, 7) := by unfold chk4; rw [if_neg h, if_pos g]
theorem chk_3 {s : St4} (h : ¬ (s.store.length ≠ 128 ∨ 200 < s.tape.length ∨ 200 < s.printed.length)) (g : ¬ 0 ≤ oddI s.store) (g2 : 0 ≤ oddI s.tape) : chk4 s = (3, oddI s.tape, 7) := by unfold chk4; rw [if_neg h, if_neg g, if_pos g2]
theorem chk_4 {s : St4} (h : ¬ (s.store.length ≠ 128 ∨ 200 < s.tape.length ∨ 200 < s.printed.length)) (g : ¬ 0 ≤ oddI s.store) (g2 : ¬ 0 ≤ oddI s.tape) (g3 : 0 ≤ oddI s.printed) : chk4 s = (4, oddI s.printed, 7) := by unfold chk4; rw [if_neg h, if_neg g, if_neg g2, if_pos g3]
def numB (s : St4) : Bool := !inI s.taken 0 s.tape.length || !inI s.time 0 1000000000 || !addrB s.pc || !inI s.done 0 s.time || !inI s.why 0 4
theorem chk_5 {s : St4} (h : ¬ (s.store.length ≠ 128 ∨ 200 < s.tape.length ∨ 200 < s.printed.length)) (g : ¬ 0 ≤ oddI s.store) (g2 : ¬ 0 ≤ oddI s.tape) (g3 : ¬ 0 ≤ oddI s.printed) (g4 : numB s = true) : chk4 s = (5, 0, 7) := by
  unfold chk4; rw [if_neg h, if_neg g, if_neg g2, if_neg g3, if_pos]; unfold numB at g4
  simp only [Bool.or_eq_true, Bool.not_eq_true'] at g4
  rcases g4 with (((h1 | h1) | h1) | h1) | h1
  · exact .inl h1
  · exact .inr (.inl h1)
  · exact .inr (.inr (.inl h1))
  · exact .inr (.inr (.inr (.inl h1)))
  · exact .inr (.inr (.inr (.inr h1)))
theorem num_of {s : St4} (g4 : numB s = false) : (0 ≤ s.taken ∧ s.taken ≤ s.tape.length) ∧ (0 ≤ s.time ∧ s.time ≤ 1000000000) ∧ (0 ≤ s.pc ∧ s.pc ≤ 127) ∧ (0 ≤ s.done ∧ s.done ≤ s.time) ∧ (0 ≤ s.why ∧ s.why ≤ 4) := by
  unfold numB at g4
  simp only [Bool.or_eq_false_iff, Bool.not_eq_false', addrB, inI_iff] at g4
  exact ⟨g4.1.1.1.1, g4.1.1.1.2, g4.1.1.2, g4.1.2, g4.2⟩
theorem chk_6 {s : St4} (h : ¬ (s.store.length ≠ 128 ∨ 200 < s.tape.length ∨ 200 < s.printed.length)) (g : ¬ 0 ≤ oddI s.store) (g2 : ¬ 0 ≤ oddI s.tape) (g3 : ¬ 0 ≤ oddI s.printed) (g4 : numB s = false) : chk4 s = if s.time % 16 ≠ s.pc % 16 then (6, 0, 2) else (0, 0, 0) := by
  unfold chk4; rw [if_neg h, if_neg g, if_neg g2, if_neg g3, if_neg]; unfold numB at g4
  simp only [Bool.or_eq_false_iff, Bool.not_eq_false'] at g4
  simp [g4]

theorem rprod_any (a b : Int) (w : World) (ha : 0 ≤ a ∧ a ≤ 16777215) (hb : 0 ≤ b ∧ b ≤ 16777215) :
    Calls Tryz.prog 111 #[.int .i64 a, .int .i64 b] w (fun e w' => e = .returned (.int .i64 (prodI a b)) ∧ Below w.heap.size w w') := by
 have hs := sprod_bd ha hb; have hf := floor_prod (signI a * signI b); have Hp := hid (show prodI a b = (signI a * signI b / 8388608) % 16777216 from rfl); obtain ⟨n, hn⟩ : ∃ z, signI a * signI b = z := ⟨_, rfl⟩; rw [hn] at hs hf Hp
 have wn : IntKind.i64.wrap (signI a * signI b) = n := by rw [hn]; exact IntWalk.i64_in _ (by omega)
 obtain ⟨q, hq⟩ : ∃ z, n.tdiv 8388608 = z := ⟨_, rfl⟩; obtain ⟨r, hr⟩ : ∃ z, n.tmod 8388608 = z := ⟨_, rfl⟩; have h1 := Int.mul_tdiv_add_tmod n 8388608; have h2 := Int.tmod_lt_of_pos n (show (0 : Int) < 8388608 by decide); have h3 := Int.lt_tmod_of_pos n (show (0 : Int) < 8388608 by decide); rw [hq, hr] at hf; rw [hq, hr] at h1; rw [hr] at h2 h3; have wq : IntKind.i64.wrap q = q := IntWalk.i64_in _ (by omega); have wr : IntKind.i64.wrap r = r := IntWalk.i64_in _ (by omega); have wq1 : IntKind.i64.wrap (q - 1) = q - 1 := IntWalk.i64_in _ (by omega)
 have hq9 : -8388610 ≤ q ∧ q ≤ 8388610 := by omega
 clear hn h1 h2 h3 hs
 refine enter_F Tryz.func111 rfl Tryz.ntmps111 (by simp) ?_
 intro s0 hs; have sl0 : s0 0 = .int .i64 a := hs 0 (by simp); have sl1 : s0 1 = .int .i64 b := hs 1 (by simp); clear hs; have HB := hid (OldB.refl [] w)
 refine nr ?_; intros; refine pl ?_; refine lx [] ?_; clear sl0 sl1; intro s1 sl0 sl1; refine lr ?_; intros; refine pl ?_; refine listF_step rfl (fun K' hK => ?_); unfold opF; go_simp; refine (rsign_any a _ ha).mono ?_; rintro e w' ⟨rfl, rfl⟩; refine ⟨_, rfl, hK _ _ ?_⟩; clear hK K'; refine pl ?_; refine listF_step rfl (fun K' hK => ?_); unfold opF; go_simp; refine (rsign_any b _ hb).mono ?_; rintro e w' ⟨rfl, rfl⟩; refine ⟨_, rfl, hK _ _ ?_⟩; clear hK K'
 refine P3 ?_
 clear sl0 sl1; refine lx [5,6] ?_; intro s4 sl5 sl6; refine lr ?_; intros
 refine P4 ?_
 refine lx [7] ?_; clear sl5 sl6; intro s5 sl5 sl6 sl7; refine lr ?_; intros
 refine P4 ?_
 clear sl5 sl6; refine lx [19] ?_; clear sl7; intro s6 sl7 sl19; refine ln ?_; intros
 refine cut_any (fun sJ wJ => ∃ (z : Int), sJ 7 = .int .i64 z ∧ OldB [] w wJ ∧ (Hid (z = n / 8388608)) ∧ (-8388611 ≤ z ∧ z ≤ 8388611)) ?_ ?_
 ·skip
  have HL8 := hid (OldB.refl [] w)
  refine cond_E sl19 (by decide) ?_ ?_ <;> (clear sl19; intro h19 sl19)
  ·skip
   have Hq := hid (show q - 1 = n / 8388608 by rw [← hf, if_pos (by simpa using h19)])
   refine nr ?_; intros
   refine P3 ?_
   clear sl7 sl19; refine lx [7] ?_; intro s9 sl7; refine ln ?_; intros
   exact ⟨trv, _, rfl, q - 1, (rL sl7), HL8.out, Hq, (by omega)⟩
  ·skip
   have Hq := hid (show q = n / 8388608 by rw [← hf, if_neg (by simpa using h19)])
   refine zx ?_; intros
   exact ⟨trv, _, rfl, q, (rL sl7), HL8.out, Hq, (by omega)⟩
 ·skip
  clear sl7 sl19; rintro s10 w11 ⟨z, sl7, hb12, Hz, hz9⟩; replace HB := mO HB hb12; clear hb12
  refine nr ?_; intros; have ez : (z + 16777216).tmod 16777216 = (z + 16777216) % 16777216 := Int.tmod_eq_emod_of_nonneg (by omega); have wz : IntKind.i64.wrap (z + 16777216) = z + 16777216 := IntWalk.i64_in _ (by omega); have wz2 : IntKind.i64.wrap ((z + 16777216) % 16777216) = (z + 16777216) % 16777216 := IntWalk.i64_in _ (by omega); have Hfin := hid (show prodI a b = z % 16777216 by rw [Hp.out, ← Hz.out])
  refine P4 ?_
  clear sl7; refine lx [4] ?_; intro s13 sl4; refine ln ?_; intros
  refine ret_F _ (res_t Tryz.results111 ((getD_F (by decide)).trans sl4)) ?_; exact ⟨ret_int Hfin.out.symm, HB.out.toBelow⟩

theorem XW2b {A B1 : Prop} (hX1 : B1) (e : B1 → A := by exact ret_F _ (res_ttt Tryz.results77 ((getD_F (by decide)).trans sl2) ((getD_F (by decide)).trans sl3) ((getD_F (by decide)).trans sl4))) : A := e hX1
theorem XW2c {A : Prop} (e : A := by exact ⟨trv, _, rfl, (by rw [sl77]; unfold numB; congr 1; have g52 := h52; simp at g52; have g58 := h58; simp at g58; have g64 := h64; simp at g64; have g72 := h72; simp at g72;  simp [g52, g58, g64, g72]), (sl1.trans hj42_1.out.symm), HL43.out⟩) : A := e
theorem rcheck4_any (s : St4) (A : SA) (w : World) (hR : RdSt w s A) (hL : LenI s) :
    Calls Tryz.prog 77 #[.agg #[.slice A.sa s.store.length A.sc, .slice A.ta s.tape.length A.tc, .int .i64 s.taken, .slice A.pa s.printed.length A.pc, .int .i64 s.time, .int .i64 s.pc, .int .i64 s.done, .int .i64 s.why]] w (fun e w' => e = .returned (.tuple #[.int .i64 (chk4 s).1, .int .i64 (chk4 s).2.1, .int .i64 (chk4 s).2.2]) ∧ Below w.heap.size w w') := by
 have HR := hid hR; clear hR; obtain ⟨l0, l1, l2⟩ := hL
 refine enter_F Tryz.func77 rfl Tryz.ntmps77 (by simp) ?_
 intro s0 hs; have sl0 : s0 0 = .agg #[.slice A.sa s.store.length A.sc, .slice A.ta s.tape.length A.tc, .int .i64 s.taken, .slice A.pa s.printed.length A.pc, .int .i64 s.time, .int .i64 s.pc, .int .i64 s.done, .int .i64 s.why] := hs 0 (by simp); clear hs; have HB := hid (OldB.refl [] w)
 refine nr ?_; intros; refine pa (fun w1 B1 hB kb1 hb => ?_); have gb1 := HB.out.gB hB; have eb1 := eB hB; clear hB; replace HB := bE HB hb; clear hb; have qb1 := kb1.1
 refine P3 ?_
 clear sl0; refine lx [1] ?_; intro s3 sl1; refine ln ?_; intros
 have hj4_1 := hid sl1; refine cut_any (fun sJ wJ => sJ 23 = .bool (decide (s.store.length ≠ 128 ∨ 200 < s.tape.length ∨ 200 < s.printed.length)) ∧ sJ 1 = s3 1 ∧ OldB [] w1 wJ) ?_ ?_
 ·skip
  have HL5 := hid (OldB.refl [] w1); refine region_F ?_; refine pl ?_; have cb1 := clx kb1
  refine P4 ?_
  refine lx [12] ?_; clear sl1; intro _ sl1 sl12
  refine boolG sl12 (fun sl12' h12 => ?_) (fun sl12' h12 => ?_) <;> (clear sl12; have sl12 := sl12'; clear sl12')
  ·skip
   refine pn true ?_
   refine pn true ?_; refine pn true ?_; refine pn true ?_; refine P2 ?_
   refine pn true ?_
   refine pn true ?_; refine pn true ?_; refine pn true ?_; refine pl ?_; clear sl12; refine lx [23] ?_; clear sl1; intro _ sl1 sl23; refine ln ?_; intros
   clear cb1; exact ⟨trv, _, rfl, (by rw [sl23]; congr 1; rw [Bool.eq_iff_iff]; have h := h12; simp at h; simp [h]; try omega), (sl1.trans hj4_1.out.symm), HL5.out⟩
  ·skip
   iterate 4 refine py ?_
   refine P2 ?_; clear sl12; refine lx [18] ?_; clear sl1; intro _ sl1 sl18
   refine boolG sl18 (fun sl18' h18 => ?_) (fun sl18' h18 => ?_) <;> (clear sl18; have sl18 := sl18'; clear sl18')
   ·skip
    refine pn true ?_
    refine pn true ?_; refine pn true ?_; refine pn true ?_; refine pl ?_; clear sl18; refine lx [23] ?_; clear sl1; intro _ sl1 sl23; refine ln ?_; intros
    clear cb1; exact ⟨trv, _, rfl, (by rw [sl23]; congr 1; rw [Bool.eq_iff_iff]; have h := h18; simp at h; simp [h]; try omega), (sl1.trans hj4_1.out.symm), HL5.out⟩
   ·skip
    iterate 4 refine py ?_
    refine pl ?_; clear sl18; refine lx [23] ?_; clear sl1; intro _ sl1 sl23; refine ln ?_; intros
    clear cb1; exact ⟨trv, _, rfl, (by rw [sl23]; congr 1; rw [Bool.eq_iff_iff]; have h := h18; have h2 := h12; simp at h h2; simp; omega), (sl1.trans hj4_1.out.symm), HL5.out⟩
 ·skip
  rintro s11 w12 ⟨sl23, e1, hb⟩; replace sl1 := e1.trans sl1; clear e1 hj4_1; clear qb1; revert HB; revert kb1; refine uO hb ?_; clear hb; intro kb1 qb1 HB
  refine zx ?_; intros
  refine cond_E sl23 (by decide) ?_ ?_ <;> (clear sl23; intro h23 sl23)
  ·skip
   have Hc := hid (chk_1 (show (s.store.length ≠ 128 ∨ 200 < s.tape.length ∨ 200 < s.printed.length) by simpa using h23))
   refine nr ?_; intros
   refine P3 ?_
   clear sl1 sl23; refine lx [2,3,4] ?_; intro _ sl2 sl3 sl4; refine ln ?_; intros
   refine XW2b ?_; exact ⟨by rw [Hc.out] <;> rfl, HB.out.toBelow⟩
  ·skip
   have H1 := hid (show ¬ (s.store.length ≠ 128 ∨ 200 < s.tape.length ∨ 200 < s.printed.length) by simpa using h23)
   refine nr ?_; intros; refine pl ?_; have cb1 := clx kb1
   refine P5 ?_
   refine pas (fun w15 B30 hB kb30 hb => ?_); have gb30 := HB.out.gB hB; have ob1_b30 := oB qb1 hB; have eb30 := eB hB; clear hB; clear cb1; clear qb1; revert HB; revert kb1; refine uA hb ?_; clear hb; intro kb1 qb1 HB; have qb30 := kb30.1; refine pl ?_; clear sl23; refine lx [5] ?_; clear sl1; intro _ sl1 sl5; refine lr ?_; intros; refine pl ?_; refine lx [6] ?_; clear sl1 sl5; intro s18 sl1 sl5 sl6; refine ln ?_; intros
   have hc0_1 := hid sl1; have hc0_5 := hid sl5; refine loop_F (n := 85) (fun kJ sJ wJ => ∃ (i : Nat), kJ = 3 - i ∧ sJ 6 = .int .i64 (i : Int) ∧ sJ 1 = s18 1 ∧ sJ 5 = s18 5 ∧ OldB [] w15 wJ ∧ i ≤ 3 ∧ (Hid ((0 < i → oddI s.store < 0) ∧ (1 < i → oddI s.tape < 0) ∧ (2 < i → oddI s.printed < 0)))) ⟨0, rfl, (by first | exact sl6 | (rw [sl6]; go_num) | (rw [sl6]; rfl)), rfl, rfl, OldB.refl _ _, by omega, hid ⟨fun h => by omega, fun h => by omega, fun h => by omega⟩⟩ ?_; clear sl6; rintro kJ s19 w20 ⟨i, rfl, sl6, e1, e5, hb, hi4, Ha⟩; replace sl1 := e1.trans sl1; clear e1; replace sl5 := e5.trans sl5; clear e5; have hoJ := hb; clear qb1 qb30; revert HB; revert kb30; revert kb1; refine uO hb ?_; clear hb; intro kb1 qb1 kb30 qb30 HB; have HoJ := hid hoJ; clear hoJ
   have HL22 := HoJ; clear HoJ
   refine nr ?_; intros; refine P2 ?_; refine lx [32] ?_; clear sl1 sl5 sl6; intro s23 sl1 sl5 sl6 sl32; refine ln ?_; intros
   refine cond_E sl32 (by decide) ?_ ?_ <;> (clear sl32; intro h32 sl32)
   ·skip
    have hi3 : i < 3 := by have h := h32; simp at h; omega
    refine zx ?_; intros
    rcases (show i = 0 ∨ i = 1 ∨ i = 2 by omega) with rfl | rfl | rfl
    ·skip
     refine region_F ?_; have cj := kb30.cell 0 rfl
     refine P4 ?_
     refine cal (rodd_any A.sa A.sc s.store _ (Rd.oldB HR.out.st HB.out (by simp)) l0) ?_; rintro e _ ⟨rfl, hb⟩; refine ⟨_, rfl, ?_⟩; clear qb1 qb30; revert HB; revert HL22; revert kb30; revert kb1; refine uA hb ?_; clear hb; intro kb1 qb1 kb30 qb30 HL22 HB; refine pl ?_; clear sl32; refine lx [7] ?_; clear sl1 sl5 sl6; intro _ sl1 sl5 sl6 sl7; refine lr ?_; intros; refine P2 ?_; refine lx [41] ?_; clear sl1 sl5 sl6 sl7; intro _ sl1 sl5 sl6 sl7 sl41; refine ln ?_; intros
     refine cond_E sl41 (by decide) ?_ ?_ <;> (clear sl41; intro h41 sl41)
     ·skip
      have g0 : 0 ≤ oddI s.store := by simpa using h41
      have Hc := hid (chk_2 H1.out g0)
      refine nr ?_; intros
      refine P6 ?_
      clear sl1 sl5 sl6 sl7 sl41; refine lx [2,3,4] ?_; intro _ sl2 sl3 sl4; refine ln ?_; intros
      refine XW2b ?_; exact ⟨by rw [Hc.out] <;> rfl, HB.out.toBelow⟩
     ·skip
      have g0 : oddI s.store < 0 := by have h := h41; simp at h; exact h
      refine nr ?_; intros
      refine P3 ?_
      clear sl6 sl7 sl41; refine lx [6] ?_; clear sl1 sl5; intro _ sl1 sl5 sl6; refine ln ?_; intros
      refine ⟨_, _, rfl, ?_, 0 + 1, rfl, (rL sl6), (sl1.trans hc0_1.out.symm), (sl5.trans hc0_5.out.symm), HL22.out, by omega, hid ⟨fun _ => g0, fun h => by omega, fun h => by omega⟩⟩
      omega
    ·skip
     refine region_F ?_; have cj := kb30.cell 1 rfl
     refine P4 ?_
     refine cal (rodd_any A.ta A.tc s.tape _ (Rd.oldB HR.out.tp HB.out (by simp)) l1) ?_; rintro e _ ⟨rfl, hb⟩; refine ⟨_, rfl, ?_⟩; clear qb1 qb30; revert HB; revert HL22; revert kb30; revert kb1; refine uA hb ?_; clear hb; intro kb1 qb1 kb30 qb30 HL22 HB; refine pl ?_; clear sl32; refine lx [7] ?_; clear sl1 sl5 sl6; intro _ sl1 sl5 sl6 sl7; refine lr ?_; intros; refine P2 ?_; refine lx [41] ?_; clear sl1 sl5 sl6 sl7; intro _ sl1 sl5 sl6 sl7 sl41; refine ln ?_; intros
     refine cond_E sl41 (by decide) ?_ ?_ <;> (clear sl41; intro h41 sl41)
     ·skip
      have g0 : 0 ≤ oddI s.tape := by simpa using h41
      have Hc := hid (chk_3 H1.out (by have := Ha.out.1 (by omega); omega) g0)
      refine nr ?_; intros
      refine P6 ?_
      clear sl1 sl5 sl6 sl7 sl41; refine lx [2,3,4] ?_; intro _ sl2 sl3 sl4; refine ln ?_; intros
      refine XW2b ?_; exact ⟨by rw [Hc.out] <;> rfl, HB.out.toBelow⟩
     ·skip
      have g0 : oddI s.tape < 0 := by have h := h41; simp at h; exact h
      refine nr ?_; intros
      refine P3 ?_
      clear sl6 sl7 sl41; refine lx [6] ?_; clear sl1 sl5; intro _ sl1 sl5 sl6; refine ln ?_; intros
      refine ⟨_, _, rfl, ?_, 1 + 1, rfl, (rL sl6), (sl1.trans hc0_1.out.symm), (sl5.trans hc0_5.out.symm), HL22.out, by omega, hid ⟨fun _ => Ha.out.1 (by omega), fun _ => g0, fun h => by omega⟩⟩
      omega
    ·skip
     refine region_F ?_; have cj := kb30.cell 2 rfl
     refine P4 ?_
     refine cal (rodd_any A.pa A.pc s.printed _ (Rd.oldB HR.out.pr HB.out (by simp)) l2) ?_; rintro e _ ⟨rfl, hb⟩; refine ⟨_, rfl, ?_⟩; clear qb1 qb30; revert HB; revert HL22; revert kb30; revert kb1; refine uA hb ?_; clear hb; intro kb1 qb1 kb30 qb30 HL22 HB; refine pl ?_; clear sl32; refine lx [7] ?_; clear sl1 sl5 sl6; intro _ sl1 sl5 sl6 sl7; refine lr ?_; intros; refine P2 ?_; refine lx [41] ?_; clear sl1 sl5 sl6 sl7; intro _ sl1 sl5 sl6 sl7 sl41; refine ln ?_; intros
     refine cond_E sl41 (by decide) ?_ ?_ <;> (clear sl41; intro h41 sl41)
     ·skip
      have g0 : 0 ≤ oddI s.printed := by simpa using h41
      have Hc := hid (chk_4 H1.out (by have := Ha.out.1 (by omega); omega) (by have := Ha.out.2.1 (by omega); omega) g0)
      refine nr ?_; intros
      refine P6 ?_
      clear sl1 sl5 sl6 sl7 sl41; refine lx [2,3,4] ?_; intro _ sl2 sl3 sl4; refine ln ?_; intros
      refine XW2b ?_; exact ⟨by rw [Hc.out] <;> rfl, HB.out.toBelow⟩
     ·skip
      have g0 : oddI s.printed < 0 := by have h := h41; simp at h; exact h
      refine nr ?_; intros
      refine P3 ?_
      clear sl6 sl7 sl41; refine lx [6] ?_; clear sl1 sl5; intro _ sl1 sl5 sl6; refine ln ?_; intros
      refine ⟨_, _, rfl, ?_, 2 + 1, rfl, (rL sl6), (sl1.trans hc0_1.out.symm), (sl5.trans hc0_5.out.symm), HL22.out, by omega, hid ⟨fun _ => Ha.out.1 (by omega), fun _ => Ha.out.2.1 (by omega), fun _ => g0⟩⟩
      omega
   ·skip
    have hi3 : i = 3 := by have h := h32; simp at h; omega
    have G0 := hid (show ¬ 0 ≤ oddI s.store by have := Ha.out.1 (by omega); omega); have G1 := hid (show ¬ 0 ≤ oddI s.tape by have := Ha.out.2.1 (by omega); omega); have G2 := hid (show ¬ 0 ≤ oddI s.printed by have := Ha.out.2.2 (by omega); omega)
    refine zx ?_; intros
    clear HL22; clear hc0_1 hc0_5; have hj42_1 := hid sl1; refine cut_any (fun sJ wJ => sJ 77 = .bool (numB s) ∧ sJ 1 = s23 1 ∧ OldB [] w20 wJ) ?_ ?_
    ·skip
     have HL43 := hid (OldB.refl [] w20); refine region_F ?_; refine pl ?_; have cb1 := clx kb1
     refine P4 ?_
     refine cal (rin04_any s.taken 0 s.tape.length _) ?_; rintro e w' ⟨rfl, rfl⟩; refine ⟨_, rfl, ?_⟩; refine P2 ?_; clear sl5 sl6 sl32; refine lx [52] ?_; clear sl1; intro _ sl1 sl52
     refine boolG sl52 (fun sl52' h52 => ?_) (fun sl52' h52 => ?_) <;> (clear sl52; have sl52 := sl52'; clear sl52')
     ·skip
      refine pn true ?_
      refine pn true ?_; refine pn true ?_; refine pn true ?_; refine P2 ?_
      refine pn true ?_
      refine pn true ?_; refine pn true ?_; refine pn true ?_; refine P2 ?_
      refine pn true ?_
      refine pn true ?_
      refine pn true ?_
      refine pn true ?_; refine pn true ?_; refine pn true ?_; refine P2 ?_
      refine pn true ?_
      refine pn true ?_; refine pn true ?_; refine pn true ?_; refine pl ?_; clear sl52; refine lx [77] ?_; clear sl1; intro _ sl1 sl77; refine ln ?_; intros
      clear cb1; exact ⟨trv, _, rfl, (by rw [sl77]; unfold numB; congr 1; have g52 := h52; simp at g52;  simp [g52]), (sl1.trans hj42_1.out.symm), HL43.out⟩
     ·skip
      refine py ?_; refine py ?_; refine listF_yes rfl rfl (by decide) ?_ (fun K' hK => ?_); (focus (go_simp; done)); unfold opF; go_simp; refine (rin04_any s.time 0 1000000000 _).mono ?_; rintro e w' ⟨rfl, rfl⟩; refine ⟨_, rfl, hK _ _ ?_⟩; clear hK K'; refine py ?_; refine P2 ?_; clear sl52; refine lx [58] ?_; clear sl1; intro _ sl1 sl58
      refine boolG sl58 (fun sl58' h58 => ?_) (fun sl58' h58 => ?_) <;> (clear sl58; have sl58 := sl58'; clear sl58')
      ·skip
       refine pn true ?_
       refine pn true ?_; refine pn true ?_; refine pn true ?_; refine P2 ?_
       refine pn true ?_
       refine pn true ?_
       refine pn true ?_
       refine pn true ?_; refine pn true ?_; refine pn true ?_; refine P2 ?_
       refine pn true ?_
       refine pn true ?_; refine pn true ?_; refine pn true ?_; refine pl ?_; clear sl58; refine lx [77] ?_; clear sl1; intro _ sl1 sl77; refine ln ?_; intros
       clear cb1; exact ⟨trv, _, rfl, (by rw [sl77]; unfold numB; congr 1; have g52 := h52; simp at g52; have g58 := h58; simp at g58;  simp [g52, g58]), (sl1.trans hj42_1.out.symm), HL43.out⟩
      ·skip
       refine py ?_; refine py ?_; refine listF_yes rfl rfl (by decide) ?_ (fun K' hK => ?_); (focus (go_simp; done)); unfold opF; go_simp; refine (raddr_any s.pc _).mono ?_; rintro e w' ⟨rfl, rfl⟩; refine ⟨_, rfl, hK _ _ ?_⟩; clear hK K'; refine py ?_; refine P2 ?_; clear sl58; refine lx [64] ?_; clear sl1; intro _ sl1 sl64
       refine boolG sl64 (fun sl64' h64 => ?_) (fun sl64' h64 => ?_) <;> (clear sl64; have sl64 := sl64'; clear sl64')
       ·skip
        refine pn true ?_
        refine pn true ?_
        refine pn true ?_
        refine pn true ?_; refine pn true ?_; refine pn true ?_; refine P2 ?_
        refine pn true ?_
        refine pn true ?_; refine pn true ?_; refine pn true ?_; refine pl ?_; clear sl64; refine lx [77] ?_; clear sl1; intro _ sl1 sl77; refine ln ?_; intros
        clear cb1; exact ⟨trv, _, rfl, (by rw [sl77]; unfold numB; congr 1; have g52 := h52; simp at g52; have g58 := h58; simp at g58; have g64 := h64; simp at g64;  simp [g52, g58, g64]), (sl1.trans hj42_1.out.symm), HL43.out⟩
       ·skip
        iterate 4 refine py ?_
        refine listF_yes rfl rfl (by decide) ?_ (fun K' hK => ?_); (focus (go_simp; done)); unfold opF; go_simp; refine (rin04_any s.done 0 s.time _).mono ?_; rintro e w' ⟨rfl, rfl⟩; refine ⟨_, rfl, hK _ _ ?_⟩; clear hK K'; refine py ?_; refine P2 ?_; clear sl64; refine lx [72] ?_; clear sl1; intro _ sl1 sl72
        refine boolG sl72 (fun sl72' h72 => ?_) (fun sl72' h72 => ?_) <;> (clear sl72; have sl72 := sl72'; clear sl72')
        ·skip
         refine pn true ?_
         refine pn true ?_; refine pn true ?_; refine pn true ?_; refine pl ?_; clear sl72; refine lx [77] ?_; clear sl1; intro _ sl1 sl77; refine ln ?_; intros
         clear cb1; exact XW2c
        ·skip
         refine py ?_; refine py ?_; refine listF_yes rfl rfl (by decide) ?_ (fun K' hK => ?_); (focus (go_simp; done)); unfold opF; go_simp; refine (rin04_any s.why 0 4 _).mono ?_; rintro e w' ⟨rfl, rfl⟩; refine ⟨_, rfl, hK _ _ ?_⟩; clear hK K'; refine py ?_; refine pl ?_; clear sl72; refine lx [77] ?_; clear sl1; intro _ sl1 sl77; refine ln ?_; intros
         clear cb1; exact XW2c
    ·skip
     clear sl5 sl6 sl32; rintro s58 w59 ⟨sl77, e1, hb⟩; replace sl1 := e1.trans sl1; clear e1 hj42_1; clear qb1 qb30; revert HB; revert kb30; revert kb1; refine uO hb ?_; clear hb; intro kb1 qb1 kb30 qb30 HB
     refine zx ?_; intros
     refine cond_E sl77 (by decide) ?_ ?_ <;> (clear sl77; intro h77 sl77)
     ·skip
      have Hc := hid (chk_5 H1.out G0.out G1.out G2.out h77)
      refine nr ?_; intros
      refine P3 ?_
      clear sl1 sl77; refine lx [2,3,4] ?_; intro _ sl2 sl3 sl4; refine ln ?_; intros
      refine XW2b ?_; exact ⟨by rw [Hc.out] <;> rfl, HB.out.toBelow⟩
     ·skip
      obtain ⟨-, ⟨n1, n2⟩, ⟨n3, n4⟩, -⟩ := num_of h77; have H6 := hid (chk_6 H1.out G0.out G1.out G2.out h77); have e1 : s.time.tmod 16 = s.time % 16 := Int.tmod_eq_emod_of_nonneg n1; have e2 : s.pc.tmod 16 = s.pc % 16 := Int.tmod_eq_emod_of_nonneg n3; have w1 : IntKind.i64.wrap (s.time % 16) = s.time % 16 := IntWalk.i64_in _ (by omega); have w2 : IntKind.i64.wrap (s.pc % 16) = s.pc % 16 := IntWalk.i64_in _ (by omega)
      refine nr ?_; intros; refine pl ?_; have cb1 := clx kb1
      refine P6 ?_
      clear sl1 sl77; refine lx [84] ?_; intro _ sl84; refine ln ?_; intros
      refine cond_E sl84 (by decide) ?_ ?_ <;> (clear sl84; intro h84 sl84)
      ·skip
       have Hc := hid (show chk4 s = (6, 0, 2) by rw [H6.out, if_pos (by simpa using h84)])
       refine nr ?_; intros
       refine P3 ?_
       clear sl84; refine lx [2,3,4] ?_; intro _ sl2 sl3 sl4; refine ln ?_; intros
       refine XW2b ?_; exact ⟨by rw [Hc.out] <;> rfl, HB.out.toBelow⟩
      ·skip
       have Hc := hid (show chk4 s = (0, 0, 0) by rw [H6.out, if_neg (by simpa using h84)])
       refine nr ?_; intros
       refine P3 ?_
       clear sl84; refine lx [2,3,4] ?_; intro _ sl2 sl3 sl4; refine ln ?_; intros
       refine XW2b ?_; exact ⟨by rw [Hc.out] <;> rfl, HB.out.toBelow⟩

theorem XW2d {A B1 : Prop} (hX1 : B1) (e : B1 → A := by exact ret_F _ (res_t Tryz.results29 ((getD_F (by decide)).trans sl4))) : A := e hX1
theorem rints_any (al : Option Addr) (cl : Nat) (l : List Int) (am : Option Addr) (cm : Nat) (m : List Int) (w : World) (hRl : RdInts w al l) (hRm : RdInts w am m) (hll : l.length ≤ 9223372036854775807) (hlm : m.length ≤ 9223372036854775807) :
    Calls Tryz.prog 29 #[.slice al l.length cl, .slice am m.length cm] w (fun e w' => e = .returned (.bool (decide (l = m))) ∧ Below w.heap.size w w') := by
 have HRl := hid hRl; have HRm := hid hRm; clear hRl hRm
 refine enter_F Tryz.func29 rfl Tryz.ntmps29 (by simp) ?_
 intro s0 hs; have sl0 : s0 0 = .slice al l.length cl := hs 0 (by simp); have sl1 : s0 1 = .slice am m.length cm := hs 1 (by simp); clear hs; have HB := hid (OldB.refl [] w)
 refine nr ?_; intros; refine pl ?_; refine lx [] ?_; clear sl0 sl1; intro _ sl0 sl1; refine lr ?_; intros
 refine P5 ?_
 refine lx [10] ?_; clear sl0 sl1; intro _ sl0 sl1 sl10; refine ln ?_; intros
 refine cond_E sl10 (by decide) ?_ ?_ <;> (clear sl10; intro h10 sl10)
 ·skip
  have Hf := hid (show decide (l = m) = false from decide_eq_false (fun e => by have h := h10; rw [e] at h; simp at h))
  refine nr ?_; intros; refine pl ?_; clear sl0 sl1 sl10; refine lx [4] ?_; intro _ sl4; refine ln ?_; intros
  refine XW2d ?_; exact ⟨ret_bool Hf.out.symm, HB.out.toBelow⟩
 ·skip
  have hlen : (l.length : Int) = m.length := by have h := h10; simp at h; omega
  have Hlen := hid (show l.length = m.length by omega); clear hlen
  refine nr ?_; intros; refine pl ?_; clear sl10; refine lx [5] ?_; clear sl0 sl1; intro s4 sl0 sl1 sl5; refine ln ?_; intros
  have hc0_0 := hid sl0; have hc0_1 := hid sl1; refine loop_F (n := 26) (fun kJ sJ wJ => ∃ (i : Nat), kJ = l.length - i ∧ sJ 5 = .int .i64 (i : Int) ∧ sJ 0 = s4 0 ∧ sJ 1 = s4 1 ∧ OldB [] w wJ ∧ i ≤ l.length ∧ Hid (l.take i = m.take i)) ⟨0, rfl, (by first | exact sl5 | (rw [sl5]; go_num) | (rw [sl5]; rfl)), rfl, rfl, OldB.refl _ _, Nat.zero_le _, hid rfl⟩ ?_; clear sl5; rintro kJ s5 w6 ⟨i, rfl, sl5, e0, e1, hb, hil, Htk⟩; replace sl0 := e0.trans sl0; clear e0; replace sl1 := e1.trans sl1; clear e1; have hoJ := hb; replace HB := mO HB hb; clear hb; have HoJ := hid hoJ; clear hoJ; have HL8 := HoJ; clear HoJ
  refine nr ?_; intros
  refine P4 ?_
  refine lx [14] ?_; clear sl0 sl1 sl5; intro _ sl0 sl1 sl5 sl14; refine ln ?_; intros
  refine cond_E sl14 (by decide) ?_ ?_ <;> (clear sl14; intro h14 sl14)
  ·skip
   have hi : i < l.length := by simpa using h14
   have hii : (i : Int) < l.length := by omega
   have hi2 : i < m.length := by have := Hlen.out; omega
   have hii2 : (i : Int) < m.length := by omega
   obtain ⟨bl, ol, hal, hbl, c0⟩ := RdInts.ne (Rd.oldB HRl.out HB.out (by simp)) hi; subst hal; obtain ⟨bm, om, ham, hbm, d0⟩ := RdInts.ne (Rd.oldB HRm.out HB.out (by simp)) hi2; subst ham; obtain ⟨y, hy⟩ : ∃ z, l[i] = z := ⟨_, rfl⟩; obtain ⟨z, hz⟩ : ∃ z, m[i] = z := ⟨_, rfl⟩; rw [hy] at c0; rw [hz] at d0; have Hy := hid hy; have Hz := hid hz; clear hy hz
   refine zx ?_; intros
   refine rgQ 8 [?_,?_,?_,?_,?_,?_,?_,?_] ?walk1 ?dep1
   case walk1 =>
    iterate 8 refine rq ?_
    refine walkR_nil (fun X hX w10 hwz hcz => ?_); clear hX hcz
    (try clear X)
    skip; have hb := hwz.unDrew; clear hwz; revert HB; revert HL8; refine zO hb ?_; clear hb; intro HL8 HB; refine pl ?_; clear sl14; refine lx [25] ?_; clear sl0 sl1 sl5; intro _ sl0 sl1 sl5 sl25; refine ln ?_; intros
    refine cond_E sl25 (by decide) ?_ ?_ <;> (clear sl25; intro h25 sl25)
    ·skip
     have Hf := hid (show decide (l = m) = false from decide_eq_false (fun e => by subst e; have h := h25; rw [← Hy.out, ← Hz.out] at h; simp at h))
     refine nr ?_; intros; refine pl ?_; clear sl0 sl1 sl5 sl25; refine lx [4] ?_; intro _ sl4; refine ln ?_; intros
     refine XW2d ?_; exact ⟨ret_bool Hf.out.symm, HB.out.toBelow⟩
    ·skip
     have hyz : y = z := by have h := h25; simp at h; exact h
     refine nr ?_; intros
     refine P3 ?_
     clear sl5 sl25; refine lx [5] ?_; clear sl0 sl1; intro _ sl0 sl1 sl5; refine ln ?_; intros
     refine ⟨_, _, rfl, ?_, i + 1, rfl, (rL sl5), (sl0.trans hc0_0.out.symm), (sl1.trans hc0_1.out.symm), HL8.out, by omega, hid (take_more hi hi2 Htk.out (by rw [Hy.out, Hz.out, hyz]))⟩
     omega
   case dep1 => exact dA
  ·skip
   have hi : i = l.length := by have h := h14; simp at h; omega
   have Hf := hid (show decide (l = m) = true from decide_eq_true (by have h1 := Htk.out; rw [hi, List.take_length, Hlen.out, List.take_length] at h1; exact h1))
   refine zx ?_; intros
   clear HL8; clear hc0_0 hc0_1; refine region_F ?_; refine pl ?_; clear sl0 sl1 sl5 sl14; refine lx [4] ?_; intro _ sl4; refine ln ?_; intros
   refine XW2d ?_; exact ⟨ret_bool Hf.out.symm, HB.out.toBelow⟩


theorem st_eq (s t : St4) : s = t ↔ s.store = t.store ∧ s.tape = t.tape ∧ s.taken = t.taken ∧ s.printed = t.printed ∧ s.time = t.time ∧ s.pc = t.pc ∧ s.done = t.done ∧ s.why = t.why := by
  cases s; cases t; simp

theorem XW2e {A : Prop} (e : A := by exact ⟨trv, _, rfl, (by rw [sl4]; congr 1; rw [Bool.eq_iff_iff, decide_eq_true_eq, st_eq]; simp [g10, g17, g24, g31, g38, g45, g52]), HL7.out⟩) : A := e
theorem rstates_any (s : St4) (A : SA) (t : St4) (B : SA) (w : World) (hR : RdSt w s A) (hQ : RdSt w t B) (hL : LenI s) (hM : LenI t) :
    Calls Tryz.prog 32 #[.agg #[.slice A.sa s.store.length A.sc, .slice A.ta s.tape.length A.tc, .int .i64 s.taken, .slice A.pa s.printed.length A.pc, .int .i64 s.time, .int .i64 s.pc, .int .i64 s.done, .int .i64 s.why], .agg #[.slice B.sa t.store.length B.sc, .slice B.ta t.tape.length B.tc, .int .i64 t.taken, .slice B.pa t.printed.length B.pc, .int .i64 t.time, .int .i64 t.pc, .int .i64 t.done, .int .i64 t.why]] w (fun e w' => e = .returned (.bool (decide (s = t))) ∧ Below w.heap.size w w') := by
 have HR := hid hR; have HQ := hid hQ; clear hR hQ; obtain ⟨l0, l1, l2⟩ := hL; obtain ⟨m0, m1, m2⟩ := hM
 refine enter_F Tryz.func32 rfl Tryz.ntmps32 (by simp) ?_
 intro s0 hs; have sl0 : s0 0 = .agg #[.slice A.sa s.store.length A.sc, .slice A.ta s.tape.length A.tc, .int .i64 s.taken, .slice A.pa s.printed.length A.pc, .int .i64 s.time, .int .i64 s.pc, .int .i64 s.done, .int .i64 s.why] := hs 0 (by simp); have sl1 : s0 1 = .agg #[.slice B.sa t.store.length B.sc, .slice B.ta t.tape.length B.tc, .int .i64 t.taken, .slice B.pa t.printed.length B.pc, .int .i64 t.time, .int .i64 t.pc, .int .i64 t.done, .int .i64 t.why] := hs 1 (by simp); clear hs; have HB := hid (OldB.refl [] w)
 refine nr ?_; intros; refine pa (fun _ B2 hB kb2 hb => ?_); have gb2 := HB.out.gB hB; have eb2 := eB hB; clear hB; replace HB := bE HB hb; clear hb; have qb2 := kb2.1; refine pa (fun w3 B3 hB kb3 hb => ?_); have gb3 := HB.out.gB hB; have ob2_b3 := oB qb2 hB; have eb3 := eB hB; clear hB; clear qb2; revert HB; revert kb2; refine uA hb ?_; clear hb; intro kb2 qb2 HB; have qb3 := kb3.1; refine pl ?_; clear sl0 sl1; refine lx [2,3] ?_; intro _ sl2 sl3; refine ln ?_; intros
 refine cut_any (fun sJ wJ => sJ 4 = .bool (decide (s = t)) ∧ OldB [] w3 wJ) ?_ ?_
 ·skip
  have HL7 := hid (OldB.refl [] w3); refine region_F ?_; refine pl ?_; have cb2 := clx kb2; refine P2 ?_; have cb3 := clx kb3; refine pl ?_; refine cal (rints_any A.sa A.sc s.store B.sa B.sc t.store _ (Rd.oldB HR.out.st HB.out (by simp)) (Rd.oldB HQ.out.st HB.out (by simp)) l0 m0) ?_; rintro e _ ⟨rfl, hb⟩; refine ⟨_, rfl, ?_⟩; clear cb2 cb3
  clear qb2 qb3; revert HB; revert HL7; revert kb3; revert kb2; refine uA hb ?_; clear hb; intro kb2 qb2 kb3 qb3 HL7 HB; refine pl ?_; refine lx [10] ?_; clear sl2 sl3; intro _ sl2 sl3 sl10
  refine boolG sl10 (fun sl10' h10 => ?_) (fun sl10' h10 => ?_) <;> (clear sl10; have sl10 := sl10'; clear sl10')
  ·skip
   have g10 : s.store = t.store := by simpa using h10
   refine py ?_; have cb2 := clx kb2; refine py ?_; refine py ?_; have cb3 := clx kb3; refine py ?_; refine listF_yes rfl rfl (by decide) ?_ (fun K' hK => ?_); (focus (go_simp; done)); unfold opF; go_simp; refine (rints_any A.ta A.tc s.tape B.ta B.tc t.tape _ (Rd.oldB HR.out.tp HB.out (by simp)) (Rd.oldB HQ.out.tp HB.out (by simp)) l1 m1).mono ?_; rintro e _ ⟨rfl, hb⟩; refine ⟨_, rfl, hK _ _ ?_⟩; clear hK K'; clear cb2 cb3
   clear qb2 qb3; revert HB; revert HL7; revert kb3; revert kb2; refine uA hb ?_; clear hb; intro kb2 qb2 kb3 qb3 HL7 HB; refine P2 ?_; clear sl10; refine lx [17] ?_; clear sl2 sl3; intro _ sl2 sl3 sl17
   refine boolG sl17 (fun sl17' h17 => ?_) (fun sl17' h17 => ?_) <;> (clear sl17; have sl17 := sl17'; clear sl17')
   ·skip
    have g17 : s.tape = t.tape := by simpa using h17
    refine py ?_; have cb2 := clx kb2; refine py ?_; refine py ?_; have cb3 := clx kb3; refine py ?_; refine py ?_; refine P2 ?_; clear sl17; refine lx [24] ?_; clear sl2 sl3; intro _ sl2 sl3 sl24
    refine boolG sl24 (fun sl24' h24 => ?_) (fun sl24' h24 => ?_) <;> (clear sl24; have sl24 := sl24'; clear sl24')
    ·skip
     have g24 : s.taken = t.taken := by simpa using h24
     iterate 4 refine py ?_
     refine listF_yes rfl rfl (by decide) ?_ (fun K' hK => ?_); (focus (go_simp; done)); unfold opF; go_simp; refine (rints_any A.pa A.pc s.printed B.pa B.pc t.printed _ (Rd.oldB HR.out.pr HB.out (by simp)) (Rd.oldB HQ.out.pr HB.out (by simp)) l2 m2).mono ?_; rintro e _ ⟨rfl, hb⟩; refine ⟨_, rfl, hK _ _ ?_⟩; clear hK K'; clear cb2 cb3; clear qb2 qb3; revert HB; revert HL7; revert kb3; revert kb2; refine uA hb ?_; clear hb; intro kb2 qb2 kb3 qb3 HL7 HB; refine P2 ?_; clear sl24; refine lx [31] ?_; clear sl2 sl3; intro _ sl2 sl3 sl31
     refine boolG sl31 (fun sl31' h31 => ?_) (fun sl31' h31 => ?_) <;> (clear sl31; have sl31 := sl31'; clear sl31')
     ·skip
      have g31 : s.printed = t.printed := by simpa using h31
      refine py ?_; have cb2 := clx kb2; refine py ?_; refine py ?_; have cb3 := clx kb3; refine py ?_; refine py ?_; refine P2 ?_; clear sl31; refine lx [38] ?_; clear sl2 sl3; intro _ sl2 sl3 sl38
      refine boolG sl38 (fun sl38' h38 => ?_) (fun sl38' h38 => ?_) <;> (clear sl38; have sl38 := sl38'; clear sl38')
      ·skip
       have g38 : s.time = t.time := by simpa using h38
       iterate 5 refine py ?_
       refine P2 ?_; clear sl38; refine lx [45] ?_; clear sl2 sl3; intro _ sl2 sl3 sl45
       refine boolG sl45 (fun sl45' h45 => ?_) (fun sl45' h45 => ?_) <;> (clear sl45; have sl45 := sl45'; clear sl45')
       ·skip
        have g45 : s.pc = t.pc := by simpa using h45
        iterate 5 refine py ?_
        refine P2 ?_; clear sl45; refine lx [52] ?_; clear sl2 sl3; intro _ sl2 sl3 sl52
        refine boolG sl52 (fun sl52' h52 => ?_) (fun sl52' h52 => ?_) <;> (clear sl52; have sl52 := sl52'; clear sl52')
        ·skip
         have g52 : s.done = t.done := by simpa using h52
         iterate 5 refine py ?_
         refine P2 ?_; clear sl2 sl3 sl52; refine lx [4] ?_; intro _ sl4; refine ln ?_; intros
         clear cb2 cb3; exact XW2e
        ·skip
         have g52 : ¬ (s.done = t.done) := by simpa using h52
         refine F5 ?_; refine P2 ?_; clear sl2 sl3 sl52; refine lx [4] ?_; intro _ sl4; refine ln ?_; intros
         clear cb2 cb3; exact XW2e
       ·skip
        have g45 : ¬ (s.pc = t.pc) := by simpa using h45
        refine F5 ?_; refine P2 ?_
        refine F5 ?_; refine P2 ?_; clear sl2 sl3 sl45; refine lx [4] ?_; intro _ sl4; refine ln ?_; intros
        clear cb2 cb3; exact ⟨trv, _, rfl, (by rw [sl4]; congr 1; rw [Bool.eq_iff_iff, decide_eq_true_eq, st_eq]; simp [g10, g17, g24, g31, g38, g45]), HL7.out⟩
      ·skip
       have g38 : ¬ (s.time = t.time) := by simpa using h38
       refine F5 ?_; refine P2 ?_
       refine F5 ?_; refine P2 ?_
       refine F5 ?_; refine P2 ?_; clear sl2 sl3 sl38; refine lx [4] ?_; intro _ sl4; refine ln ?_; intros
       clear cb2 cb3; exact ⟨trv, _, rfl, (by rw [sl4]; congr 1; rw [Bool.eq_iff_iff, decide_eq_true_eq, st_eq]; simp [g10, g17, g24, g31, g38]), HL7.out⟩
     ·skip
      have g31 : ¬ (s.printed = t.printed) := by simpa using h31
      refine F5 ?_; refine P2 ?_
      refine F5 ?_; refine P2 ?_
      refine F5 ?_; refine P2 ?_
      refine F5 ?_; refine P2 ?_; clear sl2 sl3 sl31; refine lx [4] ?_; intro _ sl4; refine ln ?_; intros
      exact ⟨trv, _, rfl, (by rw [sl4]; congr 1; rw [Bool.eq_iff_iff, decide_eq_true_eq, st_eq]; simp [g10, g17, g24, g31]), HL7.out⟩
    ·skip
     have g24 : ¬ (s.taken = t.taken) := by simpa using h24
     refine F5 ?_; refine P2 ?_
     refine F5 ?_; refine P2 ?_
     refine F5 ?_; refine P2 ?_
     refine F5 ?_; refine P2 ?_
     refine F5 ?_; refine P2 ?_; clear sl2 sl3 sl24; refine lx [4] ?_; intro _ sl4; refine ln ?_; intros
     clear cb2 cb3; exact ⟨trv, _, rfl, (by rw [sl4]; congr 1; rw [Bool.eq_iff_iff, decide_eq_true_eq, st_eq]; simp [g10, g17, g24]), HL7.out⟩
   ·skip
    have g17 : ¬ (s.tape = t.tape) := by simpa using h17
    refine F5 ?_; refine P2 ?_
    refine F5 ?_; refine P2 ?_
    refine F5 ?_; refine P2 ?_
    refine F5 ?_; refine P2 ?_
    refine F5 ?_; refine P2 ?_
    refine F5 ?_; refine P2 ?_; clear sl2 sl3 sl17; refine lx [4] ?_; intro _ sl4; refine ln ?_; intros
    exact ⟨trv, _, rfl, (by rw [sl4]; congr 1; rw [Bool.eq_iff_iff, decide_eq_true_eq, st_eq]; simp [g10, g17]), HL7.out⟩
  ·skip
   have g10 : ¬ (s.store = t.store) := by simpa using h10
   refine F5 ?_; refine P2 ?_
   refine F5 ?_; refine P2 ?_
   refine F5 ?_; refine P2 ?_
   refine F5 ?_; refine P2 ?_
   refine F5 ?_; refine P2 ?_
   refine F5 ?_; refine P2 ?_
   refine F5 ?_; refine P2 ?_; clear sl2 sl3 sl10; refine lx [4] ?_; intro _ sl4; refine ln ?_; intros
   exact ⟨trv, _, rfl, (by rw [sl4]; congr 1; rw [Bool.eq_iff_iff, decide_eq_true_eq, st_eq]; simp [g10]), HL7.out⟩
 ·skip
  clear sl2 sl3; rintro s29 w30 ⟨sl4, hb⟩; clear qb2 qb3; revert HB; revert kb3; revert kb2; refine uO hb ?_; clear hb; intro kb2 qb2 kb3 qb3 HB
  refine zx ?_; intros
  refine ret_F _ (res_t Tryz.results32 ((getD_F (by decide)).trans sl4)) ?_; exact ⟨rfl, HB.out.toBelow⟩

end Go.Proofs.YtleknidlgmmgbaaGreat
