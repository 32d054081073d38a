/- The contracts of the reference's small functions. -/
import Derived.Test.YtndcmmghgljinaardW4
set_option linter.all false
namespace Go.Proofs.Ytndcmmghgljinaa

open Go.RowKit


theorem RdSteps.get {w : World} {b off : Nat} {l : List Stp} (h : RdSteps w (some ⟨b, off, none⟩) l) {k : Nat} (hk : k < l.length) :
    b < w.heap.size ∧ w.cell? ⟨b, off + k * 2, none⟩ = some (.int .i64 l[k].volt) ∧ w.cell? ⟨b, off + k * 2 + 1, none⟩ = some (.int .i64 l[k].need) := by
  obtain ⟨hb, hc⟩ := Rd.get h hk; exact ⟨hb, hc 0 _ rfl, hc 1 _ rfl⟩
theorem bne_or (a b : Int) : (a != b) = true ∨ (a != b) = false := by cases h : a != b <;> simp
theorem stp_z {k : Kd} (h : stpIn k 0) : stpErr k.steps 0 = if (k.steps[0]'h.1).volt ≠ 1000 then 2 else 0 := by
  obtain ⟨hi, h1, h2⟩ := h; unfold stpErr; rw [getD_get hi, if_neg (by simp only [not_or, Bool.not_eq_false, inb_iff]; exact ⟨h1, h2⟩)]
  simp
theorem stp_p {k : Kd} {m : Nat} (h : stpIn k (m + 1)) : stpErr k.steps (m + 1) = if (k.steps[m]'(by have := h.1; omega)).volt ≤ (k.steps[m + 1]'h.1).volt ∨ (k.steps[m + 1]'h.1).need < (k.steps[m]'(by have := h.1; omega)).need then 2 else 0 := by
  obtain ⟨hi, h1, h2⟩ := h; unfold stpErr; rw [getD_get hi, if_neg (by simp only [not_or, Bool.not_eq_false, inb_iff]; exact ⟨h1, h2⟩), Nat.add_sub_cancel, getD_get (show m < k.steps.length by omega)]
  simp

set_option maxRecDepth 100000 in
set_option maxHeartbeats 1000000 in
theorem rcheck_any (k : Kd) (a : Option Addr) (c : Nat) (w : World) (hsl : k.steps.length ≤ 9223372036854775807) (hR : RdSteps w a k.steps) :
    Calls Try.prog 21 #[.agg #[.int .i64 k.new, .int .i64 k.wear.lo, .int .i64 k.wear.hi, .slice a k.steps.length c]] w (fun e w' => e = .returned (.int .i64 (kdErr k)) ∧ Below w.heap.size w w') := by
 have HR := hid hR; clear hR
 refine enter_F Try.func21 rfl Try.ntmps21 (by simp) ?_
 intro s0 hs; have sl0 : s0 0 = .agg #[.int .i64 k.new, .int .i64 k.wear.lo, .int .i64 k.wear.hi, .slice a k.steps.length c] := hs 0 (by simp); clear hs; have HB := hid (OldB.refl [] w)
 repeat ((fail_if_success refine stp ?_); with_reducible go_step)
 refine region_F ?_; refine pa (fun w1 B1 hB kb1' hb2 => ?_); have gb1 := HB.out.gB hB; have eb1 := eB hB; clear hB; replace HB := hid (HB.out.below hb2); clear hb2; have kb1 := kb1'; clear kb1'; have qb1 := kb1.1; refine pl ?_; refine listF_abs (fun s3 z' => ?_); have sl1 := gu 1 z'; clear z' sl0; refine listF_nil ?_
 repeat ((fail_if_success refine stp ?_); with_reducible go_step)
 refine region_F ?_; refine pl ?_; have cb1_0 := kb1.cell 0 rfl; have cb1_1 := kb1.cell 1 rfl; have cb1_2 := kb1.cell 2 rfl; have cb1_3 := kb1.cell 3 rfl; refine pl ?_; refine listF_step rfl (fun K' hK => ?_); unfold opF; go_simp; refine (rin_any k.new 1 1000000 _).mono ?_; rintro e w' ⟨rfl, rfl⟩; refine ⟨_, rfl, hK _ _ ?_⟩; clear hK K'; refine pl ?_; refine pl ?_; refine listF_abs (fun s5 z' => ?_); replace sl1 := gs 1 z' sl1; have sl9 := gu 9 z'; clear z'
 refine boolG sl9 (fun sl9' h9 => ?_) (fun sl9' h9 => ?_) <;> (clear sl9; have sl9 := sl9'; clear sl9')
 ·skip
  have He := hid (kdErr_1 (k := k) (.inl (by rw [← inb_iff]; simpa using h9)))
  refine pn true ?_
  refine pn true ?_
  refine pn true ?_; refine pn true ?_; refine pn true ?_; refine pl ?_; refine pl ?_
  refine pn true ?_
  refine pn true ?_
  refine pn true ?_; refine pn true ?_; refine pn true ?_; refine pl ?_; refine listF_abs (fun s6 z' => ?_); replace sl1 := gs 1 z' sl1; have sl22 := gu 22 z'; clear z' sl9; refine listF_nil ?_
  repeat ((fail_if_success refine stp ?_); with_reducible go_step)
  refine cond_t ?_
  repeat ((fail_if_success refine stp ?_); with_reducible go_step)
  refine region_F ?_; refine pl ?_; refine listF_abs (fun s7 z' => ?_); have sl2 := gu 2 z'; clear z' sl1 sl22; refine listF_nil ?_
  repeat ((fail_if_success refine stp ?_); with_reducible go_step)
  refine ret_F _ (res_t Try.results21 ((getD_F (by decide)).trans sl2)) ?_; exact ⟨ret_int He.out.symm, HB.out.toBelow⟩
 ·skip
  have e1 : inb k.new 1 1000000 = true := by simpa using h9
  iterate 3 refine py ?_
  refine listF_yes rfl rfl (by decide) ?_ (fun K' hK => ?_); (focus (go_simp; done)); unfold opF; go_simp; refine (rin_any k.wear.lo 0 1000 _).mono ?_; rintro e w' ⟨rfl, rfl⟩; refine ⟨_, rfl, hK _ _ ?_⟩; clear hK K'; refine py ?_; refine pl ?_; refine pl ?_; refine listF_abs (fun s9 z' => ?_); replace sl1 := gs 1 z' sl1; have sl16 := gu 16 z'; clear z' sl9
  refine boolG sl16 (fun sl16' h16 => ?_) (fun sl16' h16 => ?_) <;> (clear sl16; have sl16 := sl16'; clear sl16')
  ·skip
   have He := hid (kdErr_1 (k := k) (.inr (.inl (by rw [← inb_iff]; simpa using h16))))
   refine pn true ?_
   refine pn true ?_
   refine pn true ?_; refine pn true ?_; refine pn true ?_; refine pl ?_; refine listF_abs (fun s10 z' => ?_); replace sl1 := gs 1 z' sl1; have sl22 := gu 22 z'; clear z' sl16; refine listF_nil ?_
   repeat ((fail_if_success refine stp ?_); with_reducible go_step)
   refine cond_t ?_
   repeat ((fail_if_success refine stp ?_); with_reducible go_step)
   refine region_F ?_; refine pl ?_; refine listF_abs (fun s11 z' => ?_); have sl2 := gu 2 z'; clear z' sl1 sl22; refine listF_nil ?_
   repeat ((fail_if_success refine stp ?_); with_reducible go_step)
   refine ret_F _ (res_t Try.results21 ((getD_F (by decide)).trans sl2)) ?_; exact ⟨ret_int He.out.symm, HB.out.toBelow⟩
  ·skip
   have e2 : inb k.wear.lo 0 1000 = true := by simpa using h16
   iterate 3 refine py ?_
   refine listF_yes rfl rfl (by decide) ?_ (fun K' hK => ?_); (focus (go_simp; done)); unfold opF; go_simp; refine (rin_any k.wear.hi 0 1000 _).mono ?_; rintro e w' ⟨rfl, rfl⟩; refine ⟨_, rfl, hK _ _ ?_⟩; clear hK K'; refine py ?_; refine pl ?_; refine listF_abs (fun s13 z' => ?_); replace sl1 := gs 1 z' sl1; have sl22 := gu 22 z'; clear z' sl16; refine listF_nil ?_
   repeat ((fail_if_success refine stp ?_); with_reducible go_step)
   refine cond_E sl22 (by decide) ?_ ?_ <;> (clear sl22; intro h22 sl22)
   ·skip
    have He := hid (kdErr_1 (k := k) (.inr (.inr (by rw [← inb_iff]; simpa using h22))))
    repeat ((fail_if_success refine stp ?_); with_reducible go_step)
    refine region_F ?_; refine pl ?_; refine listF_abs (fun s14 z' => ?_); have sl2 := gu 2 z'; clear z' sl1 sl22; refine listF_nil ?_
    repeat ((fail_if_success refine stp ?_); with_reducible go_step)
    refine ret_F _ (res_t Try.results21 ((getD_F (by decide)).trans sl2)) ?_; exact ⟨ret_int He.out.symm, HB.out.toBelow⟩
   ·skip
    have e3 : inb k.wear.hi 0 1000 = true := by simpa using h22
    have Hh := hid (show kHead k from ⟨(inb_iff _ _ _).1 e1, (inb_iff _ _ _).1 e2, (inb_iff _ _ _).1 e3⟩); clear e1 e2 e3 h9 h16 h22
    repeat ((fail_if_success refine stp ?_); with_reducible go_step)
    refine region_F ?_
    iterate 7 refine pl ?_
    refine listF_abs (fun s15 z' => ?_); replace sl1 := gs 1 z' sl1; have sl29 := gu 29 z'; clear z' sl22; refine listF_nil ?_
    repeat ((fail_if_success refine stp ?_); with_reducible go_step)
    refine cond_E sl29 (by decide) ?_ ?_ <;> (clear sl29; intro h29 sl29)
    ·skip
     have He := hid (kdErr_2 Hh.out (by simpa using h29))
     repeat ((fail_if_success refine stp ?_); with_reducible go_step)
     refine region_F ?_; refine pl ?_; refine listF_abs (fun s16 z' => ?_); have sl2 := gu 2 z'; clear z' sl1 sl29; refine listF_nil ?_
     repeat ((fail_if_success refine stp ?_); with_reducible go_step)
     refine ret_F _ (res_t Try.results21 ((getD_F (by decide)).trans sl2)) ?_; exact ⟨ret_int He.out.symm, HB.out.toBelow⟩
    ·skip
     have Hw := hid (show ¬ k.wear.hi < k.wear.lo by simpa using h29); clear h29
     repeat ((fail_if_success refine stp ?_); with_reducible go_step)
     refine region_F ?_
     iterate 3 refine pl ?_
     refine listF_step rfl (fun K' hK => ?_); unfold opF; go_simp; refine (rin_any k.steps.length 1 8 _).mono ?_; rintro e w' ⟨rfl, rfl⟩; refine ⟨_, rfl, hK _ _ ?_⟩; clear hK K'; refine pl ?_; refine listF_abs (fun s18 z' => ?_); replace sl1 := gs 1 z' sl1; have sl34 := gu 34 z'; clear z' sl29; refine listF_nil ?_
     repeat ((fail_if_success refine stp ?_); with_reducible go_step)
     refine cond_E sl34 (by decide) ?_ ?_ <;> (clear sl34; intro h34 sl34)
     ·skip
      have He := hid (kdErr_3 Hh.out Hw.out (by have h : ¬ inb (k.steps.length : Int) 1 8 = true := (by simpa using h34); rw [inb_iff] at h; omega))
      repeat ((fail_if_success refine stp ?_); with_reducible go_step)
      refine region_F ?_; refine pl ?_; refine listF_abs (fun s19 z' => ?_); have sl2 := gu 2 z'; clear z' sl1 sl34; refine listF_nil ?_
      repeat ((fail_if_success refine stp ?_); with_reducible go_step)
      refine ret_F _ (res_t Try.results21 ((getD_F (by decide)).trans sl2)) ?_; exact ⟨ret_int He.out.symm, HB.out.toBelow⟩
     ·skip
      have e4 := (inb_iff (k.steps.length : Int) 1 8).1 (by simpa using h34); have Hl := hid (show ¬ (k.steps.length = 0 ∨ 8 < k.steps.length) by omega)
      have hl8 : k.steps.length ≤ 8 := by omega
      clear e4 h34
      repeat ((fail_if_success refine stp ?_); with_reducible go_step)
      refine region_F ?_; refine pl ?_; refine listF_abs (fun s20 z' => ?_); replace sl1 := gs 1 z' sl1; have sl3 := gu 3 z'; clear z' sl34; refine listF_nil ?_
      repeat ((fail_if_success refine stp ?_); with_reducible go_step)
      clear cb1_0 cb1_1 cb1_2 cb1_3; have hc0_1 := hid sl1; refine loop_F (n := 92) (fun kJ sJ wJ => ∃ (i : Nat), kJ = k.steps.length - i ∧ sJ 3 = .int .i64 (i : Int) ∧ sJ 1 = s20 1 ∧ OldB [] w1 wJ ∧ (Hid (∀ j, j < i → stpErr k.steps j = 0)) ∧ i ≤ k.steps.length) ⟨0, rfl, (by first | exact sl3 | (rw [sl3]; go_num) | (rw [sl3]; rfl)), rfl, OldB.refl _ _, hid (fun j hj => by omega), Nat.zero_le _⟩ ?_; clear sl3; rintro kJ s21 w22 ⟨i, rfl, sl3, e1, hb23, hp, hle⟩; replace sl1 := e1.trans sl1; clear e1; have hoJ := hb23; clear qb1; replace kb1 := kb1.oldB hb23 (by first | (simp; done) | (simp; omega)); replace HB := hid (HB.out.more hb23 (by simp; try omega)); clear hb23; have qb1 := kb1.1; have HoJ := hid hoJ; clear hoJ; have HL24 := HoJ; clear HoJ
      repeat ((fail_if_success refine stp ?_); with_reducible go_step)
      refine region_F ?_; refine pl ?_; refine pl ?_; have cb1_0 := kb1.cell 0 rfl; have cb1_1 := kb1.cell 1 rfl; have cb1_2 := kb1.cell 2 rfl; have cb1_3 := kb1.cell 3 rfl
      iterate 3 refine pl ?_
      refine listF_abs (fun s25 z' => ?_); replace sl1 := gs 1 z' sl1; replace sl3 := gs 3 z' sl3; have sl39 := gu 39 z'; clear z'; refine listF_nil ?_
      repeat ((fail_if_success refine stp ?_); with_reducible go_step)
      refine cond_E sl39 (by decide) ?_ ?_ <;> (clear sl39; intro h39 sl39)
      ·skip
       have hlt : i < k.steps.length := by simpa using h39
       obtain ⟨b, off, rfl, hbs, c0, c1⟩ := RdSteps.ne (Rd.oldB HR.out HB.out (by simp)) hlt
       repeat ((fail_if_success refine stp ?_); with_reducible go_step)
       refine region_F ?_
       iterate 5 refine pl ?_
       refine pa (fun w26 B4 hB kb4' hb27 => ?_); have gb4 := HB.out.gB hB; have lHL24_b4 := HL24.out.gB hB; have ob1_b4 := oB qb1 hB; have eb4 := eB hB; clear hB; clear cb1_0 cb1_1 cb1_2 cb1_3; clear qb1; replace kb1 := kb1.at hb27; replace HL24 := hid (HL24.out.below hb27); replace HB := hid (HB.out.below hb27); clear hb27; have qb1 := kb1.1; have kb4 := kb4'; clear kb4'; have qb4 := kb4.1; have cb4_0 := kb4.cell 0 rfl; have cb4_1 := kb4.cell 1 rfl; have zb4 := kb4.2.2; refine pl ?_; refine listF_absw (fun w28 hw' => ?_); have kb4' := cells_of hw' (Cells.set (i := 1) (Cells.set (i := 0) (kb4)))
       (try simp only [vC, List.set_cons_zero, List.set_cons_succ] at kb4')
       have hb29 : OldB [B4] w26 w28 := oldset hw'; clear hw'; clear cb4_0 cb4_1 zb4; clear qb1 qb4; replace kb4 := kb4'; replace kb1 := kb1.oldB hb29 (by first | (simp; done) | (simp; omega)); replace HL24 := hid (HL24.out.more hb29 (by simp; try omega)); replace HB := hid (HB.out.more hb29 (by simp; try omega)); clear hb29; have qb1 := kb1.1; have qb4 := kb4.1; clear kb4'; refine listF_abs (fun s30 z' => ?_); replace sl1 := gs 1 z' sl1; replace sl3 := gs 3 z' sl3; have sl4 := gu 4 z'; clear z' sl39; refine listF_nil ?_
       repeat ((fail_if_success refine stp ?_); with_reducible go_step)
       refine region_F ?_; refine pl ?_; have cb4_0 := kb4.cell 0 rfl; have cb4_1 := kb4.cell 1 rfl; refine pl ?_; refine listF_step rfl (fun K' hK => ?_); unfold opF; go_simp; refine (rin_any k.steps[i].volt 0 1000 _).mono ?_; rintro e w' ⟨rfl, rfl⟩; refine ⟨_, rfl, hK _ _ ?_⟩; clear hK K'; refine pl ?_; refine pl ?_; refine listF_abs (fun s32 z' => ?_); replace sl1 := gs 1 z' sl1; replace sl3 := gs 3 z' sl3; replace sl4 := gs 4 z' sl4; have sl51 := gu 51 z'; clear z'
       refine boolG sl51 (fun sl51' h51 => ?_) (fun sl51' h51 => ?_) <;> (clear sl51; have sl51 := sl51'; clear sl51')
       ·skip
        have e7 := stp_7 hlt (.inl (by rw [← inb_iff]; simpa using h51)); have He := hid (kdErr_s Hh.out Hw.out Hl.out hlt hp.out (by rw [e7]; decide)); rw [e7] at He; clear e7
        refine pn true ?_
        refine pn true ?_; refine pn true ?_; refine pn true ?_; refine pl ?_; refine listF_abs (fun s33 z' => ?_); replace sl1 := gs 1 z' sl1; replace sl3 := gs 3 z' sl3; replace sl4 := gs 4 z' sl4; have sl56 := gu 56 z'; clear z' sl51; refine listF_nil ?_
        repeat ((fail_if_success refine stp ?_); with_reducible go_step)
        refine cond_t ?_
        repeat ((fail_if_success refine stp ?_); with_reducible go_step)
        refine region_F ?_; refine pl ?_; refine listF_abs (fun s34 z' => ?_); have sl2 := gu 2 z'; clear z' sl1 sl3 sl4 sl56; refine listF_nil ?_
        repeat ((fail_if_success refine stp ?_); with_reducible go_step)
        refine ret_F _ (res_t Try.results21 ((getD_F (by decide)).trans sl2)) ?_; exact ⟨ret_int He.out.symm, HB.out.toBelow⟩
       ·skip
        have e5 : inb k.steps[i].volt 0 1000 = true := by simpa using h51
        refine py ?_; refine py ?_; refine listF_yes rfl rfl (by decide) ?_ (fun K' hK => ?_); (focus (go_simp; done)); unfold opF; go_simp; refine (rin_any k.steps[i].need 0 1000000 _).mono ?_; rintro e w' ⟨rfl, rfl⟩; refine ⟨_, rfl, hK _ _ ?_⟩; clear hK K'; refine py ?_; refine pl ?_; refine listF_abs (fun s36 z' => ?_); replace sl1 := gs 1 z' sl1; replace sl3 := gs 3 z' sl3; replace sl4 := gs 4 z' sl4; have sl52 := gu 52 z'; have sl53 := gu 53 z'; have sl54 := gu 54 z'; have sl55 := gu 55 z'; have sl56 := gu 56 z'; clear z' sl51; refine listF_nil ?_
        repeat ((fail_if_success refine stp ?_); with_reducible go_step)
        refine cond_E sl56 (by decide) ?_ ?_ <;> (clear sl56; intro h56 sl56)
        ·skip
         have e7 := stp_7 hlt (.inr (by rw [← inb_iff]; simpa using h56)); have He := hid (kdErr_s Hh.out Hw.out Hl.out hlt hp.out (by rw [e7]; decide)); rw [e7] at He; clear e7
         repeat ((fail_if_success refine stp ?_); with_reducible go_step)
         refine region_F ?_; refine pl ?_; refine listF_abs (fun s37 z' => ?_); have sl2 := gu 2 z'; clear z' sl1 sl3 sl4 sl52 sl53 sl54 sl55 sl56; refine listF_nil ?_
         repeat ((fail_if_success refine stp ?_); with_reducible go_step)
         refine ret_F _ (res_t Try.results21 ((getD_F (by decide)).trans sl2)) ?_; exact ⟨ret_int He.out.symm, HB.out.toBelow⟩
        ·skip
         have e6 : inb k.steps[i].need 0 1000000 = true := by simpa using h56
         have Hin := hid (show stpIn k i from ⟨hlt, (inb_iff _ _ _).1 e5, (inb_iff _ _ _).1 e6⟩); clear e5 e6 h51 h56
         repeat ((fail_if_success refine stp ?_); with_reducible go_step)
         obtain rfl | ⟨m, rfl⟩ : i = 0 ∨ ∃ m, i = m + 1 := by rcases Nat.eq_zero_or_pos i with h | h; exact .inl h; exact .inr ⟨i - 1, by omega⟩
         ·skip
          rcases bne_or k.steps[0].volt 1000 with t1 | t1
          ·skip
           have Hz := hid (show stpErr k.steps 0 = 2 by rw [stp_z Hin.out]; exact if_pos (by simpa using t1)); have He := hid (kdErr_s Hh.out Hw.out Hl.out hlt hp.out (by rw [Hz.out]; decide)); rw [Hz.out] at He; have cb1_0 := kb1.cell 0 rfl; have cb1_1 := kb1.cell 1 rfl; have cb1_2 := kb1.cell 2 rfl; have cb1_3 := kb1.cell 3 rfl; refine regionQ_F (Below w28.heap.size w28) (by kernel_rfl) (by kernel_rfl) (Below.refl _ _).drew ?_
           iterate 3 refine lq ?_
           iterate 3 refine lqy ?_
           refine lq ?_; refine lq ?_
           refine lqn true ?_; refine lqn true ?_; refine lqn true ?_
           iterate 22 refine lqu ?_
           refine lqn true ?_; refine lq ?_; refine listQ_nil ?_; intro w38 hb39; clear cb1_0 cb1_1 cb1_2 cb1_3 cb4_0 cb4_1; clear qb1 qb4; replace kb1 := kb1.at hb39; replace kb4 := kb4.at hb39; replace HL24 := hid (HL24.out.below hb39); replace HB := hid (HB.out.below hb39); clear hb39; have qb1 := kb1.1; have qb4 := kb4.1
           repeat ((fail_if_success refine stp ?_); with_reducible go_step)
           refine wp_abs (fun s40 z' => ?_); replace sl1 := gs 1 z' sl1; replace sl3 := gs 3 z' sl3; replace sl52 := gs 52 z' sl52; replace sl53 := gs 53 z' sl53; replace sl54 := gs 54 z' sl54; replace sl55 := gs 55 z' sl55; have sl60 := gu 60 z'; have sl61 := gu 61 z'; have sl62 := gu 62 z'; have sl91 := gu 91 z'; clear z' sl4 sl56; refine cond_t ?_
           repeat ((fail_if_success refine stp ?_); with_reducible go_step)
           refine region_F ?_; refine pl ?_; refine listF_abs (fun s41 z' => ?_); have sl2 := gu 2 z'; clear z' sl1 sl3 sl52 sl53 sl54 sl55 sl60 sl61 sl62 sl91; refine listF_nil ?_
           repeat ((fail_if_success refine stp ?_); with_reducible go_step)
           refine ret_F _ (res_t Try.results21 ((getD_F (by decide)).trans sl2)) ?_; exact ⟨ret_int He.out.symm, HB.out.toBelow⟩
          ·skip
           have Hz := hid (show stpErr k.steps 0 = 0 by rw [stp_z Hin.out]; exact if_neg (by simpa using t1)); have cb1_0 := kb1.cell 0 rfl; have cb1_1 := kb1.cell 1 rfl; have cb1_2 := kb1.cell 2 rfl; have cb1_3 := kb1.cell 3 rfl; refine regionQ_F (Below w28.heap.size w28) (by kernel_rfl) (by kernel_rfl) (Below.refl _ _).drew ?_
           iterate 3 refine lq ?_
           iterate 3 refine lqy ?_
           refine lq ?_; refine lq ?_
           iterate 3 refine lqy ?_
           refine lqn false ?_
           refine lqn false ?_
           refine lqn false ?_
           refine lqn false ?_
           refine lqn false ?_
           refine lqn false ?_
           refine lqn false ?_
           refine lqn false ?_
           refine lqn false ?_; refine lqn false ?_; refine lqn false ?_
           iterate 10 refine lqu ?_
           refine lqn false ?_; refine lqy ?_; refine lq ?_; refine listQ_nil ?_; intro w42 hb43; clear cb1_0 cb1_1 cb1_2 cb1_3 cb4_0 cb4_1; clear qb1 qb4; replace kb1 := kb1.at hb43; replace kb4 := kb4.at hb43; replace HL24 := hid (HL24.out.below hb43); replace HB := hid (HB.out.below hb43); clear hb43; have qb1 := kb1.1; have qb4 := kb4.1
           repeat ((fail_if_success refine stp ?_); with_reducible go_step)
           refine wp_abs (fun s44 z' => ?_); replace sl1 := gs 1 z' sl1; replace sl3 := gs 3 z' sl3; replace sl52 := gs 52 z' sl52; replace sl53 := gs 53 z' sl53; replace sl54 := gs 54 z' sl54; replace sl55 := gs 55 z' sl55; have sl60 := gu 60 z'; have sl61 := gu 61 z'; have sl62 := gu 62 z'; have sl65 := gu 65 z'; have sl66 := gu 66 z'; have sl67 := gu 67 z'; have sl90 := gu 90 z'; have sl91 := gu 91 z'; clear z' sl4 sl56; refine cond_f ?_
           repeat ((fail_if_success refine stp ?_); with_reducible go_step)
           refine region_F ?_
           iterate 3 refine pl ?_
           refine listF_abs (fun s45 z' => ?_); replace sl1 := gs 1 z' sl1; replace sl3 := gu 3 z'; replace sl52 := gs 52 z' sl52; replace sl53 := gs 53 z' sl53; replace sl54 := gs 54 z' sl54; replace sl55 := gs 55 z' sl55; replace sl60 := gs 60 z' sl60; replace sl61 := gs 61 z' sl61; replace sl62 := gs 62 z' sl62; replace sl65 := gs 65 z' sl65; replace sl66 := gs 66 z' sl66; replace sl67 := gs 67 z' sl67; replace sl90 := gs 90 z' sl90; clear z' sl91; refine listF_nil ?_
           repeat ((fail_if_success refine stp ?_); with_reducible go_step)
           refine ⟨_, _, rfl, ?_, 0 + 1, rfl, (by first | (with_reducible exact sl3) | (rw [sl3]; (with_reducible go_num); done) | (rw [sl3, IntWalk.i64_in] <;> first | ((with_reducible go_num); done) | omega) | (rw [sl3]; go_num; done) | (rw [sl3]; simp; done) | (rw [sl3]; simp; omega)), (sl1.trans hc0_1.out.symm), HL24.out, hid (fun j hj => by rcases Nat.lt_or_ge j 0 with h | h <;> first | exact hp.out j h | (have e : j = 0 := (by omega); rw [e]; exact Hz.out)), by omega⟩
           omega
         ·skip
          obtain ⟨_, c2, c3⟩ := RdSteps.get (Rd.oldB HR.out HB.out (by simp)) (show m < k.steps.length by omega)
          have wm : IntKind.i64.wrap (((m + 1 : Nat) : Int) - 1) = (m : Int) := by rw [IntWalk.i64_in _ (by omega)]; omega
          have wm2 : IntKind.i64.wrap ((m : Int) + 1) = (m : Int) + 1 := IntWalk.i64_in _ (by omega); have wm3 : IntKind.i64.wrap (m : Int) = (m : Int) := IntWalk.i64_in _ (by omega)
          have wm4 : (m : Int) < k.steps.length := by omega
          have wm5 : ¬ (m : Int) + 1 = 0 := by omega
          rcases dec_or (k.steps[m].volt ≤ k.steps[m + 1].volt) with t2 | t2
          ·skip
           have Hz := hid (show stpErr k.steps (m + 1) = 2 by rw [stp_p Hin.out]; exact if_pos (.inl (by simpa using t2))); have He := hid (kdErr_s Hh.out Hw.out Hl.out hlt hp.out (by rw [Hz.out]; decide)); rw [Hz.out] at He; have cb1_0 := kb1.cell 0 rfl; have cb1_1 := kb1.cell 1 rfl; have cb1_2 := kb1.cell 2 rfl; have cb1_3 := kb1.cell 3 rfl; refine regionQ_F (Below w28.heap.size w28) (by kernel_rfl) (by kernel_rfl) (Below.refl _ _).drew ?_
           iterate 3 refine lq ?_
           refine lqn false ?_; refine lqn false ?_; refine lqn false ?_; refine lq ?_; refine lq ?_
           iterate 14 refine lqy ?_
           refine lqn true ?_
           refine lqn true ?_
           refine lqn true ?_
           refine lqn true ?_
           refine lqn true ?_
           refine lqn true ?_
           refine lqn true ?_
           refine lqn true ?_; refine lqn true ?_; refine lqn true ?_; refine lqy ?_; refine lqy ?_; refine lq ?_; refine listQ_nil ?_; intro w46 hb47; clear cb1_0 cb1_1 cb1_2 cb1_3 cb4_0 cb4_1; clear qb1 qb4; replace kb1 := kb1.at hb47; replace kb4 := kb4.at hb47; replace HL24 := hid (HL24.out.below hb47); replace HB := hid (HB.out.below hb47); clear hb47; have qb1 := kb1.1; have qb4 := kb4.1
           repeat ((fail_if_success refine stp ?_); with_reducible go_step)
           refine wp_abs (fun s48 z' => ?_); replace sl1 := gs 1 z' sl1; replace sl3 := gs 3 z' sl3; replace sl52 := gs 52 z' sl52; replace sl53 := gs 53 z' sl53; replace sl54 := gs 54 z' sl54; replace sl55 := gs 55 z' sl55; have sl65 := gu 65 z'; have sl66 := gu 66 z'; have sl67 := gu 67 z'; have sl68 := gu 68 z'; have sl69 := gu 69 z'; have sl70 := gu 70 z'; have sl71 := gu 71 z'; have sl72 := gu 72 z'; have sl73 := gu 73 z'; have sl74 := gu 74 z'; have sl75 := gu 75 z'; have sl76 := gu 76 z'; have sl77 := gu 77 z'; have sl78 := gu 78 z'; have sl89 := gu 89 z'; have sl90 := gu 90 z'; have sl91 := gu 91 z'; clear z' sl4 sl56; refine cond_t ?_
           repeat ((fail_if_success refine stp ?_); with_reducible go_step)
           refine region_F ?_; refine pl ?_; refine listF_abs (fun s49 z' => ?_); have sl2 := gu 2 z'; clear z' sl1 sl3 sl52 sl53 sl54 sl55 sl65 sl66 sl67 sl68 sl69 sl70 sl71 sl72 sl73 sl74 sl75 sl76 sl77 sl78 sl89 sl90 sl91; refine listF_nil ?_
           repeat ((fail_if_success refine stp ?_); with_reducible go_step)
           refine ret_F _ (res_t Try.results21 ((getD_F (by decide)).trans sl2)) ?_; exact ⟨ret_int He.out.symm, HB.out.toBelow⟩
          ·skip
           have cb1_0 := kb1.cell 0 rfl; have cb1_1 := kb1.cell 1 rfl; have cb1_2 := kb1.cell 2 rfl; have cb1_3 := kb1.cell 3 rfl; refine regionQ_F (Below w28.heap.size w28) (by kernel_rfl) (by kernel_rfl) (Below.refl _ _).drew ?_
           iterate 3 refine lq ?_
           refine lqn false ?_; refine lqn false ?_; refine lqn false ?_; refine lq ?_; refine lq ?_
           iterate 26 refine lqy ?_
           refine lq ?_; refine listQ_nil ?_; intro w50 hb51; clear cb1_0 cb1_1 cb1_2 cb1_3 cb4_0 cb4_1; clear qb1 qb4; replace kb1 := kb1.at hb51; replace kb4 := kb4.at hb51; replace HL24 := hid (HL24.out.below hb51); replace HB := hid (HB.out.below hb51); clear hb51; have qb1 := kb1.1; have qb4 := kb4.1
           repeat ((fail_if_success refine stp ?_); with_reducible go_step)
           refine wp_abs (fun s52 z' => ?_); replace sl1 := gs 1 z' sl1; replace sl3 := gs 3 z' sl3; replace sl52 := gs 52 z' sl52; replace sl53 := gs 53 z' sl53; replace sl54 := gs 54 z' sl54; replace sl55 := gs 55 z' sl55; have sl65 := gu 65 z'; have sl66 := gu 66 z'; have sl67 := gu 67 z'; have sl68 := gu 68 z'; have sl69 := gu 69 z'; have sl70 := gu 70 z'; have sl71 := gu 71 z'; have sl72 := gu 72 z'; have sl73 := gu 73 z'; have sl74 := gu 74 z'; have sl75 := gu 75 z'; have sl76 := gu 76 z'; have sl77 := gu 77 z'; have sl78 := gu 78 z'; have sl79 := gu 79 z'; have sl80 := gu 80 z'; have sl81 := gu 81 z'; have sl82 := gu 82 z'; have sl83 := gu 83 z'; have sl84 := gu 84 z'; have sl85 := gu 85 z'; have sl86 := gu 86 z'; have sl87 := gu 87 z'; have sl88 := gu 88 z'; have sl89 := gu 89 z'; have sl90 := gu 90 z'; have sl91 := gu 91 z'; clear z' sl4 sl56
           refine cond_E sl91 (by decide) ?_ ?_ <;> (clear sl91; intro h91 sl91)
           ·skip
            have h91' : k.steps[m + 1].need < k.steps[m].need := by simpa using h91
            have Hz := hid (show stpErr k.steps (m + 1) = 2 by rw [stp_p Hin.out]; exact if_pos (.inr h91')); have He := hid (kdErr_s Hh.out Hw.out Hl.out hlt hp.out (by rw [Hz.out]; decide)); rw [Hz.out] at He
            repeat ((fail_if_success refine stp ?_); with_reducible go_step)
            refine region_F ?_; refine pl ?_; refine listF_abs (fun s53 z' => ?_); have sl2 := gu 2 z'; clear z' sl1 sl3 sl52 sl53 sl54 sl55 sl65 sl66 sl67 sl68 sl69 sl70 sl71 sl72 sl73 sl74 sl75 sl76 sl77 sl78 sl79 sl80 sl81 sl82 sl83 sl84 sl85 sl86 sl87 sl88 sl89 sl90 sl91; refine listF_nil ?_
            repeat ((fail_if_success refine stp ?_); with_reducible go_step)
            refine ret_F _ (res_t Try.results21 ((getD_F (by decide)).trans sl2)) ?_; exact ⟨ret_int He.out.symm, HB.out.toBelow⟩
           ·skip
            have h91' : ¬ k.steps[m + 1].need < k.steps[m].need := by simpa using h91
            have t2' : ¬ k.steps[m].volt ≤ k.steps[m + 1].volt := by simpa using t2
            have Hz := hid (show stpErr k.steps (m + 1) = 0 by rw [stp_p Hin.out]; exact if_neg (by intro h; rcases h with h | h <;> first | exact t2' h | exact h91' h))
            repeat ((fail_if_success refine stp ?_); with_reducible go_step)
            refine region_F ?_
            iterate 3 refine pl ?_
            refine listF_abs (fun s54 z' => ?_); replace sl1 := gs 1 z' sl1; replace sl3 := gu 3 z'; replace sl52 := gs 52 z' sl52; replace sl53 := gs 53 z' sl53; replace sl54 := gs 54 z' sl54; replace sl55 := gs 55 z' sl55; replace sl65 := gs 65 z' sl65; replace sl66 := gs 66 z' sl66; replace sl67 := gs 67 z' sl67; replace sl68 := gs 68 z' sl68; replace sl69 := gs 69 z' sl69; replace sl70 := gs 70 z' sl70; replace sl71 := gs 71 z' sl71; replace sl72 := gs 72 z' sl72; replace sl73 := gs 73 z' sl73; replace sl74 := gs 74 z' sl74; replace sl75 := gs 75 z' sl75; replace sl76 := gs 76 z' sl76; replace sl77 := gs 77 z' sl77; replace sl78 := gs 78 z' sl78; replace sl79 := gs 79 z' sl79; replace sl80 := gs 80 z' sl80; replace sl81 := gs 81 z' sl81; replace sl82 := gs 82 z' sl82; replace sl83 := gs 83 z' sl83; replace sl84 := gs 84 z' sl84; replace sl85 := gs 85 z' sl85; replace sl86 := gs 86 z' sl86; replace sl87 := gs 87 z' sl87; replace sl88 := gs 88 z' sl88
            replace sl89 := gs 89 z' sl89; replace sl90 := gs 90 z' sl90; clear z' sl91; refine listF_nil ?_
            repeat ((fail_if_success refine stp ?_); with_reducible go_step)
            refine ⟨_, _, rfl, ?_, m + 1 + 1, rfl, (by first | (with_reducible exact sl3) | (rw [sl3]; (with_reducible go_num); done) | (rw [sl3, IntWalk.i64_in] <;> first | ((with_reducible go_num); done) | omega) | (rw [sl3]; go_num; done) | (rw [sl3]; simp; done) | (rw [sl3]; simp; omega)), (sl1.trans hc0_1.out.symm), HL24.out, hid (fun j hj => by rcases Nat.lt_or_ge j (m + 1) with h | h <;> first | exact hp.out j h | (have e : j = (m + 1) := (by omega); rw [e]; exact Hz.out)), by omega⟩
            omega
      ·skip
       have hge : k.steps.length ≤ i := by simpa using h39
       have He := hid (kdErr_0 Hh.out Hw.out Hl.out (fun j hj => hp.out j (by omega)))
       repeat ((fail_if_success refine stp ?_); with_reducible go_step)
       clear HL24; clear hc0_1; refine region_F ?_; refine pl ?_; refine listF_abs (fun s55 z' => ?_); have sl2 := gu 2 z'; clear z' sl1 sl3 sl39; refine listF_nil ?_
       repeat ((fail_if_success refine stp ?_); with_reducible go_step)
       refine ret_F _ (res_t Try.results21 ((getD_F (by decide)).trans sl2)) ?_; exact ⟨ret_int He.out.symm, HB.out.toBelow⟩

set_option maxRecDepth 100000 in
set_option maxHeartbeats 1000000 in
theorem rvoltage_any (k : Kd) (a : Option Addr) (c : Nat) (v : Int) (w : World) (hR : RdSteps w a k.steps) (hK : KOk k) :
    Calls Try.prog 50 #[.agg #[.int .i64 k.new, .int .i64 k.wear.lo, .int .i64 k.wear.hi, .slice a k.steps.length c], .int .i64 v] w (fun e w' => e = .returned (.bool (voltOk k v)) ∧ Below w.heap.size w w') := by
 obtain ⟨m, hm⟩ : ∃ m, k.steps.length = m + 1 := ⟨k.steps.length - 1, by have := hK.l0; omega⟩; have hsl := hK.l1
 have hlt : m < k.steps.length := by omega
 have hm8 : m ≤ 7 := by omega
 have hm9 : (m : Int) < (m : Int) + 1 := by omega
 have hwm : IntKind.i64.wrap (m : Int) = m := IntWalk.i64_in _ (by omega); have Hok := hid (show voltOk k v = inb v k.steps[m].volt 1000 by unfold voltOk; simp only [hm, Nat.add_sub_cancel]; rw [getD_get hlt]); have HR := hid hR; clear hR hK
 refine enter_F Try.func50 rfl Try.ntmps50 (by simp) ?_
 intro s0 hs; have sl0 : s0 0 = .agg #[.int .i64 k.new, .int .i64 k.wear.lo, .int .i64 k.wear.hi, .slice a k.steps.length c] := hs 0 (by simp); have sl1 : s0 1 = .int .i64 v := hs 1 (by simp); clear hs; have HB := hid (OldB.refl [] w)
 repeat ((fail_if_success refine stp ?_); with_reducible go_step)
 refine region_F ?_; refine pa (fun w1 B2 hB kb2' hb2 => ?_); have gb2 := HB.out.gB hB; have eb2 := eB hB; clear hB; replace HB := hid (HB.out.below hb2); clear hb2; have kb2 := kb2'; clear kb2'; have qb2 := kb2.1; refine pl ?_; refine listF_abs (fun s3 z' => ?_); replace sl1 := gs 1 z' sl1; have sl2 := gu 2 z'; clear z' sl0; refine listF_nil ?_
 repeat ((fail_if_success refine stp ?_); with_reducible go_step)
 refine region_F ?_; refine pl ?_; refine pl ?_; obtain ⟨b, off, rfl, hbs, c0, c1⟩ := RdSteps.ne (Rd.oldB HR.out HB.out (by simp)) hlt; have cb2_0 := kb2.cell 0 rfl; have cb2_1 := kb2.cell 1 rfl; have cb2_2 := kb2.cell 2 rfl; have cb2_3 := kb2.cell 3 rfl
 iterate 8 refine pl ?_
 refine listF_step rfl (fun K' hK => ?_); unfold opF; go_simp; refine (rin_any v k.steps[m].volt 1000 _).mono ?_; rintro e w' ⟨rfl, rfl⟩; refine ⟨_, rfl, hK _ _ ?_⟩; clear hK K'; refine pl ?_; refine listF_abs (fun s5 z' => ?_); have sl4 := gu 4 z'; clear z' sl1 sl2; refine listF_nil ?_
 repeat ((fail_if_success refine stp ?_); with_reducible go_step)
 refine ret_F _ (res_t Try.results50 ((getD_F (by decide)).trans sl4)) ?_; exact ⟨ret_bool Hok.out.symm, HB.out.toBelow⟩

set_option maxRecDepth 100000 in
set_option maxHeartbeats 1000000 in
theorem rneeded_any (k : Kd) (a : Option Addr) (c : Nat) (v : Int) (w : World) (hR : RdSteps w a k.steps) (hK : KOk k) (hv : voltOk k v = true) :
    Calls Try.prog 43 #[.agg #[.int .i64 k.new, .int .i64 k.wear.lo, .int .i64 k.wear.hi, .slice a k.steps.length c], .int .i64 v] w (fun e w' => e = .returned (.int .i64 (needed k v)) ∧ Below w.heap.size w w') := by
 obtain ⟨n, hn, hv1, hv2, hv3⟩ := needed_ex hK hv; have hsl := hK.l1; have Hv1 := hid hv1; have Hv2 := hid hv2; have Hv3 := hid hv3; have HR := hid hR; clear hR hK hv hv1 hv2 hv3
 refine enter_F Try.func43 rfl Try.ntmps43 (by simp) ?_
 intro s0 hs; have sl0 : s0 0 = .agg #[.int .i64 k.new, .int .i64 k.wear.lo, .int .i64 k.wear.hi, .slice a k.steps.length c] := hs 0 (by simp); have sl1 : s0 1 = .int .i64 v := hs 1 (by simp); clear hs; have HB := hid (OldB.refl [] w)
 repeat ((fail_if_success refine stp ?_); with_reducible go_step)
 refine region_F ?_; refine pa (fun w1 B2 hB kb2' hb2 => ?_); have gb2 := HB.out.gB hB; have eb2 := eB hB; clear hB; replace HB := hid (HB.out.below hb2); clear hb2; have kb2 := kb2'; clear kb2'; have qb2 := kb2.1; refine pl ?_; refine listF_abs (fun s3 z' => ?_); replace sl1 := gs 1 z' sl1; have sl2 := gu 2 z'; clear z' sl0; refine listF_nil ?_
 repeat ((fail_if_success refine stp ?_); with_reducible go_step)
 refine region_F ?_; refine pl ?_; refine listF_abs (fun s4 z' => ?_); replace sl1 := gs 1 z' sl1; replace sl2 := gs 2 z' sl2; have sl5 := gu 5 z'; clear z'; refine listF_nil ?_
 repeat ((fail_if_success refine stp ?_); with_reducible go_step)
 have hc0_1 := hid sl1; have hc0_2 := hid sl2; refine loop_F (n := 22) (fun kJ sJ wJ => ∃ (i : Nat), kJ = n - i ∧ sJ 5 = .int .i64 (i : Int) ∧ sJ 1 = s4 1 ∧ sJ 2 = s4 2 ∧ OldB [] w1 wJ ∧ i ≤ n) ⟨0, rfl, (by first | exact sl5 | (rw [sl5]; go_num) | (rw [sl5]; rfl)), rfl, rfl, OldB.refl _ _, Nat.zero_le _⟩ ?_; clear sl5; rintro kJ s5 w6 ⟨i, rfl, sl5, e1, e2, hb7, hin⟩; replace sl1 := e1.trans sl1; clear e1; replace sl2 := e2.trans sl2; clear e2; have hoJ := hb7; clear qb2; replace kb2 := kb2.oldB hb7 (by first | (simp; done) | (simp; omega)); replace HB := hid (HB.out.more hb7 (by simp; try omega)); clear hb7; have qb2 := kb2.1; have HoJ := hid hoJ; clear hoJ
 have hlt : i < k.steps.length := by omega
 obtain ⟨b, off, rfl, hbs, c0, c1⟩ := RdSteps.ne (Rd.oldB HR.out HB.out (by simp)) hlt; have HL8 := HoJ; clear HoJ
 repeat ((fail_if_success refine stp ?_); with_reducible go_step)
 refine region_F ?_; refine pl ?_; have cb2_0 := kb2.cell 0 rfl; have cb2_1 := kb2.cell 1 rfl; have cb2_2 := kb2.cell 2 rfl; have cb2_3 := kb2.cell 3 rfl
 iterate 7 refine pl ?_
 refine listF_abs (fun s9 z' => ?_); replace sl1 := gs 1 z' sl1; replace sl2 := gs 2 z' sl2; replace sl5 := gs 5 z' sl5; have sl13 := gu 13 z'; clear z'; refine listF_nil ?_
 repeat ((fail_if_success refine stp ?_); with_reducible go_step)
 refine cond_E sl13 (by decide) ?_ ?_ <;> (clear sl13; intro h13 sl13)
 ·skip
  have h13' : v < k.steps[i].volt := by simpa using h13
  have hne : i ≠ n := by intro e; subst e; have := Hv1.out; omega
  repeat ((fail_if_success refine stp ?_); with_reducible go_step)
  refine region_F ?_
  iterate 3 refine pl ?_
  refine listF_abs (fun s10 z' => ?_); replace sl1 := gs 1 z' sl1; replace sl2 := gs 2 z' sl2; replace sl5 := gu 5 z'; clear z' sl13; refine listF_nil ?_
  repeat ((fail_if_success refine stp ?_); with_reducible go_step)
  clear cb2_0 cb2_1 cb2_2 cb2_3; refine ⟨_, _, rfl, ?_, i + 1, rfl, (by first | (with_reducible exact sl5) | (rw [sl5]; (with_reducible go_num); done) | (rw [sl5, IntWalk.i64_in] <;> first | ((with_reducible go_num); done) | omega) | (rw [sl5]; go_num; done) | (rw [sl5]; simp; done) | (rw [sl5]; simp; omega)), (sl1.trans hc0_1.out.symm), (sl2.trans hc0_2.out.symm), HL8.out, by omega⟩
  omega
 ·skip
  have h13' : ¬ v < k.steps[i].volt := by simpa using h13
  have hie : i = n := by rcases Nat.lt_or_ge i n with h | h; exact absurd (Hv2.out i h) h13'; omega
  subst hie
  repeat ((fail_if_success refine stp ?_); with_reducible go_step)
  clear HL8; clear hc0_1 hc0_2; refine region_F ?_
  iterate 7 refine pl ?_
  refine listF_abs (fun s11 z' => ?_); have sl4 := gu 4 z'; clear z' sl1 sl2 sl5 sl13; refine listF_nil ?_
  repeat ((fail_if_success refine stp ?_); with_reducible go_step)
  refine ret_F _ (res_t Try.results43 ((getD_F (by decide)).trans sl4)) ?_; exact ⟨ret_int Hv3.out.symm, HB.out.toBelow⟩

set_option maxRecDepth 100000 in
set_option maxHeartbeats 1000000 in
theorem rlater_any (k : Kd) (a : Option Addr) (c : Nat) (s : Span) (d : Int) (w : World) (hK : KOk k) (hs : spanIn s) (hd : -200000 ≤ d ∧ d ≤ 200000) :
    Calls Try.prog 76 #[.agg #[.int .i64 k.new, .int .i64 k.wear.lo, .int .i64 k.wear.hi, .slice a k.steps.length c], .agg #[.int .i64 s.lo, .int .i64 s.hi], .int .i64 d] w (fun e w' => e = .returned (.agg #[.int .i64 (later k s d).lo, .int .i64 (later k s d).hi]) ∧ Below w.heap.size w w') := by
 obtain ⟨⟨hs1, hs2⟩, hs3, hs4⟩ := hs; have hw0 := hK.w0; have hw1 := hK.w1; have hw2 := hK.w2; obtain ⟨m1, m2⟩ := mul_bd (d := d) (x := k.wear.hi) (by omega) (by omega) (by omega) (by omega); obtain ⟨m3, m4⟩ := mul_bd (d := d) (x := k.wear.lo) (by omega) (by omega) (by omega) (by omega); have w2 : IntKind.i64.wrap (d * k.wear.hi) = d * k.wear.hi := IntWalk.i64_in _ (by omega); have w3 : IntKind.i64.wrap (d * k.wear.lo) = d * k.wear.lo := IntWalk.i64_in _ (by omega); have w4 : IntKind.i64.wrap (s.lo - d * k.wear.hi) = s.lo - d * k.wear.hi := IntWalk.i64_in _ (by omega); have w5 : IntKind.i64.wrap (s.hi - d * k.wear.lo) = s.hi - d * k.wear.lo := IntWalk.i64_in _ (by omega); clear hK m1 m2 m3 m4 hs1 hs2 hs3 hs4 hw0 hw1 hw2 hd
 refine enter_F Try.func76 rfl Try.ntmps76 (by simp) ?_
 intro s0 hs; have sl0 : s0 0 = .agg #[.int .i64 k.new, .int .i64 k.wear.lo, .int .i64 k.wear.hi, .slice a k.steps.length c] := hs 0 (by simp); have sl1 : s0 1 = .agg #[.int .i64 s.lo, .int .i64 s.hi] := hs 1 (by simp); have sl2 : s0 2 = .int .i64 d := hs 2 (by simp); clear hs; have HB := hid (OldB.refl [] w)
 repeat ((fail_if_success refine stp ?_); with_reducible go_step)
 refine region_F ?_; refine pa (fun w1 B3 hB kb3' hb2 => ?_); have gb3 := HB.out.gB hB; have eb3 := eB hB; clear hB; replace HB := hid (HB.out.below hb2); clear hb2; have kb3 := kb3'; clear kb3'; have qb3 := kb3.1; refine pa (fun w3 B4 hB kb4' hb4 => ?_); have gb4 := HB.out.gB hB; have ob3_b4 := oB qb3 hB; have eb4 := eB hB; clear hB; clear qb3; replace kb3 := kb3.at hb4; replace HB := hid (HB.out.below hb4); clear hb4; have qb3 := kb3.1; have kb4 := kb4'; clear kb4'; have qb4 := kb4.1; refine pa (fun w5 B6 hB kb6' hb6 => ?_); have gb6 := HB.out.gB hB; have ob3_b6 := oB qb3 hB; have ob4_b6 := oB qb4 hB; have eb6 := eB hB; clear hB; clear qb3 qb4; replace kb3 := kb3.at hb6; replace kb4 := kb4.at hb6; replace HB := hid (HB.out.below hb6); clear hb6; have qb3 := kb3.1; have qb4 := kb4.1; have kb6 := kb6'; clear kb6'; have qb6 := kb6.1; refine listF_abs (fun s7 z' => ?_); replace sl2 := gs 2 z' sl2; have sl3 := gu 3 z'; have sl4 := gu 4 z'; have sl6 := gu 6 z'; clear z' sl0 sl1
 refine listF_nil ?_
 repeat ((fail_if_success refine stp ?_); with_reducible go_step)
 refine region_F ?_; refine pl ?_; have cb4_0 := kb4.cell 0 rfl; have cb4_1 := kb4.cell 1 rfl
 iterate 4 refine pl ?_
 have cb3_0 := kb3.cell 0 rfl; have cb3_1 := kb3.cell 1 rfl; have cb3_2 := kb3.cell 2 rfl; have cb3_3 := kb3.cell 3 rfl
 iterate 14 refine pl ?_
 have cb6_0 := kb6.cell 0 rfl; have cb6_1 := kb6.cell 1 rfl; have zb6 := kb6.2.2; refine pl ?_; refine listF_absw (fun w8 hw' => ?_); have kb6' := cells_of hw' (Cells.set (i := 1) (Cells.set (i := 0) (kb6)))
 (try simp only [vC, List.set_cons_zero, List.set_cons_succ] at kb6')
 have hb9 : OldB [B6] w5 w8 := oldset hw'; clear hw'; clear cb3_0 cb3_1 cb3_2 cb3_3 cb4_0 cb4_1 cb6_0 cb6_1 zb6; clear qb3 qb4 qb6; replace kb6 := kb6'; replace kb3 := kb3.oldB hb9 (by first | (simp; done) | (simp; omega)); replace kb4 := kb4.oldB hb9 (by first | (simp; done) | (simp; omega)); replace HB := hid (HB.out.more hb9 (by simp; try omega)); clear hb9; have qb3 := kb3.1; have qb4 := kb4.1; have qb6 := kb6.1; clear kb6'; refine listF_abs (fun s10 z' => ?_); replace sl6 := gs 6 z' sl6; clear z' sl2 sl3 sl4; refine listF_nil ?_
 repeat ((fail_if_success refine stp ?_); with_reducible go_step)
 have cb6_0 := kb6.cell 0 rfl; have cb6_1 := kb6.cell 1 rfl; refine ret_F _ (res_c Try.results76 ((getD_F (by decide)).trans sl6) (load_t23 cb6_0 cb6_1)) ?_; refine ⟨?_, HB.out.toBelow⟩
 simp only [ite_max, later]

set_option maxRecDepth 100000 in
set_option maxHeartbeats 1000000 in
theorem ragreed_any (k : Kd) (a : Option Addr) (c : Nat) (s : Span) (v : Int) (p : Bool) (w : World) (hR : RdSteps w a k.steps) (hK : KOk k) (hv : voltOk k v = true) :
    Calls Try.prog 59 #[.agg #[.int .i64 k.new, .int .i64 k.wear.lo, .int .i64 k.wear.hi, .slice a k.steps.length c], .agg #[.int .i64 s.lo, .int .i64 s.hi], .int .i64 v, .bool p] w (fun e w' => e = .returned (.agg #[.int .i64 (agreed k s v p).lo, .int .i64 (agreed k s v p).hi]) ∧ Below w.heap.size w w') := by
 have HR := hid hR; have HK := hid hK; have Hv := hid hv; obtain ⟨n1, n2⟩ := needed_bd hK hv; have wn : IntKind.i64.wrap (needed k v - 1) = needed k v - 1 := IntWalk.i64_in _ (by omega); clear hR hK hv n1 n2
 refine enter_F Try.func59 rfl Try.ntmps59 (by simp) ?_
 intro s0 hs; have sl0 : s0 0 = .agg #[.int .i64 k.new, .int .i64 k.wear.lo, .int .i64 k.wear.hi, .slice a k.steps.length c] := hs 0 (by simp); have sl1 : s0 1 = .agg #[.int .i64 s.lo, .int .i64 s.hi] := hs 1 (by simp); have sl2 : s0 2 = .int .i64 v := hs 2 (by simp); have sl3 : s0 3 = .bool p := hs 3 (by simp); clear hs; have HB := hid (OldB.refl [] w)
 repeat ((fail_if_success refine stp ?_); with_reducible go_step)
 refine region_F ?_; refine pa (fun w1 B4 hB kb4' hb2 => ?_); have gb4 := HB.out.gB hB; have eb4 := eB hB; clear hB; replace HB := hid (HB.out.below hb2); clear hb2; have kb4 := kb4'; clear kb4'; have qb4 := kb4.1; refine pa (fun w3 B5 hB kb5' hb4 => ?_); have gb5 := HB.out.gB hB; have ob4_b5 := oB qb4 hB; have eb5 := eB hB; clear hB; clear qb4; replace kb4 := kb4.at hb4; replace HB := hid (HB.out.below hb4); clear hb4; have qb4 := kb4.1; have kb5 := kb5'; clear kb5'; have qb5 := kb5.1; refine pa (fun w5 B8 hB kb8' hb6 => ?_); have gb8 := HB.out.gB hB; have ob4_b8 := oB qb4 hB; have ob5_b8 := oB qb5 hB; have eb8 := eB hB; clear hB; clear qb4 qb5; replace kb4 := kb4.at hb6; replace kb5 := kb5.at hb6; replace HB := hid (HB.out.below hb6); clear hb6; have qb4 := kb4.1; have qb5 := kb5.1; have kb8 := kb8'; clear kb8'; have qb8 := kb8.1; refine listF_abs (fun s7 z' => ?_); replace sl2 := gs 2 z' sl2; replace sl3 := gs 3 z' sl3; have sl4 := gu 4 z'; have sl5 := gu 5 z'; have sl8 := gu 8 z'; clear z' sl0 sl1
 refine listF_nil ?_
 repeat ((fail_if_success refine stp ?_); with_reducible go_step)
 refine region_F ?_; have cb4_0 := kb4.cell 0 rfl; have cb4_1 := kb4.cell 1 rfl; have cb4_2 := kb4.cell 2 rfl; have cb4_3 := kb4.cell 3 rfl; refine pl ?_; refine pl ?_; refine listF_step rfl (fun K' hK => ?_); unfold opF; go_simp; refine (rneeded_any k a c v _ (Rd.oldB HR.out HB.out (by simp)) HK.out Hv.out).mono ?_; rintro e w8 ⟨rfl, hb9⟩; refine ⟨_, rfl, hK _ _ ?_⟩; clear hK K'; clear cb4_0 cb4_1 cb4_2 cb4_3; clear qb4 qb5 qb8; replace kb4 := kb4.at hb9; replace kb5 := kb5.at hb9; replace kb8 := kb8.at hb9; replace HB := hid (HB.out.below hb9); clear hb9; have qb4 := kb4.1; have qb5 := kb5.1; have qb8 := kb8.1; refine pl ?_; refine listF_abs (fun s10 z' => ?_); replace sl3 := gs 3 z' sl3; replace sl5 := gs 5 z' sl5; replace sl8 := gs 8 z' sl8; have sl9 := gu 9 z'; clear z' sl2 sl4; refine listF_nil ?_
 repeat ((fail_if_success refine stp ?_); with_reducible go_step)
 refine region_F ?_; refine pl ?_; refine listF_abs (fun s11 z' => ?_); replace sl5 := gs 5 z' sl5; replace sl8 := gs 8 z' sl8; replace sl9 := gs 9 z' sl9; have sl13 := gu 13 z'; clear z' sl3; refine listF_nil ?_
 repeat ((fail_if_success refine stp ?_); with_reducible go_step)
 refine cond_E sl13 (by decide) ?_ ?_ <;> (clear sl13; intro h13 sl13)
 ·skip
  repeat ((fail_if_success refine stp ?_); with_reducible go_step)
  refine region_F ?_; refine pl ?_; have cb5_0 := kb5.cell 0 rfl; have cb5_1 := kb5.cell 1 rfl
  iterate 6 refine pl ?_
  have cb8_0 := kb8.cell 0 rfl; have cb8_1 := kb8.cell 1 rfl; have zb8 := kb8.2.2; refine pl ?_; refine listF_absw (fun w12 hw' => ?_); have kb8' := cells_of hw' (Cells.set (i := 1) (Cells.set (i := 0) (kb8)))
  (try simp only [vC, List.set_cons_zero, List.set_cons_succ] at kb8')
  have hb13 : OldB [B8] w8 w12 := oldset hw'; clear hw'; clear cb5_0 cb5_1 cb8_0 cb8_1 zb8; clear qb4 qb5 qb8; replace kb8 := kb8'; replace kb4 := kb4.oldB hb13 (by first | (simp; done) | (simp; omega)); replace kb5 := kb5.oldB hb13 (by first | (simp; done) | (simp; omega)); replace HB := hid (HB.out.more hb13 (by simp; try omega)); clear hb13; have qb4 := kb4.1; have qb5 := kb5.1; have qb8 := kb8.1; clear kb8'; refine listF_abs (fun s14 z' => ?_); replace sl8 := gs 8 z' sl8; clear z' sl5 sl9 sl13; refine listF_nil ?_
  repeat ((fail_if_success refine stp ?_); with_reducible go_step)
  have cb8_0 := kb8.cell 0 rfl; have cb8_1 := kb8.cell 1 rfl; refine ret_F _ (res_c Try.results59 ((getD_F (by decide)).trans sl8) (load_t23 cb8_0 cb8_1)) ?_; refine ⟨?_, HB.out.toBelow⟩; unfold agreed; simp only [h13, if_true, Bool.false_eq_true, if_false]
  first | rfl | (congr 4 <;> first | rfl | omega) | (simp; omega)
 ·skip
  repeat ((fail_if_success refine stp ?_); with_reducible go_step)
  refine region_F ?_; refine pl ?_; have cb5_0 := kb5.cell 0 rfl; have cb5_1 := kb5.cell 1 rfl
  iterate 7 refine pl ?_
  have cb8_0 := kb8.cell 0 rfl; have cb8_1 := kb8.cell 1 rfl; have zb8 := kb8.2.2; refine pl ?_; refine listF_absw (fun w15 hw' => ?_); have kb8' := cells_of hw' (Cells.set (i := 1) (Cells.set (i := 0) (kb8)))
  (try simp only [vC, List.set_cons_zero, List.set_cons_succ] at kb8')
  have hb16 : OldB [B8] w8 w15 := oldset hw'; clear hw'; clear cb5_0 cb5_1 cb8_0 cb8_1 zb8; clear qb4 qb5 qb8; replace kb8 := kb8'; replace kb4 := kb4.oldB hb16 (by first | (simp; done) | (simp; omega)); replace kb5 := kb5.oldB hb16 (by first | (simp; done) | (simp; omega)); replace HB := hid (HB.out.more hb16 (by simp; try omega)); clear hb16; have qb4 := kb4.1; have qb5 := kb5.1; have qb8 := kb8.1; clear kb8'; refine listF_abs (fun s17 z' => ?_); replace sl8 := gs 8 z' sl8; clear z' sl5 sl9 sl13; refine listF_nil ?_
  repeat ((fail_if_success refine stp ?_); with_reducible go_step)
  have cb8_0 := kb8.cell 0 rfl; have cb8_1 := kb8.cell 1 rfl; refine ret_F _ (res_c Try.results59 ((getD_F (by decide)).trans sl8) (load_t23 cb8_0 cb8_1)) ?_; refine ⟨?_, HB.out.toBelow⟩; unfold agreed; simp only [h13, if_true, Bool.false_eq_true, if_false]
  first | rfl | (congr 4 <;> first | rfl | omega) | (simp; omega)

set_option maxRecDepth 100000 in
set_option maxHeartbeats 1000000 in
theorem rbelow_any (s n wr : Int) (w : World) (hs : -2000000 ≤ s ∧ s ≤ 2000000) (hn : 0 ≤ n ∧ n ≤ 1000000) (hw : 0 ≤ wr ∧ wr ≤ 1000) :
    Calls Try.prog 78 #[.int .i64 s, .int .i64 n, .int .i64 wr] w (fun e w' => e = .returned (.int .i64 (below s n wr)) ∧ Below w.heap.size w w') := by
 obtain ⟨hs1, hs2⟩ := hs; obtain ⟨hn1, hn2⟩ := hn; obtain ⟨hw1, hw2⟩ := hw
 refine enter_F Try.func78 rfl Try.ntmps78 (by simp) ?_
 intro s0 hs; have sl0 : s0 0 = .int .i64 s := hs 0 (by simp); have sl1 : s0 1 = .int .i64 n := hs 1 (by simp); have sl2 : s0 2 = .int .i64 wr := hs 2 (by simp); clear hs; have HB := hid (OldB.refl [] w)
 repeat ((fail_if_success refine stp ?_); with_reducible go_step)
 refine region_F ?_; refine pl ?_; refine listF_abs (fun s1 z' => ?_); replace sl0 := gs 0 z' sl0; replace sl1 := gs 1 z' sl1; replace sl2 := gs 2 z' sl2; clear z'; refine listF_nil ?_
 repeat ((fail_if_success refine stp ?_); with_reducible go_step)
 refine region_F ?_
 iterate 3 refine pl ?_
 refine listF_abs (fun s2 z' => ?_); replace sl0 := gs 0 z' sl0; replace sl1 := gs 1 z' sl1; replace sl2 := gs 2 z' sl2; have sl9 := gu 9 z'; clear z'; refine listF_nil ?_
 repeat ((fail_if_success refine stp ?_); with_reducible go_step)
 refine cond_E sl9 (by decide) ?_ ?_ <;> (clear sl9; intro h9 sl9)
 ·skip
  have h9' : s < n := by simpa using h9
  repeat ((fail_if_success refine stp ?_); with_reducible go_step)
  refine region_F ?_; refine pl ?_; refine listF_abs (fun s3 z' => ?_); have sl6 := gu 6 z'; clear z' sl0 sl1 sl2 sl9; refine listF_nil ?_
  repeat ((fail_if_success refine stp ?_); with_reducible go_step)
  refine ret_F _ (res_t Try.results78 ((getD_F (by decide)).trans sl6)) ?_; exact ⟨ret_int (by unfold below; rw [if_pos h9']), HB.out.toBelow⟩
 ·skip
  have h9' : ¬ s < n := by simpa using h9
  repeat ((fail_if_success refine stp ?_); with_reducible go_step)
  refine region_F ?_
  iterate 3 refine pl ?_
  refine listF_abs (fun s4 z' => ?_); replace sl0 := gs 0 z' sl0; replace sl1 := gs 1 z' sl1; replace sl2 := gs 2 z' sl2; have sl12 := gu 12 z'; clear z' sl9
  refine boolG sl12 (fun sl12' h12 => ?_) (fun sl12' h12 => ?_) <;> (clear sl12; have sl12 := sl12'; clear sl12')
  ·skip
   have H12 := hid (show n = 0 by simpa using h12); refine pn true ?_; refine pn true ?_; refine pl ?_; refine listF_abs (fun s5 z' => ?_); replace sl0 := gs 0 z' sl0; replace sl1 := gs 1 z' sl1; replace sl2 := gs 2 z' sl2; have sl15 := gu 15 z'; clear z' sl12; refine listF_nil ?_
   repeat ((fail_if_success refine stp ?_); with_reducible go_step)
   refine cond_t ?_
   repeat ((fail_if_success refine stp ?_); with_reducible go_step)
   refine region_F ?_; refine pl ?_; refine listF_abs (fun s6 z' => ?_); have sl6 := gu 6 z'; clear z' sl0 sl1 sl2 sl15; refine listF_nil ?_
   repeat ((fail_if_success refine stp ?_); with_reducible go_step)
   refine ret_F _ (res_t Try.results78 ((getD_F (by decide)).trans sl6)) ?_; exact ⟨ret_int (by unfold below; rw [if_neg h9', if_pos (by first | exact .inl H12.out | exact .inr H15.out)]), HB.out.toBelow⟩
  ·skip
   have h12' : ¬ n = 0 := by simpa using h12
   refine py ?_; refine py ?_; refine pl ?_; refine listF_abs (fun s7 z' => ?_); replace sl0 := gs 0 z' sl0; replace sl1 := gs 1 z' sl1; replace sl2 := gs 2 z' sl2; have sl15 := gu 15 z'; clear z' sl12; refine listF_nil ?_
   repeat ((fail_if_success refine stp ?_); with_reducible go_step)
   refine cond_E sl15 (by decide) ?_ ?_ <;> (clear sl15; intro h15 sl15)
   ·skip
    have H15 := hid (show wr = 0 by simpa using h15)
    repeat ((fail_if_success refine stp ?_); with_reducible go_step)
    refine region_F ?_; refine pl ?_; refine listF_abs (fun s8 z' => ?_); have sl6 := gu 6 z'; clear z' sl0 sl1 sl2 sl15; refine listF_nil ?_
    repeat ((fail_if_success refine stp ?_); with_reducible go_step)
    refine ret_F _ (res_t Try.results78 ((getD_F (by decide)).trans sl6)) ?_; exact ⟨ret_int (by unfold below; rw [if_neg h9', if_pos (by first | exact .inl H12.out | exact .inr H15.out)]), HB.out.toBelow⟩
   ·skip
    have h15' : ¬ wr = 0 := by simpa using h15
    have hd1 : (s - n + wr) / wr ≤ 2001000 := by have := Int.ediv_le_self (b := wr) (a := s - n + wr) (by omega); omega
    have hd0 : 0 ≤ (s - n + wr) / wr := Int.ediv_nonneg (by omega) (by omega); have ws1 : IntKind.i64.wrap (s - n) = s - n := IntWalk.i64_in _ (by omega); have ws2 : IntKind.i64.wrap (s - n + wr) = s - n + wr := IntWalk.i64_in _ (by omega)
    have ws3 : IntKind.i64.wrap ((s - n + wr).tdiv wr) = (s - n + wr) / wr := by rw [Int.tdiv_eq_ediv_of_nonneg (by omega)]; exact IntWalk.i64_in _ (by omega)
    repeat ((fail_if_success refine stp ?_); with_reducible go_step)
    refine region_F ?_
    iterate 8 refine pl ?_
    refine listF_abs (fun s9 z' => ?_); have sl6 := gu 6 z'; clear z' sl0 sl1 sl2 sl15; refine listF_nil ?_
    repeat ((fail_if_success refine stp ?_); with_reducible go_step)
    refine ret_F _ (res_t Try.results78 ((getD_F (by decide)).trans sl6)) ?_; exact ⟨ret_int (by unfold below; rw [if_neg h9', if_neg (show ¬ (n = 0 ∨ wr = 0) by omega)]), HB.out.toBelow⟩

theorem below_bd {s n wr : Int} (hs : -2000000 ≤ s ∧ s ≤ 2000000) (hn : 0 ≤ n ∧ n ≤ 1000000) (hw : 0 ≤ wr ∧ wr ≤ 1000) : -1 ≤ below s n wr ∧ below s n wr ≤ 2001000 := by
  unfold below
  split
  · omega
  · split
    · omega
    · rename_i h1 h2
      have := Int.ediv_le_self (b := wr) (a := s - n + wr) (by omega); have := Int.ediv_nonneg (a := s - n + wr) (b := wr) (by omega) (by omega)
      omega

set_option maxRecDepth 100000 in
set_option maxHeartbeats 1000000 in
theorem rfails_any (k : Kd) (a : Option Addr) (c : Nat) (s : Span) (t : Int) (w : World) (hR : RdSteps w a k.steps) (hK : KOk k) (hs : spanIn s) (ht : 0 ≤ t ∧ t ≤ 100000) :
    Calls Try.prog 56 #[.agg #[.int .i64 k.new, .int .i64 k.wear.lo, .int .i64 k.wear.hi, .slice a k.steps.length c], .agg #[.int .i64 s.lo, .int .i64 s.hi], .int .i64 t] w (fun e w' => e = .returned (.agg #[.int .i64 (failsOf k s t).earliest, .int .i64 (failsOf k s t).latest]) ∧ Below w.heap.size w w') := by
 have HR := hid hR; have HK := hid hK; have hw0 := hK.w0; have hw1 := hK.w1; have hw2 := hK.w2; obtain ⟨n1, n2⟩ := needed_bd hK (volt_top hK); obtain ⟨⟨a1, a2⟩, a3, a4⟩ := hs; obtain ⟨b1, b2⟩ := ht; obtain ⟨x1, x2⟩ := below_bd (s := s.lo) (n := needed k 1000) (wr := k.wear.hi) ⟨a1, a2⟩ ⟨n1, n2⟩ ⟨by omega, hw2⟩; obtain ⟨y1, y2⟩ := below_bd (s := s.hi) (n := needed k 1000) (wr := k.wear.lo) ⟨a3, a4⟩ ⟨n1, n2⟩ ⟨by omega, by omega⟩; have Hx := hid (And.intro x1 x2); have Hy := hid (And.intro y1 y2); clear x1 x2 y1 y2
 have hwh : 0 ≤ k.wear.hi ∧ k.wear.hi ≤ 1000 := by omega
 have hwl : 0 ≤ k.wear.lo ∧ k.wear.lo ≤ 1000 := by omega
 have hwh := hid hwh; have hwl := hid hwl; clear hK hR
 refine enter_F Try.func56 rfl Try.ntmps56 (by simp) ?_
 intro s0 hs; have sl0 : s0 0 = .agg #[.int .i64 k.new, .int .i64 k.wear.lo, .int .i64 k.wear.hi, .slice a k.steps.length c] := hs 0 (by simp); have sl1 : s0 1 = .agg #[.int .i64 s.lo, .int .i64 s.hi] := hs 1 (by simp); have sl2 : s0 2 = .int .i64 t := hs 2 (by simp); clear hs; have HB := hid (OldB.refl [] w)
 repeat ((fail_if_success refine stp ?_); with_reducible go_step)
 refine region_F ?_; refine pa (fun w1 B3 hB kb3' hb2 => ?_); have gb3 := HB.out.gB hB; have eb3 := eB hB; clear hB; replace HB := hid (HB.out.below hb2); clear hb2; have kb3 := kb3'; clear kb3'; have qb3 := kb3.1; refine pa (fun w3 B4 hB kb4' hb4 => ?_); have gb4 := HB.out.gB hB; have ob3_b4 := oB qb3 hB; have eb4 := eB hB; clear hB; clear qb3; replace kb3 := kb3.at hb4; replace HB := hid (HB.out.below hb4); clear hb4; have qb3 := kb3.1; have kb4 := kb4'; clear kb4'; have qb4 := kb4.1; refine pa (fun w5 B6 hB kb6' hb6 => ?_); have gb6 := HB.out.gB hB; have ob3_b6 := oB qb3 hB; have ob4_b6 := oB qb4 hB; have eb6 := eB hB; clear hB; clear qb3 qb4; replace kb3 := kb3.at hb6; replace kb4 := kb4.at hb6; replace HB := hid (HB.out.below hb6); clear hb6; have qb3 := kb3.1; have qb4 := kb4.1; have kb6 := kb6'; clear kb6'; have qb6 := kb6.1; refine listF_abs (fun s7 z' => ?_); replace sl2 := gs 2 z' sl2; have sl3 := gu 3 z'; have sl4 := gu 4 z'; have sl6 := gu 6 z'; clear z' sl0 sl1
 refine listF_nil ?_
 repeat ((fail_if_success refine stp ?_); with_reducible go_step)
 refine region_F ?_; have cb3_0 := kb3.cell 0 rfl; have cb3_1 := kb3.cell 1 rfl; have cb3_2 := kb3.cell 2 rfl; have cb3_3 := kb3.cell 3 rfl; refine pl ?_; refine listF_step rfl (fun K' hK => ?_); unfold opF; go_simp; refine (rneeded_any k a c 1000 _ (Rd.oldB HR.out HB.out (by simp)) HK.out (volt_top HK.out)).mono ?_; rintro e w8 ⟨rfl, hb9⟩; refine ⟨_, rfl, hK _ _ ?_⟩; clear hK K'; clear cb3_0 cb3_1 cb3_2 cb3_3; clear qb3 qb4 qb6; replace kb3 := kb3.at hb9; replace kb4 := kb4.at hb9; replace kb6 := kb6.at hb9; replace HB := hid (HB.out.below hb9); clear hb9; have qb3 := kb3.1; have qb4 := kb4.1; have qb6 := kb6.1; refine pl ?_; refine listF_abs (fun s10 z' => ?_); replace sl2 := gs 2 z' sl2; replace sl3 := gs 3 z' sl3; replace sl4 := gs 4 z' sl4; replace sl6 := gs 6 z' sl6; have sl7 := gu 7 z'; clear z'; refine listF_nil ?_
 repeat ((fail_if_success refine stp ?_); with_reducible go_step)
 have cb3_0 := kb3.cell 0 rfl; have cb3_1 := kb3.cell 1 rfl; have cb3_2 := kb3.cell 2 rfl; have cb3_3 := kb3.cell 3 rfl; have cb4_0 := kb4.cell 0 rfl; have cb4_1 := kb4.cell 1 rfl; have cb6_0 := kb6.cell 0 rfl; have cb6_1 := kb6.cell 1 rfl; refine regionR_F [] [] [15] [.q [], .q [], .q [], .q [], .q [], .q [], .q [], .q [], .q [], .q [], .q [], .q [], .q [], .q [], .q [], .a] [?v3_0, ?v3_1, ?v3_2, ?v3_3, ?v3_4, ?v3_5, ?v3_6, ?v3_7, ?v3_8, ?v3_9, ?v3_10, ?v3_11, ?v3_12, ?v3_13, ?v3_14, ?v3_15] [fun _ => [], fun _ => [], fun _ => [], fun _ => [], fun _ => [], fun _ => [], fun _ => [], fun _ => [], fun _ => [], fun _ => [], fun _ => [], fun _ => [], fun _ => [], fun _ => [], fun _ => [], ?c3_15] (by kernel_rfl) (by kernel_rfl) (by kernel_rfl) (by kernel_rfl) (by kernel_rfl) (by first | exact List.nodup_nil | exact List.nodup_singleton _ | (simp; done) | (simp; omega)) bc_nil ?walk3 ?dep3
 case walk3 =>
  iterate 6 refine rq ?_
  refine walkR_q (by rfl) (fun X hX wq hwq hrq => ?_) ?_
  · obtain ⟨hcq, hfq⟩ := hwq.b0
    clear hrq; go_simp
    (first | (with_reducible exact rbelow_any s.lo (needed k 1000) k.wear.hi _ ⟨a1, a2⟩ ⟨n1, n2⟩ hwh.out) | (with_reducible exact rbelow_any s.hi (needed k 1000) k.wear.lo _ ⟨a3, a4⟩ ⟨n1, n2⟩ hwl.out))
  iterate 6 refine rq ?_
  refine walkR_q (by rfl) (fun X hX wq hwq hrq => ?_) ?_
  · obtain ⟨hcq, hfq⟩ := hwq.b0
    clear hrq; go_simp
    (first | (with_reducible exact rbelow_any s.lo (needed k 1000) k.wear.hi _ ⟨a1, a2⟩ ⟨n1, n2⟩ hwh.out) | (with_reducible exact rbelow_any s.hi (needed k 1000) k.wear.lo _ ⟨a3, a4⟩ ⟨n1, n2⟩ hwl.out))
  refine rq ?_; refine walkR_a (by rfl) (fun X hX wq hwq hsq => ?_) ?_
  · go_simp
    refine newB_mk ?_ ?_
    · rfl
    · rfl
  refine walkR_nil (fun X hX w11 hwz hcz => ?_); have ka15 := hcz 15 (by simp)
  simp only [updC_some, updC_none, Nat.reduceEqDiff, ↓reduceIte] at ka15
  have la15 := hX.lo 15 rfl; clear hX hcz
  generalize X 15 = J15 at *
  (try clear X)
  skip; have hb12 := hwz.unDrew; clear hwz; have gJ := HB.out.size; replace la15 : w8.heap.size ≤ J15 := la15
  have ob3_J15 : B3 < J15 := by have := qb3; omega
  have ob4_J15 : B4 < J15 := by have := qb4; omega
  have ob6_J15 : B6 < J15 := by have := qb6; omega
  clear cb3_0 cb3_1 cb3_2 cb3_3 cb4_0 cb4_1 cb6_0 cb6_1; clear qb3 qb4 qb6; replace kb3 := kb3.oldB hb12 (by first | (simp; done) | (simp; omega)); replace kb4 := kb4.oldB hb12 (by first | (simp; done) | (simp; omega)); replace kb6 := kb6.oldB hb12 (by first | (simp; done) | (simp; omega)); replace HB := hid (HB.out.more hb12 (by simp; try omega)); clear hb12; have qb3 := kb3.1; have qb4 := kb4.1; have qb6 := kb6.1
  have gb8 : w.heap.size ≤ J15 := by omega
  have kb8 := ka15; clear ka15; have qb8 := kb8.1; have cb8_0 := kb8.cell 0 rfl; have cb8_1 := kb8.cell 1 rfl; have zb8 := kb8.2.2; refine pl ?_; refine listF_absw (fun w13 hw' => ?_); have kb8' := cells_of hw' (Cells.set (i := 1) (Cells.set (i := 0) (kb8)))
  (try simp only [vC, List.set_cons_zero, List.set_cons_succ] at kb8')
  have hb14 : OldB [J15] w11 w13 := oldset hw'; clear hw'; clear cb8_0 cb8_1 zb8; clear qb3 qb4 qb6 qb8; replace kb8 := kb8'; replace kb3 := kb3.oldB hb14 (by first | (simp; done) | (simp; omega)); replace kb4 := kb4.oldB hb14 (by first | (simp; done) | (simp; omega)); replace kb6 := kb6.oldB hb14 (by first | (simp; done) | (simp; omega)); replace HB := hid (HB.out.more hb14 (by simp; try omega)); clear hb14; have qb3 := kb3.1; have qb4 := kb4.1; have qb6 := kb6.1; have qb8 := kb8.1; clear kb8'; refine listF_abs (fun s15 z' => ?_); replace sl2 := gs 2 z' sl2; replace sl6 := gs 6 z' sl6; have sl8 := gu 8 z'; clear z' sl3 sl4 sl7; refine listF_nil ?_
  repeat ((fail_if_success refine stp ?_); with_reducible go_step)
  refine region_F ?_; refine pl ?_; have cb8_0 := kb8.cell 0 rfl; have cb8_1 := kb8.cell 1 rfl; refine pl ?_; refine pl ?_; refine listF_abs (fun s16 z' => ?_); replace sl2 := gs 2 z' sl2; replace sl6 := gs 6 z' sl6; replace sl8 := gs 8 z' sl8; have sl28 := gu 28 z'; clear z'; refine listF_nil ?_
  repeat ((fail_if_success refine stp ?_); with_reducible go_step)
  refine cond_E sl28 (by decide) ?_ ?_ <;> (clear sl28; intro h28 sl28)
  ·skip
   have h28' : 0 ≤ below s.lo (needed k 1000) k.wear.hi := by simpa using h28
   have ww1 : IntKind.i64.wrap (below s.lo (needed k 1000) k.wear.hi + t) = below s.lo (needed k 1000) k.wear.hi + t := IntWalk.i64_in _ (by have := Hx.out; omega)
   repeat ((fail_if_success refine stp ?_); with_reducible go_step)
   refine region_F ?_
   iterate 5 refine pl ?_
   have zb8 := kb8.2.2; refine pl ?_; refine listF_absw (fun w17 hw' => ?_); have kb8' := cells_of hw' (Cells.set (i := 0) (kb8))
   (try simp only [vC, List.set_cons_zero, List.set_cons_succ] at kb8')
   have hb18 : OldB [J15] w13 w17 := oldset hw'; clear hw'; clear cb8_0 cb8_1 zb8; clear qb3 qb4 qb6 qb8; replace kb8 := kb8'; replace kb3 := kb3.oldB hb18 (by first | (simp; done) | (simp; omega)); replace kb4 := kb4.oldB hb18 (by first | (simp; done) | (simp; omega)); replace kb6 := kb6.oldB hb18 (by first | (simp; done) | (simp; omega)); replace HB := hid (HB.out.more hb18 (by simp; try omega)); clear hb18; have qb3 := kb3.1; have qb4 := kb4.1; have qb6 := kb6.1; have qb8 := kb8.1; clear kb8'; refine listF_abs (fun s19 z' => ?_); replace sl2 := gs 2 z' sl2; replace sl6 := gs 6 z' sl6; replace sl8 := gs 8 z' sl8; clear z' sl28; refine listF_nil ?_
   repeat ((fail_if_success refine stp ?_); with_reducible go_step)
   refine region_F ?_; refine pl ?_; have cb8_0 := kb8.cell 0 rfl; have cb8_1 := kb8.cell 1 rfl; refine pl ?_; refine pl ?_; refine listF_abs (fun s20 z' => ?_); replace sl2 := gs 2 z' sl2; replace sl6 := gs 6 z' sl6; replace sl8 := gs 8 z' sl8; have sl36 := gu 36 z'; clear z'; refine listF_nil ?_
   repeat ((fail_if_success refine stp ?_); with_reducible go_step)
   refine cond_E sl36 (by decide) ?_ ?_ <;> (clear sl36; intro h36 sl36)
   ·skip
    have h36' : 0 ≤ below s.hi (needed k 1000) k.wear.lo := by simpa using h36
    have ww2 : IntKind.i64.wrap (below s.hi (needed k 1000) k.wear.lo + t) = below s.hi (needed k 1000) k.wear.lo + t := IntWalk.i64_in _ (by have := Hy.out; omega)
    repeat ((fail_if_success refine stp ?_); with_reducible go_step)
    refine region_F ?_
    iterate 5 refine pl ?_
    have zb8 := kb8.2.2; refine pl ?_; refine listF_absw (fun w21 hw' => ?_); have kb8' := cells_of hw' (Cells.set (i := 1) (kb8))
    (try simp only [vC, List.set_cons_zero, List.set_cons_succ] at kb8')
    have hb22 : OldB [J15] w17 w21 := oldset hw'; clear hw'; clear cb8_0 cb8_1 zb8; clear qb3 qb4 qb6 qb8; replace kb8 := kb8'; replace kb3 := kb3.oldB hb22 (by first | (simp; done) | (simp; omega)); replace kb4 := kb4.oldB hb22 (by first | (simp; done) | (simp; omega)); replace kb6 := kb6.oldB hb22 (by first | (simp; done) | (simp; omega)); replace HB := hid (HB.out.more hb22 (by simp; try omega)); clear hb22; have qb3 := kb3.1; have qb4 := kb4.1; have qb6 := kb6.1; have qb8 := kb8.1; clear kb8'; refine listF_abs (fun s23 z' => ?_); replace sl6 := gs 6 z' sl6; replace sl8 := gs 8 z' sl8; clear z' sl2 sl36; refine listF_nil ?_
    repeat ((fail_if_success refine stp ?_); with_reducible go_step)
    refine region_F ?_; have cb8_0 := kb8.cell 0 rfl; have cb8_1 := kb8.cell 1 rfl; refine pl ?_; have cb6_0 := kb6.cell 0 rfl; have cb6_1 := kb6.cell 1 rfl; have zb6 := kb6.2.2; refine pl ?_; refine listF_absw (fun w24 hw' => ?_); have kb6' := cells_of hw' (Cells.set (i := 1) (Cells.set (i := 0) (kb6)))
    (try simp only [vC, List.set_cons_zero, List.set_cons_succ] at kb6')
    have hb25 : OldB [B6] w21 w24 := oldset hw'; clear hw'; clear cb6_0 cb6_1 cb8_0 cb8_1 zb6; clear qb3 qb4 qb6 qb8; replace kb6 := kb6'; replace kb3 := kb3.oldB hb25 (by first | (simp; done) | (simp; omega)); replace kb4 := kb4.oldB hb25 (by first | (simp; done) | (simp; omega)); replace kb8 := kb8.oldB hb25 (by first | (simp; done) | (simp; omega)); replace HB := hid (HB.out.more hb25 (by simp; try omega)); clear hb25; have qb3 := kb3.1; have qb4 := kb4.1; have qb6 := kb6.1; have qb8 := kb8.1; clear kb6'; refine listF_abs (fun s26 z' => ?_); replace sl6 := gs 6 z' sl6; clear z' sl8; refine listF_nil ?_
    repeat ((fail_if_success refine stp ?_); with_reducible go_step)
    have cb6_0 := kb6.cell 0 rfl; have cb6_1 := kb6.cell 1 rfl; refine ret_F _ (res_c Try.results56 ((getD_F (by decide)).trans sl6) (load_t37 cb6_0 cb6_1)) ?_; refine ⟨?_, HB.out.toBelow⟩; unfold failsOf failAt; simp only; rw [if_neg (by omega), if_neg (by omega)]
   ·skip
    have h36' : ¬ 0 ≤ below s.hi (needed k 1000) k.wear.lo := by simpa using h36
    repeat ((fail_if_success refine stp ?_); with_reducible go_step)
    refine region_F ?_; refine pl ?_; have cb6_0 := kb6.cell 0 rfl; have cb6_1 := kb6.cell 1 rfl; have zb6 := kb6.2.2; refine pl ?_; refine listF_absw (fun w27 hw' => ?_); have kb6' := cells_of hw' (Cells.set (i := 1) (Cells.set (i := 0) (kb6)))
    (try simp only [vC, List.set_cons_zero, List.set_cons_succ] at kb6')
    have hb28 : OldB [B6] w17 w27 := oldset hw'; clear hw'; clear cb6_0 cb6_1 cb8_0 cb8_1 zb6; clear qb3 qb4 qb6 qb8; replace kb6 := kb6'; replace kb3 := kb3.oldB hb28 (by first | (simp; done) | (simp; omega)); replace kb4 := kb4.oldB hb28 (by first | (simp; done) | (simp; omega)); replace kb8 := kb8.oldB hb28 (by first | (simp; done) | (simp; omega)); replace HB := hid (HB.out.more hb28 (by simp; try omega)); clear hb28; have qb3 := kb3.1; have qb4 := kb4.1; have qb6 := kb6.1; have qb8 := kb8.1; clear kb6'; refine listF_abs (fun s29 z' => ?_); replace sl6 := gs 6 z' sl6; clear z' sl2 sl8 sl36; refine listF_nil ?_
    repeat ((fail_if_success refine stp ?_); with_reducible go_step)
    have cb6_0 := kb6.cell 0 rfl; have cb6_1 := kb6.cell 1 rfl; refine ret_F _ (res_c Try.results56 ((getD_F (by decide)).trans sl6) (load_t37 cb6_0 cb6_1)) ?_; refine ⟨?_, HB.out.toBelow⟩; unfold failsOf failAt; simp only; rw [if_neg (by omega), if_pos (by omega)]
  ·skip
   have h28' : ¬ 0 ≤ below s.lo (needed k 1000) k.wear.hi := by simpa using h28
   repeat ((fail_if_success refine stp ?_); with_reducible go_step)
   refine region_F ?_
   iterate 3 refine pl ?_
   refine listF_abs (fun s30 z' => ?_); replace sl2 := gs 2 z' sl2; replace sl6 := gs 6 z' sl6; replace sl8 := gs 8 z' sl8; have sl36 := gu 36 z'; clear z' sl28; refine listF_nil ?_
   repeat ((fail_if_success refine stp ?_); with_reducible go_step)
   refine cond_E sl36 (by decide) ?_ ?_ <;> (clear sl36; intro h36 sl36)
   ·skip
    have h36' : 0 ≤ below s.hi (needed k 1000) k.wear.lo := by simpa using h36
    have ww2 : IntKind.i64.wrap (below s.hi (needed k 1000) k.wear.lo + t) = below s.hi (needed k 1000) k.wear.lo + t := IntWalk.i64_in _ (by have := Hy.out; omega)
    repeat ((fail_if_success refine stp ?_); with_reducible go_step)
    refine region_F ?_
    iterate 5 refine pl ?_
    have zb8 := kb8.2.2; refine pl ?_; refine listF_absw (fun w31 hw' => ?_); have kb8' := cells_of hw' (Cells.set (i := 1) (kb8))
    (try simp only [vC, List.set_cons_zero, List.set_cons_succ] at kb8')
    have hb32 : OldB [J15] w13 w31 := oldset hw'; clear hw'; clear cb8_0 cb8_1 zb8; clear qb3 qb4 qb6 qb8; replace kb8 := kb8'; replace kb3 := kb3.oldB hb32 (by first | (simp; done) | (simp; omega)); replace kb4 := kb4.oldB hb32 (by first | (simp; done) | (simp; omega)); replace kb6 := kb6.oldB hb32 (by first | (simp; done) | (simp; omega)); replace HB := hid (HB.out.more hb32 (by simp; try omega)); clear hb32; have qb3 := kb3.1; have qb4 := kb4.1; have qb6 := kb6.1; have qb8 := kb8.1; clear kb8'; refine listF_abs (fun s33 z' => ?_); replace sl6 := gs 6 z' sl6; replace sl8 := gs 8 z' sl8; clear z' sl2 sl36; refine listF_nil ?_
    repeat ((fail_if_success refine stp ?_); with_reducible go_step)
    refine region_F ?_; have cb8_0 := kb8.cell 0 rfl; have cb8_1 := kb8.cell 1 rfl; refine pl ?_; have cb6_0 := kb6.cell 0 rfl; have cb6_1 := kb6.cell 1 rfl; have zb6 := kb6.2.2; refine pl ?_; refine listF_absw (fun w34 hw' => ?_); have kb6' := cells_of hw' (Cells.set (i := 1) (Cells.set (i := 0) (kb6)))
    (try simp only [vC, List.set_cons_zero, List.set_cons_succ] at kb6')
    have hb35 : OldB [B6] w31 w34 := oldset hw'; clear hw'; clear cb6_0 cb6_1 cb8_0 cb8_1 zb6; clear qb3 qb4 qb6 qb8; replace kb6 := kb6'; replace kb3 := kb3.oldB hb35 (by first | (simp; done) | (simp; omega)); replace kb4 := kb4.oldB hb35 (by first | (simp; done) | (simp; omega)); replace kb8 := kb8.oldB hb35 (by first | (simp; done) | (simp; omega)); replace HB := hid (HB.out.more hb35 (by simp; try omega)); clear hb35; have qb3 := kb3.1; have qb4 := kb4.1; have qb6 := kb6.1; have qb8 := kb8.1; clear kb6'; refine listF_abs (fun s36 z' => ?_); replace sl6 := gs 6 z' sl6; clear z' sl8; refine listF_nil ?_
    repeat ((fail_if_success refine stp ?_); with_reducible go_step)
    have cb6_0 := kb6.cell 0 rfl; have cb6_1 := kb6.cell 1 rfl; refine ret_F _ (res_c Try.results56 ((getD_F (by decide)).trans sl6) (load_t37 cb6_0 cb6_1)) ?_; refine ⟨?_, HB.out.toBelow⟩; unfold failsOf failAt; simp only; rw [if_pos (by omega), if_neg (by omega)]
   ·skip
    have h36' : ¬ 0 ≤ below s.hi (needed k 1000) k.wear.lo := by simpa using h36
    repeat ((fail_if_success refine stp ?_); with_reducible go_step)
    refine region_F ?_; refine pl ?_; have cb6_0 := kb6.cell 0 rfl; have cb6_1 := kb6.cell 1 rfl; have zb6 := kb6.2.2; refine pl ?_; refine listF_absw (fun w37 hw' => ?_); have kb6' := cells_of hw' (Cells.set (i := 1) (Cells.set (i := 0) (kb6)))
    (try simp only [vC, List.set_cons_zero, List.set_cons_succ] at kb6')
    have hb38 : OldB [B6] w13 w37 := oldset hw'; clear hw'; clear cb6_0 cb6_1 cb8_0 cb8_1 zb6; clear qb3 qb4 qb6 qb8; replace kb6 := kb6'; replace kb3 := kb3.oldB hb38 (by first | (simp; done) | (simp; omega)); replace kb4 := kb4.oldB hb38 (by first | (simp; done) | (simp; omega)); replace kb8 := kb8.oldB hb38 (by first | (simp; done) | (simp; omega)); replace HB := hid (HB.out.more hb38 (by simp; try omega)); clear hb38; have qb3 := kb3.1; have qb4 := kb4.1; have qb6 := kb6.1; have qb8 := kb8.1; clear kb6'; refine listF_abs (fun s39 z' => ?_); replace sl6 := gs 6 z' sl6; clear z' sl2 sl8 sl36; refine listF_nil ?_
    repeat ((fail_if_success refine stp ?_); with_reducible go_step)
    have cb6_0 := kb6.cell 0 rfl; have cb6_1 := kb6.cell 1 rfl; refine ret_F _ (res_c Try.results56 ((getD_F (by decide)).trans sl6) (load_t37 cb6_0 cb6_1)) ?_; refine ⟨?_, HB.out.toBelow⟩; unfold failsOf failAt; simp only; rw [if_pos (by omega), if_pos (by omega)]
 case dep3 =>
   iterate 15 refine dR ?_
   refine depR_cons (fun X X' h => ?_) ?_
   · (first | exact ⟨rfl, rfl⟩ | (have e15 := h 15 (by decide +kernel); constructor <;> (first | rfl | (simp only [e15]))))
   exact depR_nil

end Go.Proofs.Ytndcmmghgljinaa
