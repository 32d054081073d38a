/- QueueDays: its walk. -/
import Derived.Test.YtbjgebbfachgfaacAw
import Derived.Test.YtbjgebbfachgfaacW41
set_option linter.unusedVariables false
set_option linter.unusedSimpArgs false
set_option linter.unusedSectionVars false
set_option linter.all false
namespace Go.Proofs.Ytbjgebbfachgfaa
open Go.RowKit

theorem day_len (W : Work) (till : Int) : (day W till).1.length ≤ 9223372036854775807 ∧ (day W till).2.jobs.length ≤ 9223372036854775807 := by
  by_cases h : dayErr W till = 0
  · have h1 := (day_spells h).1
    have h2 := (day_dok h).len
    have h3 := (day_ok h).1.jl
    omega
  · have : day W till = ([], Qu.zero) := by unfold day; rw [if_neg h]
    rw [this]; exact ⟨by simp, by simp [Qu.zero]⟩
theorem bill_len (W : Work) (till : Int) : (billRes W till).1.length ≤ 9223372036854775807 := by
  unfold billRes
  split
  · have := (day_len W till).2
    simpa [charges] using this
  · simp

set_option maxRecDepth 100000 in
set_option maxHeartbeats 8000000 in
theorem days_walk (W : Work) (till : Int) (aj af : Option Addr) (cj cf : Nat) (w : World) (hW : WorkIn w W aj af) :
    Calls Try.prog 5 #[.agg #[.int .i64 W.rules.slice, .int .i64 W.rules.load, .int .i64 W.rules.dump, .int .i64 W.rules.patience, .int .i64 W.rules.rate, .slice aj W.jobs.length cj, .slice af W.faults.length cf], .int .i64 till] w fun e w' => e = .returned (.bool true) ∧ Below w.heap.size w w' := by
  have HW := hid hW
  obtain ⟨hd1, hd2⟩ := day_len W till
  have hd3 := bill_len W till
  clear hW
  refine enter_F Try.func5 rfl Try.ntmps5 (by simp) ?_
  intro s hs
  have sl0 : s 0 = .agg #[.int .i64 W.rules.slice, .int .i64 W.rules.load, .int .i64 W.rules.dump, .int .i64 W.rules.patience, .int .i64 W.rules.rate, .slice aj W.jobs.length cj, .slice af W.faults.length cf] := hs 0 (by simp)
  have sl1 : s 1 = .int .i64 till := hs 1 (by simp)
  clear hs
  repeat (first | ((first | (refine listF_step rfl (fun K' hK => ?_)) | (refine listF_yes rfl rfl (by decide) ?_ (fun K' hK => ?_); (focus (go_simp; done)))); unfold opF; go_simp; (refine hK _ _ ?_); clear hK K') | (refine listF_no (b' := true) rfl rfl (by decide) ?_ ?_ ?_; (focus (go_simp; done)); (focus rfl)) | (refine listF_no (b' := false) rfl rfl (by decide) ?_ ?_ ?_; (focus (go_simp; done)); (focus rfl)) | (refine listF_nu rfl rfl (by decide) ?_ ?_; (focus (go_simp; done))) | (refine listF_nil ?_) | (refine region_F ?_) | (refine cond_F true ?_ ?_; (focus (go_simp; done)); simp only [if_true]) | (refine cond_F false ?_ ?_; (focus (go_simp; done)); simp only [Bool.false_eq_true, if_false]) | (with_reducible go_step))
  refine listF_absw ?_
  intro w1 hw1
  have k2 : Cells w1 w.heap.size #[.int .i64 W.rules.slice, .int .i64 W.rules.load, .int .i64 W.rules.dump, .int .i64 W.rules.patience, .int .i64 W.rules.rate, .slice aj W.jobs.length cj, .slice af W.faults.length cf].toList := by rw [hw1]; exact Cells.new rfl
  have HB0 := hid (show Below w.heap.size w w1 by rw [hw1]; exact (by repeat (first | (with_reducible exact Below.refl _ w) | (with_reducible refine bdrewN ?_ _) | (with_reducible refine Below.drew ?_) | (with_reducible refine Below.setCell ?_ (by first | omega | (simp; done) | (simp; omega)) _) | (with_reducible refine Below.alloc ?_ (by first | omega | (simp; done) | (simp; omega)) _))))
  clear hw1
  (refine listF_abs ?_; intro s' hs'; have gl1 := congrFun hs' 1; simp only [updS_some, updS_none, Nat.reduceEqDiff, ↓reduceIte] at gl1; (try rw [sl1] at gl1); have gl2 := congrFun hs' 2; simp only [updS_some, updS_none, Nat.reduceEqDiff, ↓reduceIte] at gl2; (try rw [sl2] at gl2); have gl16 := congrFun hs' 16; simp only [updS_some, updS_none, Nat.reduceEqDiff, ↓reduceIte] at gl16; (try rw [sl16] at gl16); have gl17 := congrFun hs' 17; simp only [updS_some, updS_none, Nat.reduceEqDiff, ↓reduceIte] at gl17; (try rw [sl17] at gl17); clear hs'; (try clear sl1); (try clear sl2); (try clear sl16); (try clear sl17); have sl1 := gl1; clear gl1; have sl2 := gl2; clear gl2; have sl16 := gl16; clear gl16; have sl17 := gl17; clear gl17)
  generalize hG : day W till = G at *
  generalize hE : dayErr W till = E at *
  have HG := hid hG
  have HE := hid hE
  clear hG hE
  (refine listF_step rfl (fun K' hK => ?_); unfold opF; go_simp; refine (qDay_any W till aj af cj cf _ (HW.out.at HB0.out)).mono ?_; rintro e w2 ⟨a5, c5, a6, c6, rfl, hl, hq, hb2, _⟩; refine ⟨_, rfl, hK _ _ ?_⟩; clear hK K')
  rw [HG.out] at hl hq ⊢
  rw [HE.out]
  replace k2 := k2.at hb2
  have HB1 := hid (HB0.out.trans (hb2.mono HB0.out.size) : Below w.heap.size w w2)
  clear hb2 HB0
  have k2_0 := k2.cell 0 rfl
  have k2_1 := k2.cell 1 rfl
  have k2_2 := k2.cell 2 rfl
  have k2_3 := k2.cell 3 rfl
  have k2_4 := k2.cell 4 rfl
  have k2_5 := k2.cell 5 rfl
  have k2_6 := k2.cell 6 rfl
  have k2_s := k2.1
  (refine listF_abs ?_; intro s' hs'; have gl1 := congrFun hs' 1; simp only [updS_some, updS_none, Nat.reduceEqDiff, ↓reduceIte] at gl1; (try rw [sl1] at gl1); have gl2 := congrFun hs' 2; simp only [updS_some, updS_none, Nat.reduceEqDiff, ↓reduceIte] at gl2; (try rw [sl2] at gl2); have gl18 := congrFun hs' 18; simp only [updS_some, updS_none, Nat.reduceEqDiff, ↓reduceIte] at gl18; (try rw [sl18] at gl18); clear hs'; (try clear sl1); (try clear sl2); (try clear sl18); have sl1 := gl1; clear gl1; have sl2 := gl2; clear gl2; have sl18 := gl18; clear gl18)
  repeat (first | ((first | (refine listF_step rfl (fun K' hK => ?_)) | (refine listF_yes rfl rfl (by decide) ?_ (fun K' hK => ?_); (focus (go_simp; done)))); unfold opF; go_simp; (refine hK _ _ ?_); clear hK K') | (refine listF_no (b' := true) rfl rfl (by decide) ?_ ?_ ?_; (focus (go_simp; done)); (focus rfl)) | (refine listF_no (b' := false) rfl rfl (by decide) ?_ ?_ ?_; (focus (go_simp; done)); (focus rfl)) | (refine listF_nu rfl rfl (by decide) ?_ ?_; (focus (go_simp; done))) | (refine listF_nil ?_) | (refine region_F ?_) | (refine cond_F true ?_ ?_; (focus (go_simp; done)); simp only [if_true]) | (refine cond_F false ?_ ?_; (focus (go_simp; done)); simp only [Bool.false_eq_true, if_false]) | (with_reducible go_step))
  refine listF_absw ?_
  intro w3 hw3
  have k60 : Cells w3 (w2.heap.size) [.int .i64 G.2.now, .slice a6 G.2.jobs.length c6] := by rw [hw3]; exact Cells.new (cs := #[.int .i64 G.2.now, .slice a6 G.2.jobs.length c6]) rfl
  have hbw3 : Below w2.heap.size w2 w3 := by rw [hw3]; exact (by repeat (first | (with_reducible exact Below.refl _ w2) | (with_reducible refine bdrewN ?_ _) | (with_reducible refine Below.drew ?_) | (with_reducible refine Below.setCell ?_ (by first | omega | (simp; done) | (simp; omega)) _) | (with_reducible refine Below.alloc ?_ (by first | omega | (simp; done) | (simp; omega)) _)))
  clear hw3
  clear k2_0 k2_1 k2_2 k2_3 k2_4 k2_5 k2_6 k2_s
  replace k2 := k2.at hbw3
  replace hl := Rd.at hl hbw3
  replace hq := Rd.at hq hbw3
  have HB2 := hid (HB1.out.trans (hbw3.mono HB1.out.size) : Below w.heap.size w w3)
  clear hbw3 HB1
  have k6 := k60
  clear k60
  (refine listF_abs ?_; intro s' hs'; have gl1 := congrFun hs' 1; simp only [updS_some, updS_none, Nat.reduceEqDiff, ↓reduceIte] at gl1; (try rw [sl1] at gl1); have gl2 := congrFun hs' 2; simp only [updS_some, updS_none, Nat.reduceEqDiff, ↓reduceIte] at gl2; (try rw [sl2] at gl2); have gl5 := congrFun hs' 5; simp only [updS_some, updS_none, Nat.reduceEqDiff, ↓reduceIte] at gl5; (try rw [sl5] at gl5); have gl6 := congrFun hs' 6; simp only [updS_some, updS_none, Nat.reduceEqDiff, ↓reduceIte] at gl6; (try rw [sl6] at gl6); have gl7 := congrFun hs' 7; simp only [updS_some, updS_none, Nat.reduceEqDiff, ↓reduceIte] at gl7; (try rw [sl7] at gl7); have gl23 := congrFun hs' 23; simp only [updS_some, updS_none, Nat.reduceEqDiff, ↓reduceIte] at gl23; (try rw [sl23] at gl23); have gl24 := congrFun hs' 24; simp only [updS_some, updS_none, Nat.reduceEqDiff, ↓reduceIte] at gl24; (try rw [sl24] at gl24); clear hs'; (try clear sl1); (try clear sl2); (try clear sl5); (try clear sl6); (try clear sl7); (try clear sl23); (try clear sl24); have sl1 := gl1; clear gl1; have sl2 := gl2; clear gl2; have sl5 := gl5; clear gl5; have sl6 := gl6; clear gl6; have sl7 := gl7; clear gl7; have sl23 := gl23; clear gl23; have sl24 := gl24; clear gl24)
  generalize w2.heap.size = B6 at *
  (refine listF_step rfl (fun K' hK => ?_); unfold opF; go_simp; refine (rDay_any W till aj af cj cf _ (HW.out.at HB2.out)).mono ?_; rintro e w4 ⟨a8, c8, a9, c9, rfl, hl2, hq2, hb4, _⟩; refine ⟨_, rfl, hK _ _ ?_⟩; clear hK K')
  rw [HG.out] at hl2 hq2 ⊢
  rw [HE.out]
  replace k2 := k2.at hb4
  replace k6 := k6.at hb4
  replace hl := Rd.at hl hb4
  replace hq := Rd.at hq hb4
  have HB3 := hid (HB2.out.trans (hb4.mono HB2.out.size) : Below w.heap.size w w4)
  clear hb4 HB2
  (refine listF_abs ?_; intro s' hs'; have gl1 := congrFun hs' 1; simp only [updS_some, updS_none, Nat.reduceEqDiff, ↓reduceIte] at gl1; (try rw [sl1] at gl1); have gl2 := congrFun hs' 2; simp only [updS_some, updS_none, Nat.reduceEqDiff, ↓reduceIte] at gl2; (try rw [sl2] at gl2); have gl5 := congrFun hs' 5; simp only [updS_some, updS_none, Nat.reduceEqDiff, ↓reduceIte] at gl5; (try rw [sl5] at gl5); have gl6 := congrFun hs' 6; simp only [updS_some, updS_none, Nat.reduceEqDiff, ↓reduceIte] at gl6; (try rw [sl6] at gl6); have gl7 := congrFun hs' 7; simp only [updS_some, updS_none, Nat.reduceEqDiff, ↓reduceIte] at gl7; (try rw [sl7] at gl7); have gl25 := congrFun hs' 25; simp only [updS_some, updS_none, Nat.reduceEqDiff, ↓reduceIte] at gl25; (try rw [sl25] at gl25); clear hs'; (try clear sl1); (try clear sl2); (try clear sl5); (try clear sl6); (try clear sl7); (try clear sl25); have sl1 := gl1; clear gl1; have sl2 := gl2; clear gl2; have sl5 := gl5; clear gl5; have sl6 := gl6; clear gl6; have sl7 := gl7; clear gl7; have sl25 := gl25; clear gl25)
  repeat (first | ((first | (refine listF_step rfl (fun K' hK => ?_)) | (refine listF_yes rfl rfl (by decide) ?_ (fun K' hK => ?_); (focus (go_simp; done)))); unfold opF; go_simp; (refine hK _ _ ?_); clear hK K') | (refine listF_no (b' := true) rfl rfl (by decide) ?_ ?_ ?_; (focus (go_simp; done)); (focus rfl)) | (refine listF_no (b' := false) rfl rfl (by decide) ?_ ?_ ?_; (focus (go_simp; done)); (focus rfl)) | (refine listF_nu rfl rfl (by decide) ?_ ?_; (focus (go_simp; done))) | (refine listF_nil ?_) | (refine region_F ?_) | (refine cond_F true ?_ ?_; (focus (go_simp; done)); simp only [if_true]) | (refine cond_F false ?_ ?_; (focus (go_simp; done)); simp only [Bool.false_eq_true, if_false]) | (with_reducible go_step))
  refine listF_absw ?_
  intro w5 hw5
  have k90 : Cells w5 (w4.heap.size) [.int .i64 G.2.now, .slice a9 G.2.jobs.length c9] := by rw [hw5]; exact Cells.new (cs := #[.int .i64 G.2.now, .slice a9 G.2.jobs.length c9]) rfl
  have hbw5 : Below w4.heap.size w4 w5 := by rw [hw5]; exact (by repeat (first | (with_reducible exact Below.refl _ w4) | (with_reducible refine bdrewN ?_ _) | (with_reducible refine Below.drew ?_) | (with_reducible refine Below.setCell ?_ (by first | omega | (simp; done) | (simp; omega)) _) | (with_reducible refine Below.alloc ?_ (by first | omega | (simp; done) | (simp; omega)) _)))
  clear hw5
  replace k2 := k2.at hbw5
  replace k6 := k6.at hbw5
  replace hl := Rd.at hl hbw5
  replace hq := Rd.at hq hbw5
  replace hl2 := Rd.at hl2 hbw5
  replace hq2 := Rd.at hq2 hbw5
  have HB4 := hid (HB3.out.trans (hbw5.mono HB3.out.size) : Below w.heap.size w w5)
  clear hbw5 HB3
  have k9 := k90
  clear k90
  (refine listF_abs ?_; intro s' hs'; have gl1 := congrFun hs' 1; simp only [updS_some, updS_none, Nat.reduceEqDiff, ↓reduceIte] at gl1; (try rw [sl1] at gl1); have gl2 := congrFun hs' 2; simp only [updS_some, updS_none, Nat.reduceEqDiff, ↓reduceIte] at gl2; (try rw [sl2] at gl2); have gl5 := congrFun hs' 5; simp only [updS_some, updS_none, Nat.reduceEqDiff, ↓reduceIte] at gl5; (try rw [sl5] at gl5); have gl6 := congrFun hs' 6; simp only [updS_some, updS_none, Nat.reduceEqDiff, ↓reduceIte] at gl6; (try rw [sl6] at gl6); have gl7 := congrFun hs' 7; simp only [updS_some, updS_none, Nat.reduceEqDiff, ↓reduceIte] at gl7; (try rw [sl7] at gl7); have gl8 := congrFun hs' 8; simp only [updS_some, updS_none, Nat.reduceEqDiff, ↓reduceIte] at gl8; (try rw [sl8] at gl8); have gl9 := congrFun hs' 9; simp only [updS_some, updS_none, Nat.reduceEqDiff, ↓reduceIte] at gl9; (try rw [sl9] at gl9); have gl10 := congrFun hs' 10; simp only [updS_some, updS_none, Nat.reduceEqDiff, ↓reduceIte] at gl10; (try rw [sl10] at gl10); have gl29 := congrFun hs' 29; simp only [updS_some, updS_none, Nat.reduceEqDiff, ↓reduceIte] at gl29; (try rw [sl29] at gl29); have gl30 := congrFun hs' 30; simp only [updS_some, updS_none, Nat.reduceEqDiff, ↓reduceIte] at gl30; (try rw [sl30] at gl30); clear hs'; (try clear sl1); (try clear sl2); (try clear sl5); (try clear sl6); (try clear sl7); (try clear sl8); (try clear sl9); (try clear sl10); (try clear sl29); (try clear sl30); have sl1 := gl1; clear gl1; have sl2 := gl2; clear gl2; have sl5 := gl5; clear gl5; have sl6 := gl6; clear gl6; have sl7 := gl7; clear gl7; have sl8 := gl8; clear gl8; have sl9 := gl9; clear gl9; have sl10 := gl10; clear gl10; have sl29 := gl29; clear gl29; have sl30 := gl30; clear gl30)
  generalize w4.heap.size = B9 at *
  (refine listF_step rfl (fun K' hK => ?_); unfold opF; go_simp; refine (rspells_any a5 a8 c5 c8 G.1 G.1 _ hd1 hd1 hl hl2).mono ?_; rintro e w6 ⟨rfl, hb6⟩; refine ⟨_, rfl, hK _ _ ?_⟩; clear hK K')
  rw [show decide (G.1 = G.1) = true from decide_eq_true rfl]
  replace k2 := k2.at hb6
  replace k6 := k6.at hb6
  replace k9 := k9.at hb6
  replace hq := Rd.at hq hb6
  replace hq2 := Rd.at hq2 hb6
  have HB5 := hid (HB4.out.trans (hb6.mono HB4.out.size) : Below w.heap.size w w6)
  clear hb6 HB4
  have k6_0 := k6.cell 0 rfl
  have k6_1 := k6.cell 1 rfl
  have k6_s := k6.1
  have k9_0 := k9.cell 0 rfl
  have k9_1 := k9.cell 1 rfl
  have k9_s := k9.1
  (refine listF_abs ?_; intro s' hs'; have gl1 := congrFun hs' 1; simp only [updS_some, updS_none, Nat.reduceEqDiff, ↓reduceIte] at gl1; (try rw [sl1] at gl1); have gl2 := congrFun hs' 2; simp only [updS_some, updS_none, Nat.reduceEqDiff, ↓reduceIte] at gl2; (try rw [sl2] at gl2); have gl6 := congrFun hs' 6; simp only [updS_some, updS_none, Nat.reduceEqDiff, ↓reduceIte] at gl6; (try rw [sl6] at gl6); have gl7 := congrFun hs' 7; simp only [updS_some, updS_none, Nat.reduceEqDiff, ↓reduceIte] at gl7; (try rw [sl7] at gl7); have gl9 := congrFun hs' 9; simp only [updS_some, updS_none, Nat.reduceEqDiff, ↓reduceIte] at gl9; (try rw [sl9] at gl9); have gl10 := congrFun hs' 10; simp only [updS_some, updS_none, Nat.reduceEqDiff, ↓reduceIte] at gl10; (try rw [sl10] at gl10); have gl31 := congrFun hs' 31; simp only [updS_some, updS_none, Nat.reduceEqDiff, ↓reduceIte] at gl31; (try rw [sl31] at gl31); clear hs'; (try clear sl1); (try clear sl2); (try clear sl6); (try clear sl7); (try clear sl9); (try clear sl10); (try clear sl31); have sl1 := gl1; clear gl1; have sl2 := gl2; clear gl2; have sl6 := gl6; clear gl6; have sl7 := gl7; clear gl7; have sl9 := gl9; clear gl9; have sl10 := gl10; clear gl10; have sl31 := gl31; clear gl31)
  repeat (first | ((first | (refine listF_step rfl (fun K' hK => ?_)) | (refine listF_yes rfl rfl (by decide) ?_ (fun K' hK => ?_); (focus (go_simp; done)))); unfold opF; go_simp; (refine hK _ _ ?_); clear hK K') | (refine listF_no (b' := true) rfl rfl (by decide) ?_ ?_ ?_; (focus (go_simp; done)); (focus rfl)) | (refine listF_no (b' := false) rfl rfl (by decide) ?_ ?_ ?_; (focus (go_simp; done)); (focus rfl)) | (refine listF_nu rfl rfl (by decide) ?_ ?_; (focus (go_simp; done))) | (refine listF_nil ?_) | (refine region_F ?_) | (refine cond_F true ?_ ?_; (focus (go_simp; done)); simp only [if_true]) | (refine cond_F false ?_ ?_; (focus (go_simp; done)); simp only [Bool.false_eq_true, if_false]) | (with_reducible go_step))
  (refine listF_yes rfl rfl (by decide) ?_ (fun K' hK => ?_); (focus (go_simp; done)); unfold opF; go_simp; refine (rqueues_any G.2.now G.2.now a6 a9 c6 c9 G.2.jobs G.2.jobs _ hd2 hd2 hq hq2).mono ?_; rintro e w7 ⟨rfl, hb7⟩; refine ⟨_, rfl, hK _ _ ?_⟩; clear hK K')
  rw [show decide ((⟨G.2.now, G.2.jobs⟩ : Qu) = ⟨G.2.now, G.2.jobs⟩) = true from decide_eq_true rfl]
  clear k6_0 k6_1 k6_s k9_0 k9_1 k9_s
  clear k6 k9
  replace k2 := k2.at hb7
  have HB6 := hid (HB5.out.trans (hb7.mono HB5.out.size) : Below w.heap.size w w7)
  clear hb7 HB5
  have k2_0 := k2.cell 0 rfl
  have k2_1 := k2.cell 1 rfl
  have k2_2 := k2.cell 2 rfl
  have k2_3 := k2.cell 3 rfl
  have k2_4 := k2.cell 4 rfl
  have k2_5 := k2.cell 5 rfl
  have k2_6 := k2.cell 6 rfl
  have k2_s := k2.1
  have n5 : (E != E) = false := by simp
  (refine listF_abs ?_; intro s' hs'; have gl1 := congrFun hs' 1; simp only [updS_some, updS_none, Nat.reduceEqDiff, ↓reduceIte] at gl1; (try rw [sl1] at gl1); have gl2 := congrFun hs' 2; simp only [updS_some, updS_none, Nat.reduceEqDiff, ↓reduceIte] at gl2; (try rw [sl2] at gl2); have gl7 := congrFun hs' 7; simp only [updS_some, updS_none, Nat.reduceEqDiff, ↓reduceIte] at gl7; (try rw [sl7] at gl7); have gl10 := congrFun hs' 10; simp only [updS_some, updS_none, Nat.reduceEqDiff, ↓reduceIte] at gl10; (try rw [sl10] at gl10); have gl33 := congrFun hs' 33; simp only [updS_some, updS_none, Nat.reduceEqDiff, ↓reduceIte] at gl33; (try rw [sl33] at gl33); have gl36 := congrFun hs' 36; simp only [updS_some, updS_none, Nat.reduceEqDiff, ↓reduceIte] at gl36; (try rw [sl36] at gl36); clear hs'; (try clear sl1); (try clear sl2); (try clear sl7); (try clear sl10); (try clear sl33); (try clear sl36); have sl1 := gl1; clear gl1; have sl2 := gl2; clear gl2; have sl7 := gl7; clear gl7; have sl10 := gl10; clear gl10; have sl33 := gl33; clear gl33; have sl36 := gl36; clear gl36)
  repeat (first | ((first | (refine listF_step rfl (fun K' hK => ?_)) | (refine listF_yes rfl rfl (by decide) ?_ (fun K' hK => ?_); (focus (go_simp; done)))); unfold opF; go_simp; (refine hK _ _ ?_); clear hK K') | (refine listF_no (b' := true) rfl rfl (by decide) ?_ ?_ ?_; (focus (go_simp; done)); (focus rfl)) | (refine listF_no (b' := false) rfl rfl (by decide) ?_ ?_ ?_; (focus (go_simp; done)); (focus rfl)) | (refine listF_nu rfl rfl (by decide) ?_ ?_; (focus (go_simp; done))) | (refine listF_nil ?_) | (refine region_F ?_) | (refine cond_F true ?_ ?_; (focus (go_simp; done)); simp only [if_true]) | (refine cond_F false ?_ ?_; (focus (go_simp; done)); simp only [Bool.false_eq_true, if_false]) | (with_reducible go_step))
  (refine listF_abs ?_; intro s' hs'; have gl1 := congrFun hs' 1; simp only [updS_some, updS_none, Nat.reduceEqDiff, ↓reduceIte] at gl1; (try rw [sl1] at gl1); have gl2 := congrFun hs' 2; simp only [updS_some, updS_none, Nat.reduceEqDiff, ↓reduceIte] at gl2; (try rw [sl2] at gl2); have gl45 := congrFun hs' 45; simp only [updS_some, updS_none, Nat.reduceEqDiff, ↓reduceIte] at gl45; (try rw [sl45] at gl45); have gl46 := congrFun hs' 46; simp only [updS_some, updS_none, Nat.reduceEqDiff, ↓reduceIte] at gl46; (try rw [sl46] at gl46); clear hs'; (try clear sl1); (try clear sl2); (try clear sl45); (try clear sl46); have sl1 := gl1; clear gl1; have sl2 := gl2; clear gl2; have sl45 := gl45; clear gl45; have sl46 := gl46; clear gl46)
  generalize hF : billRes W till = F at *
  have HF := hid hF
  clear hF
  (refine listF_step rfl (fun K' hK => ?_); unfold opF; go_simp; refine (qBill_any W till aj af cj cf _ (HW.out.at HB6.out)).mono ?_; rintro e w8 ⟨a1, c1, rfl, hi, hb8⟩; refine ⟨_, rfl, hK _ _ ?_⟩; clear hK K')
  rw [HF.out] at hi ⊢
  clear k2_0 k2_1 k2_2 k2_3 k2_4 k2_5 k2_6 k2_s
  replace k2 := k2.at hb8
  have HB7 := hid (HB6.out.trans (hb8.mono HB6.out.size) : Below w.heap.size w w8)
  clear hb8 HB6
  have k2_0 := k2.cell 0 rfl
  have k2_1 := k2.cell 1 rfl
  have k2_2 := k2.cell 2 rfl
  have k2_3 := k2.cell 3 rfl
  have k2_4 := k2.cell 4 rfl
  have k2_5 := k2.cell 5 rfl
  have k2_6 := k2.cell 6 rfl
  have k2_s := k2.1
  (refine listF_abs ?_; intro s' hs'; have gl1 := congrFun hs' 1; simp only [updS_some, updS_none, Nat.reduceEqDiff, ↓reduceIte] at gl1; (try rw [sl1] at gl1); have gl2 := congrFun hs' 2; simp only [updS_some, updS_none, Nat.reduceEqDiff, ↓reduceIte] at gl2; (try rw [sl2] at gl2); have gl47 := congrFun hs' 47; simp only [updS_some, updS_none, Nat.reduceEqDiff, ↓reduceIte] at gl47; (try rw [sl47] at gl47); clear hs'; (try clear sl1); (try clear sl2); (try clear sl47); have sl1 := gl1; clear gl1; have sl2 := gl2; clear gl2; have sl47 := gl47; clear gl47)
  repeat (first | ((first | (refine listF_step rfl (fun K' hK => ?_)) | (refine listF_yes rfl rfl (by decide) ?_ (fun K' hK => ?_); (focus (go_simp; done)))); unfold opF; go_simp; (refine hK _ _ ?_); clear hK K') | (refine listF_no (b' := true) rfl rfl (by decide) ?_ ?_ ?_; (focus (go_simp; done)); (focus rfl)) | (refine listF_no (b' := false) rfl rfl (by decide) ?_ ?_ ?_; (focus (go_simp; done)); (focus rfl)) | (refine listF_nu rfl rfl (by decide) ?_ ?_; (focus (go_simp; done))) | (refine listF_nil ?_) | (refine region_F ?_) | (refine cond_F true ?_ ?_; (focus (go_simp; done)); simp only [if_true]) | (refine cond_F false ?_ ?_; (focus (go_simp; done)); simp only [Bool.false_eq_true, if_false]) | (with_reducible go_step))
  refine listF_absw ?_
  intro w9 hw9
  have k120 : Cells w9 (w8.heap.size) [.int .i64 F.2.1.run, .int .i64 F.2.1.lost, .int .i64 F.2.1.repair, .int .i64 F.2.1.idle] := by rw [hw9]; exact Cells.new (cs := #[.int .i64 F.2.1.run, .int .i64 F.2.1.lost, .int .i64 F.2.1.repair, .int .i64 F.2.1.idle]) rfl
  have hbw9 : Below w8.heap.size w8 w9 := by rw [hw9]; exact (by repeat (first | (with_reducible exact Below.refl _ w8) | (with_reducible refine bdrewN ?_ _) | (with_reducible refine Below.drew ?_) | (with_reducible refine Below.setCell ?_ (by first | omega | (simp; done) | (simp; omega)) _) | (with_reducible refine Below.alloc ?_ (by first | omega | (simp; done) | (simp; omega)) _)))
  clear hw9
  clear k2_0 k2_1 k2_2 k2_3 k2_4 k2_5 k2_6 k2_s
  replace k2 := k2.at hbw9
  replace hi := Rd.at hi hbw9
  have HB8 := hid (HB7.out.trans (hbw9.mono HB7.out.size) : Below w.heap.size w w9)
  clear hbw9 HB7
  have k12 := k120
  clear k120
  (refine listF_abs ?_; intro s' hs'; have gl7 := congrFun hs' 7; simp only [updS_some, updS_none, Nat.reduceEqDiff, ↓reduceIte] at gl7; (try rw [sl7] at gl7); have gl11 := congrFun hs' 11; simp only [updS_some, updS_none, Nat.reduceEqDiff, ↓reduceIte] at gl11; (try rw [sl11] at gl11); have gl12 := congrFun hs' 12; simp only [updS_some, updS_none, Nat.reduceEqDiff, ↓reduceIte] at gl12; (try rw [sl12] at gl12); have gl52 := congrFun hs' 52; simp only [updS_some, updS_none, Nat.reduceEqDiff, ↓reduceIte] at gl52; (try rw [sl52] at gl52); have gl53 := congrFun hs' 53; simp only [updS_some, updS_none, Nat.reduceEqDiff, ↓reduceIte] at gl53; (try rw [sl53] at gl53); clear hs'; (try clear sl7); (try clear sl11); (try clear sl12); (try clear sl52); (try clear sl53); have sl7 := gl7; clear gl7; have sl11 := gl11; clear gl11; have sl12 := gl12; clear gl12; have sl52 := gl52; clear gl52; have sl53 := gl53; clear gl53)
  generalize w8.heap.size = B12 at *
  (refine listF_step rfl (fun K' hK => ?_); unfold opF; go_simp; refine (rBill_any W till aj af cj cf _ (HW.out.at HB8.out)).mono ?_; rintro e w10 ⟨a2, c2, rfl, hi2, hb10⟩; refine ⟨_, rfl, hK _ _ ?_⟩; clear hK K')
  rw [HF.out] at hi2 ⊢
  replace k2 := k2.at hb10
  replace k12 := k12.at hb10
  replace hi := Rd.at hi hb10
  have HB9 := hid (HB8.out.trans (hb10.mono HB8.out.size) : Below w.heap.size w w10)
  clear hb10 HB8
  (refine listF_abs ?_; intro s' hs'; have gl7 := congrFun hs' 7; simp only [updS_some, updS_none, Nat.reduceEqDiff, ↓reduceIte] at gl7; (try rw [sl7] at gl7); have gl11 := congrFun hs' 11; simp only [updS_some, updS_none, Nat.reduceEqDiff, ↓reduceIte] at gl11; (try rw [sl11] at gl11); have gl12 := congrFun hs' 12; simp only [updS_some, updS_none, Nat.reduceEqDiff, ↓reduceIte] at gl12; (try rw [sl12] at gl12); have gl54 := congrFun hs' 54; simp only [updS_some, updS_none, Nat.reduceEqDiff, ↓reduceIte] at gl54; (try rw [sl54] at gl54); clear hs'; (try clear sl7); (try clear sl11); (try clear sl12); (try clear sl54); have sl7 := gl7; clear gl7; have sl11 := gl11; clear gl11; have sl12 := gl12; clear gl12; have sl54 := gl54; clear gl54)
  repeat (first | ((first | (refine listF_step rfl (fun K' hK => ?_)) | (refine listF_yes rfl rfl (by decide) ?_ (fun K' hK => ?_); (focus (go_simp; done)))); unfold opF; go_simp; (refine hK _ _ ?_); clear hK K') | (refine listF_no (b' := true) rfl rfl (by decide) ?_ ?_ ?_; (focus (go_simp; done)); (focus rfl)) | (refine listF_no (b' := false) rfl rfl (by decide) ?_ ?_ ?_; (focus (go_simp; done)); (focus rfl)) | (refine listF_nu rfl rfl (by decide) ?_ ?_; (focus (go_simp; done))) | (refine listF_nil ?_) | (refine region_F ?_) | (refine cond_F true ?_ ?_; (focus (go_simp; done)); simp only [if_true]) | (refine cond_F false ?_ ?_; (focus (go_simp; done)); simp only [Bool.false_eq_true, if_false]) | (with_reducible go_step))
  clear k2
  refine listF_absw ?_
  intro w11 hw11
  have k140 : Cells w11 (w10.heap.size) [.int .i64 F.2.1.run, .int .i64 F.2.1.lost, .int .i64 F.2.1.repair, .int .i64 F.2.1.idle] := by rw [hw11]; exact Cells.new (cs := #[.int .i64 F.2.1.run, .int .i64 F.2.1.lost, .int .i64 F.2.1.repair, .int .i64 F.2.1.idle]) rfl
  have hbw11 : Below w10.heap.size w10 w11 := by rw [hw11]; exact (by repeat (first | (with_reducible exact Below.refl _ w10) | (with_reducible refine bdrewN ?_ _) | (with_reducible refine Below.drew ?_) | (with_reducible refine Below.setCell ?_ (by first | omega | (simp; done) | (simp; omega)) _) | (with_reducible refine Below.alloc ?_ (by first | omega | (simp; done) | (simp; omega)) _)))
  clear hw11
  replace k12 := k12.at hbw11
  replace hi := Rd.at hi hbw11
  replace hi2 := Rd.at hi2 hbw11
  have HB10 := hid (HB9.out.trans (hbw11.mono HB9.out.size) : Below w.heap.size w w11)
  clear hbw11 HB9
  have k14 := k140
  clear k140
  (refine listF_abs ?_; intro s' hs'; have gl7 := congrFun hs' 7; simp only [updS_some, updS_none, Nat.reduceEqDiff, ↓reduceIte] at gl7; (try rw [sl7] at gl7); have gl10 := congrFun hs' 10; simp only [updS_some, updS_none, Nat.reduceEqDiff, ↓reduceIte] at gl10; (try rw [sl10] at gl10); have gl11 := congrFun hs' 11; simp only [updS_some, updS_none, Nat.reduceEqDiff, ↓reduceIte] at gl11; (try rw [sl11] at gl11); have gl12 := congrFun hs' 12; simp only [updS_some, updS_none, Nat.reduceEqDiff, ↓reduceIte] at gl12; (try rw [sl12] at gl12); have gl13 := congrFun hs' 13; simp only [updS_some, updS_none, Nat.reduceEqDiff, ↓reduceIte] at gl13; (try rw [sl13] at gl13); have gl14 := congrFun hs' 14; simp only [updS_some, updS_none, Nat.reduceEqDiff, ↓reduceIte] at gl14; (try rw [sl14] at gl14); have gl58 := congrFun hs' 58; simp only [updS_some, updS_none, Nat.reduceEqDiff, ↓reduceIte] at gl58; (try rw [sl58] at gl58); have gl59 := congrFun hs' 59; simp only [updS_some, updS_none, Nat.reduceEqDiff, ↓reduceIte] at gl59; (try rw [sl59] at gl59); clear hs'; (try clear sl7); (try clear sl10); (try clear sl11); (try clear sl12); (try clear sl13); (try clear sl14); (try clear sl58); (try clear sl59); have sl7 := gl7; clear gl7; have sl10 := gl10; clear gl10; have sl11 := gl11; clear gl11; have sl12 := gl12; clear gl12; have sl13 := gl13; clear gl13; have sl14 := gl14; clear gl14; have sl58 := gl58; clear gl58; have sl59 := gl59; clear gl59)
  generalize w10.heap.size = B14 at *
  (refine listF_step rfl (fun K' hK => ?_); unfold opF; go_simp; refine (rints_any a1 a2 c1 c2 F.1 F.1 _ hd3 hd3 hi hi2).mono ?_; rintro e w12 ⟨rfl, hb12⟩; refine ⟨_, rfl, hK _ _ ?_⟩; clear hK K')
  rw [show decide (F.1 = F.1) = true from decide_eq_true rfl]
  replace k12 := k12.at hb12
  replace k14 := k14.at hb12
  have HB11 := hid (HB10.out.trans (hb12.mono HB10.out.size) : Below w.heap.size w w12)
  clear hb12 HB10
  have k12_0 := k12.cell 0 rfl
  have k12_1 := k12.cell 1 rfl
  have k12_2 := k12.cell 2 rfl
  have k12_3 := k12.cell 3 rfl
  have k12_s := k12.1
  have k14_0 := k14.cell 0 rfl
  have k14_1 := k14.cell 1 rfl
  have k14_2 := k14.cell 2 rfl
  have k14_3 := k14.cell 3 rfl
  have k14_s := k14.1
  have n6 : (F.2.2 == F.2.2) = true := by simp
  (refine listF_abs ?_; intro s' hs'; have gl7 := congrFun hs' 7; simp only [updS_some, updS_none, Nat.reduceEqDiff, ↓reduceIte] at gl7; (try rw [sl7] at gl7); have gl10 := congrFun hs' 10; simp only [updS_some, updS_none, Nat.reduceEqDiff, ↓reduceIte] at gl10; (try rw [sl10] at gl10); have gl12 := congrFun hs' 12; simp only [updS_some, updS_none, Nat.reduceEqDiff, ↓reduceIte] at gl12; (try rw [sl12] at gl12); have gl14 := congrFun hs' 14; simp only [updS_some, updS_none, Nat.reduceEqDiff, ↓reduceIte] at gl14; (try rw [sl14] at gl14); have gl60 := congrFun hs' 60; simp only [updS_some, updS_none, Nat.reduceEqDiff, ↓reduceIte] at gl60; (try rw [sl60] at gl60); clear hs'; (try clear sl7); (try clear sl10); (try clear sl12); (try clear sl14); (try clear sl60); have sl7 := gl7; clear gl7; have sl10 := gl10; clear gl10; have sl12 := gl12; clear gl12; have sl14 := gl14; clear gl14; have sl60 := gl60; clear gl60)
  repeat (first | ((first | (refine listF_step rfl (fun K' hK => ?_)) | (refine listF_yes rfl rfl (by decide) ?_ (fun K' hK => ?_); (focus (go_simp; done)))); unfold opF; go_simp; (refine hK _ _ ?_); clear hK K') | (refine listF_no (b' := true) rfl rfl (by decide) ?_ ?_ ?_; (focus (go_simp; done)); (focus rfl)) | (refine listF_no (b' := false) rfl rfl (by decide) ?_ ?_ ?_; (focus (go_simp; done)); (focus rfl)) | (refine listF_nu rfl rfl (by decide) ?_ ?_; (focus (go_simp; done))) | (refine listF_nil ?_) | (refine region_F ?_) | (refine cond_F true ?_ ?_; (focus (go_simp; done)); simp only [if_true]) | (refine cond_F false ?_ ?_; (focus (go_simp; done)); simp only [Bool.false_eq_true, if_false]) | (with_reducible go_step))
  (refine listF_yes rfl rfl (by decide) ?_ (fun K' hK => ?_); (focus (go_simp; done)); unfold opF; go_simp; refine (awake_any _).mono ?_; rintro e w13 ⟨rfl, hb13⟩; refine ⟨_, rfl, hK _ _ ?_⟩; clear hK K')
  clear k12_0 k12_1 k12_2 k12_3 k12_s k14_0 k14_1 k14_2 k14_3 k14_s
  have HB12 := hid (HB11.out.trans (hb13.mono HB11.out.size) : Below w.heap.size w w13)
  clear hb13 HB11
  repeat (first | ((first | (refine listF_step rfl (fun K' hK => ?_)) | (refine listF_yes rfl rfl (by decide) ?_ (fun K' hK => ?_); (focus (go_simp; done)))); unfold opF; go_simp; (refine hK _ _ ?_); clear hK K') | (refine listF_no (b' := true) rfl rfl (by decide) ?_ ?_ ?_; (focus (go_simp; done)); (focus rfl)) | (refine listF_no (b' := false) rfl rfl (by decide) ?_ ?_ ?_; (focus (go_simp; done)); (focus rfl)) | (refine listF_nu rfl rfl (by decide) ?_ ?_; (focus (go_simp; done))) | (refine listF_nil ?_) | (refine region_F ?_) | (refine cond_F true ?_ ?_; (focus (go_simp; done)); simp only [if_true]) | (refine cond_F false ?_ ?_; (focus (go_simp; done)); simp only [Bool.false_eq_true, if_false]) | (with_reducible go_step))
  exact ret_F (.bool true) (res1_F Try.results5 (by decide) (by go_simp)) ⟨rfl, HB12.out⟩

end Go.Proofs.Ytbjgebbfachgfaa
