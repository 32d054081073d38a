/- QueueChecks: its walk. -/
import Derived.Test.YtbjgebbfachgfaacAw
import Derived.Test.YtbjgebbfachgfaacW36
set_option linter.unusedVariables false
set_option linter.unusedSimpArgs false
set_option linter.unusedSectionVars false
set_option linter.all false
namespace Go.Proofs.Ytbjgebbfachgfaa
open Go.RowKit

set_option maxRecDepth 100000 in
set_option maxHeartbeats 4000000 in
theorem checks_walk (W : Work) (aj af : Option Addr) (cj cf : Nat) (w : World) (hW : WorkIn w W aj af) :
    Calls Try.prog 3 #[.agg #[.int .i64 W.rules.slice, .int .i64 W.rules.load, .int .i64 W.rules.dump, .int .i64 W.rules.patience, .int .i64 W.rules.rate, .slice aj W.jobs.length cj, .slice af W.faults.length cf]] w fun e w' => e = .returned (.bool true) ∧ Below w.heap.size w w' := by
  have HW := hid hW
  have hjl : (begJobs W).length ≤ 9223372036854775807 := by
    unfold begJobs
    have := hW.jl
    split <;> simp <;> omega
  clear hW
  refine enter_F Try.func3 rfl Try.ntmps3 (by simp) ?_
  intro s hs
  have sl0 : s 0 = .agg #[.int .i64 W.rules.slice, .int .i64 W.rules.load, .int .i64 W.rules.dump, .int .i64 W.rules.patience, .int .i64 W.rules.rate, .slice aj W.jobs.length cj, .slice af W.faults.length cf] := hs 0 (by simp)
  clear hs
  repeat (first | ((first | (refine listF_step rfl (fun K' hK => ?_)) | (refine listF_yes rfl rfl (by decide) ?_ (fun K' hK => ?_); (focus (go_simp; done)))); unfold opF; go_simp; (refine hK _ _ ?_); clear hK K') | (refine listF_no (b' := true) rfl rfl (by decide) ?_ ?_ ?_; (focus (go_simp; done)); (focus rfl)) | (refine listF_no (b' := false) rfl rfl (by decide) ?_ ?_ ?_; (focus (go_simp; done)); (focus rfl)) | (refine listF_nu rfl rfl (by decide) ?_ ?_; (focus (go_simp; done))) | (refine listF_nil ?_) | (refine region_F ?_) | (refine cond_F true ?_ ?_; (focus (go_simp; done)); simp only [if_true]) | (refine cond_F false ?_ ?_; (focus (go_simp; done)); simp only [Bool.false_eq_true, if_false]) | (with_reducible go_step))
  (refine listF_step rfl (fun K' hK => ?_); unfold opF; go_simp; refine (qcheck_any W aj af cj cf _ (HW.out.at (by repeat (first | (with_reducible exact Below.refl _ w) | (with_reducible refine bdrewN ?_ _) | (with_reducible refine Below.drew ?_) | (with_reducible refine Below.setCell ?_ (by first | omega | (simp; done) | (simp; omega)) _) | (with_reducible refine Below.alloc ?_ (by first | omega | (simp; done) | (simp; omega)) _))))).mono ?_; rintro e w2 ⟨rfl, hb2⟩; refine ⟨_, rfl, hK _ _ ?_⟩; clear hK K')
  have k0 : Cells w2 w.heap.size #[.int .i64 W.rules.slice, .int .i64 W.rules.load, .int .i64 W.rules.dump, .int .i64 W.rules.patience, .int .i64 W.rules.rate, .slice aj W.jobs.length cj, .slice af W.faults.length cf].toList := (Cells.new rfl).at hb2
  have HB2 := hid (Below.trans (by repeat (first | (with_reducible exact Below.refl _ w) | (with_reducible refine bdrewN ?_ _) | (with_reducible refine Below.drew ?_) | (with_reducible refine Below.setCell ?_ (by first | omega | (simp; done) | (simp; omega)) _) | (with_reducible refine Below.alloc ?_ (by first | omega | (simp; done) | (simp; omega)) _))) (hb2.mono (by first | omega | (simp; done) | (simp; omega))) : Below w.heap.size w w2)
  have c00 := k0.cell 0 rfl
  have c01 := k0.cell 1 rfl
  have c02 := k0.cell 2 rfl
  have c03 := k0.cell 3 rfl
  have c04 := k0.cell 4 rfl
  have c05 := k0.cell 5 rfl
  have c06 := k0.cell 6 rfl
  have q0 := k0.1
  clear hb2
  (refine listF_abs ?_; intro s' hs'; have gl1 := congrFun hs' 1; simp only [updS_some, updS_none, Nat.reduceEqDiff, ↓reduceIte] at gl1; (try rw [sl1] at gl1); have gl13 := congrFun hs' 13; simp only [updS_some, updS_none, Nat.reduceEqDiff, ↓reduceIte] at gl13; (try rw [sl13] at gl13); clear hs'; (try clear sl1); (try clear sl13); have sl1 := gl1; clear gl1; have sl13 := gl13; clear gl13)
  repeat (first | ((first | (refine listF_step rfl (fun K' hK => ?_)) | (refine listF_yes rfl rfl (by decide) ?_ (fun K' hK => ?_); (focus (go_simp; done)))); unfold opF; go_simp; (refine hK _ _ ?_); clear hK K') | (refine listF_no (b' := true) rfl rfl (by decide) ?_ ?_ ?_; (focus (go_simp; done)); (focus rfl)) | (refine listF_no (b' := false) rfl rfl (by decide) ?_ ?_ ?_; (focus (go_simp; done)); (focus rfl)) | (refine listF_nu rfl rfl (by decide) ?_ ?_; (focus (go_simp; done))) | (refine listF_nil ?_) | (refine region_F ?_) | (refine cond_F true ?_ ?_; (focus (go_simp; done)); simp only [if_true]) | (refine cond_F false ?_ ?_; (focus (go_simp; done)); simp only [Bool.false_eq_true, if_false]) | (with_reducible go_step))
  (refine listF_abs ?_; intro s' hs'; have gl1 := congrFun hs' 1; simp only [updS_some, updS_none, Nat.reduceEqDiff, ↓reduceIte] at gl1; (try rw [sl1] at gl1); have gl3 := congrFun hs' 3; simp only [updS_some, updS_none, Nat.reduceEqDiff, ↓reduceIte] at gl3; (try rw [sl3] at gl3); have gl4 := congrFun hs' 4; simp only [updS_some, updS_none, Nat.reduceEqDiff, ↓reduceIte] at gl4; (try rw [sl4] at gl4); have gl5 := congrFun hs' 5; simp only [updS_some, updS_none, Nat.reduceEqDiff, ↓reduceIte] at gl5; (try rw [sl5] at gl5); have gl18 := congrFun hs' 18; simp only [updS_some, updS_none, Nat.reduceEqDiff, ↓reduceIte] at gl18; (try rw [sl18] at gl18); clear hs'; (try clear sl1); (try clear sl3); (try clear sl4); (try clear sl5); (try clear sl18); have sl1 := gl1; clear gl1; have sl3 := gl3; clear gl3; have sl4 := gl4; clear gl4; have sl5 := gl5; clear gl5; have sl18 := gl18; clear gl18)
  (refine listF_step rfl (fun K' hK => ?_); unfold opF; go_simp; refine (rcheck_any W aj af cj cf _ (HW.out.at HB2.out)).mono ?_; rintro e w3 ⟨rfl, hb3⟩; refine ⟨_, rfl, hK _ _ ?_⟩; clear hK K')
  replace k0 := k0.at hb3
  have HB3 := hid (HB2.out.trans (hb3.mono HB2.out.size) : Below w.heap.size w w3)
  clear c00 c01 c02 c03 c04 c05 c06 q0 hb3 HB2
  have c00 := k0.cell 0 rfl
  have c01 := k0.cell 1 rfl
  have c02 := k0.cell 2 rfl
  have c03 := k0.cell 3 rfl
  have c04 := k0.cell 4 rfl
  have c05 := k0.cell 5 rfl
  have c06 := k0.cell 6 rfl
  have q0 := k0.1
  (refine listF_abs ?_; intro s' hs'; have gl1 := congrFun hs' 1; simp only [updS_some, updS_none, Nat.reduceEqDiff, ↓reduceIte] at gl1; (try rw [sl1] at gl1); have gl3 := congrFun hs' 3; simp only [updS_some, updS_none, Nat.reduceEqDiff, ↓reduceIte] at gl3; (try rw [sl3] at gl3); have gl4 := congrFun hs' 4; simp only [updS_some, updS_none, Nat.reduceEqDiff, ↓reduceIte] at gl4; (try rw [sl4] at gl4); have gl5 := congrFun hs' 5; simp only [updS_some, updS_none, Nat.reduceEqDiff, ↓reduceIte] at gl5; (try rw [sl5] at gl5); have gl19 := congrFun hs' 19; simp only [updS_some, updS_none, Nat.reduceEqDiff, ↓reduceIte] at gl19; (try rw [sl19] at gl19); clear hs'; (try clear sl1); (try clear sl3); (try clear sl4); (try clear sl5); (try clear sl19); have sl1 := gl1; clear gl1; have sl3 := gl3; clear gl3; have sl4 := gl4; clear gl4; have sl5 := gl5; clear gl5; have sl19 := gl19; clear gl19)
  have n1 : ((check W).1 != (check W).1) = false := by simp
  have n2 : ((check W).2.1 != (check W).2.1) = false := by simp
  have n3 : ((check W).2.2 != (check W).2.2) = false := by simp
  repeat (first | ((first | (refine listF_step rfl (fun K' hK => ?_)) | (refine listF_yes rfl rfl (by decide) ?_ (fun K' hK => ?_); (focus (go_simp; done)))); unfold opF; go_simp; (refine hK _ _ ?_); clear hK K') | (refine listF_no (b' := true) rfl rfl (by decide) ?_ ?_ ?_; (focus (go_simp; done)); (focus rfl)) | (refine listF_no (b' := false) rfl rfl (by decide) ?_ ?_ ?_; (focus (go_simp; done)); (focus rfl)) | (refine listF_nu rfl rfl (by decide) ?_ ?_; (focus (go_simp; done))) | (refine listF_nil ?_) | (refine region_F ?_) | (refine cond_F true ?_ ?_; (focus (go_simp; done)); simp only [if_true]) | (refine cond_F false ?_ ?_; (focus (go_simp; done)); simp only [Bool.false_eq_true, if_false]) | (with_reducible go_step))
  (refine listF_abs ?_; intro s' hs'; have gl1 := congrFun hs' 1; simp only [updS_some, updS_none, Nat.reduceEqDiff, ↓reduceIte] at gl1; (try rw [sl1] at gl1); have gl37 := congrFun hs' 37; simp only [updS_some, updS_none, Nat.reduceEqDiff, ↓reduceIte] at gl37; (try rw [sl37] at gl37); clear hs'; (try clear sl1); (try clear sl37); have sl1 := gl1; clear gl1; have sl37 := gl37; clear gl37)
  (refine listF_step rfl (fun K' hK => ?_); unfold opF; go_simp; refine (qBegin_any W aj af cj cf _ (HW.out.at HB3.out)).mono ?_; rintro e w4 ⟨v0, rfl, ho, hb4⟩; refine ⟨_, rfl, hK _ _ ?_⟩; clear hK K')
  obtain ⟨a0, c0, rfl, hrd0, hfr0⟩ := Own.slice (f := St.cs) (m := 5) (fun _ => rfl) ho
  replace k0 := k0.at hb4
  have HB4 := hid (HB3.out.trans (hb4.mono HB3.out.size) : Below w.heap.size w w4)
  clear c00 c01 c02 c03 c04 c05 c06 q0 hb4 HB3 n1 n2 n3 ho hfr0
  have c00 := k0.cell 0 rfl
  have c01 := k0.cell 1 rfl
  have c02 := k0.cell 2 rfl
  have c03 := k0.cell 3 rfl
  have c04 := k0.cell 4 rfl
  have c05 := k0.cell 5 rfl
  have c06 := k0.cell 6 rfl
  have q0 := k0.1
  repeat (first | ((first | (refine listF_step rfl (fun K' hK => ?_)) | (refine listF_yes rfl rfl (by decide) ?_ (fun K' hK => ?_); (focus (go_simp; done)))); unfold opF; go_simp; (refine hK _ _ ?_); clear hK K') | (refine listF_no (b' := true) rfl rfl (by decide) ?_ ?_ ?_; (focus (go_simp; done)); (focus rfl)) | (refine listF_no (b' := false) rfl rfl (by decide) ?_ ?_ ?_; (focus (go_simp; done)); (focus rfl)) | (refine listF_nu rfl rfl (by decide) ?_ ?_; (focus (go_simp; done))) | (refine listF_nil ?_) | (refine region_F ?_) | (refine cond_F true ?_ ?_; (focus (go_simp; done)); simp only [if_true]) | (refine cond_F false ?_ ?_; (focus (go_simp; done)); simp only [Bool.false_eq_true, if_false]) | (with_reducible go_step))
  refine listF_absw ?_
  intro w5 hw5
  have k9 : Cells w5 w4.heap.size [.int .i64 0, .slice a0 (begJobs W).length c0] := by rw [hw5]; exact Cells.new (cs := #[.int .i64 0, .slice a0 (begJobs W).length c0]) rfl
  have hb5 : Below w4.heap.size w4 w5 := by rw [hw5]; exact (by repeat (first | (with_reducible exact Below.refl _ w4) | (with_reducible refine bdrewN ?_ _) | (with_reducible refine Below.drew ?_) | (with_reducible refine Below.setCell ?_ (by first | omega | (simp; done) | (simp; omega)) _) | (with_reducible refine Below.alloc ?_ (by first | omega | (simp; done) | (simp; omega)) _)))
  replace k0 := k0.at hb5
  replace hrd0 := Rd.at hrd0 hb5
  have HB5 := hid (HB4.out.trans (hb5.mono HB4.out.size) : Below w.heap.size w w5)
  clear hw5 hb5 c00 c01 c02 c03 c04 c05 c06 q0 HB4
  have c00 := k0.cell 0 rfl
  have c01 := k0.cell 1 rfl
  have c02 := k0.cell 2 rfl
  have c03 := k0.cell 3 rfl
  have c04 := k0.cell 4 rfl
  have c05 := k0.cell 5 rfl
  have c06 := k0.cell 6 rfl
  have q0 := k0.1
  (refine listF_abs ?_; intro s' hs'; have gl1 := congrFun hs' 1; simp only [updS_some, updS_none, Nat.reduceEqDiff, ↓reduceIte] at gl1; (try rw [sl1] at gl1); have gl5 := congrFun hs' 5; simp only [updS_some, updS_none, Nat.reduceEqDiff, ↓reduceIte] at gl5; (try rw [sl5] at gl5); have gl9 := congrFun hs' 9; simp only [updS_some, updS_none, Nat.reduceEqDiff, ↓reduceIte] at gl9; (try rw [sl9] at gl9); have gl42 := congrFun hs' 42; simp only [updS_some, updS_none, Nat.reduceEqDiff, ↓reduceIte] at gl42; (try rw [sl42] at gl42); clear hs'; (try clear sl1); (try clear sl5); (try clear sl9); (try clear sl42); have sl1 := gl1; clear gl1; have sl5 := gl5; clear gl5; have sl9 := gl9; clear gl9; have sl42 := gl42; clear gl42)
  generalize w4.heap.size = B at *
  repeat (first | ((first | (refine listF_step rfl (fun K' hK => ?_)) | (refine listF_yes rfl rfl (by decide) ?_ (fun K' hK => ?_); (focus (go_simp; done)))); unfold opF; go_simp; (refine hK _ _ ?_); clear hK K') | (refine listF_no (b' := true) rfl rfl (by decide) ?_ ?_ ?_; (focus (go_simp; done)); (focus rfl)) | (refine listF_no (b' := false) rfl rfl (by decide) ?_ ?_ ?_; (focus (go_simp; done)); (focus rfl)) | (refine listF_nu rfl rfl (by decide) ?_ ?_; (focus (go_simp; done))) | (refine listF_nil ?_) | (refine region_F ?_) | (refine cond_F true ?_ ?_; (focus (go_simp; done)); simp only [if_true]) | (refine cond_F false ?_ ?_; (focus (go_simp; done)); simp only [Bool.false_eq_true, if_false]) | (with_reducible go_step))
  (refine listF_step rfl (fun K' hK => ?_); unfold opF; go_simp; refine (rBegin_any W aj af cj cf _ (HW.out.at HB5.out)).mono ?_; rintro e w6 ⟨v1, rfl, ho, hb6⟩; refine ⟨_, rfl, hK _ _ ?_⟩; clear hK K')
  obtain ⟨a1, c1, rfl, hrd1, hfr1⟩ := Own.slice (f := St.cs) (m := 5) (fun _ => rfl) ho
  replace k0 := k0.at hb6
  replace k9 := k9.at hb6
  replace hrd0 := Rd.at hrd0 hb6
  have HB6 := hid (HB5.out.trans (hb6.mono HB5.out.size) : Below w.heap.size w w6)
  clear c00 c01 c02 c03 c04 c05 c06 q0 hb6 HB5 ho hfr1
  repeat (first | ((first | (refine listF_step rfl (fun K' hK => ?_)) | (refine listF_yes rfl rfl (by decide) ?_ (fun K' hK => ?_); (focus (go_simp; done)))); unfold opF; go_simp; (refine hK _ _ ?_); clear hK K') | (refine listF_no (b' := true) rfl rfl (by decide) ?_ ?_ ?_; (focus (go_simp; done)); (focus rfl)) | (refine listF_no (b' := false) rfl rfl (by decide) ?_ ?_ ?_; (focus (go_simp; done)); (focus rfl)) | (refine listF_nu rfl rfl (by decide) ?_ ?_; (focus (go_simp; done))) | (refine listF_nil ?_) | (refine region_F ?_) | (refine cond_F true ?_ ?_; (focus (go_simp; done)); simp only [if_true]) | (refine cond_F false ?_ ?_; (focus (go_simp; done)); simp only [Bool.false_eq_true, if_false]) | (with_reducible go_step))
  refine listF_absw ?_
  intro w7 hw7
  have k10 : Cells w7 w6.heap.size [.int .i64 0, .slice a1 (begJobs W).length c1] := by rw [hw7]; exact Cells.new (cs := #[.int .i64 0, .slice a1 (begJobs W).length c1]) rfl
  have hb7 : Below w6.heap.size w6 w7 := by rw [hw7]; exact (by repeat (first | (with_reducible exact Below.refl _ w6) | (with_reducible refine bdrewN ?_ _) | (with_reducible refine Below.drew ?_) | (with_reducible refine Below.setCell ?_ (by first | omega | (simp; done) | (simp; omega)) _) | (with_reducible refine Below.alloc ?_ (by first | omega | (simp; done) | (simp; omega)) _)))
  replace k9 := k9.at hb7
  replace hrd0 := Rd.at hrd0 hb7
  replace hrd1 := Rd.at hrd1 hb7
  have HB7 := hid (HB6.out.trans (hb7.mono HB6.out.size) : Below w.heap.size w w7)
  clear hw7 hb7 HB6
  (refine listF_abs ?_; intro s' hs'; have gl5 := congrFun hs' 5; simp only [updS_some, updS_none, Nat.reduceEqDiff, ↓reduceIte] at gl5; (try rw [sl5] at gl5); have gl8 := congrFun hs' 8; simp only [updS_some, updS_none, Nat.reduceEqDiff, ↓reduceIte] at gl8; (try rw [sl8] at gl8); have gl9 := congrFun hs' 9; simp only [updS_some, updS_none, Nat.reduceEqDiff, ↓reduceIte] at gl9; (try rw [sl9] at gl9); have gl10 := congrFun hs' 10; simp only [updS_some, updS_none, Nat.reduceEqDiff, ↓reduceIte] at gl10; (try rw [sl10] at gl10); clear hs'; (try clear sl5); (try clear sl8); (try clear sl9); (try clear sl10); have sl5 := gl5; clear gl5; have sl8 := gl8; clear gl8; have sl9 := gl9; clear gl9; have sl10 := gl10; clear gl10)
  generalize w6.heap.size = B2 at *
  have d0 := k9.cell 0 rfl
  have d1 := k9.cell 1 rfl
  have e0 := k10.cell 0 rfl
  have e1 := k10.cell 1 rfl
  have j0 := k9.1
  have j1 := k10.1
  have n5 : (W.err == W.err) = true := by simp
  repeat (first | ((first | (refine listF_step rfl (fun K' hK => ?_)) | (refine listF_yes rfl rfl (by decide) ?_ (fun K' hK => ?_); (focus (go_simp; done)))); unfold opF; go_simp; (refine hK _ _ ?_); clear hK K') | (refine listF_no (b' := true) rfl rfl (by decide) ?_ ?_ ?_; (focus (go_simp; done)); (focus rfl)) | (refine listF_no (b' := false) rfl rfl (by decide) ?_ ?_ ?_; (focus (go_simp; done)); (focus rfl)) | (refine listF_nu rfl rfl (by decide) ?_ ?_; (focus (go_simp; done))) | (refine listF_nil ?_) | (refine region_F ?_) | (refine cond_F true ?_ ?_; (focus (go_simp; done)); simp only [if_true]) | (refine cond_F false ?_ ?_; (focus (go_simp; done)); simp only [Bool.false_eq_true, if_false]) | (with_reducible go_step))
  (refine listF_step rfl (fun K' hK => ?_); unfold opF; go_simp; refine (rqueues_any 0 0 a0 a1 c0 c1 (begJobs W) (begJobs W) _ hjl hjl hrd0 hrd1).mono ?_; rintro e w8 ⟨rfl, hb8⟩; refine ⟨_, rfl, hK _ _ ?_⟩; clear hK K')
  rw [show decide ((⟨0, begJobs W⟩ : Qu) = ⟨0, begJobs W⟩) = true from decide_eq_true rfl]
  have HB8 := hid (HB7.out.trans (hb8.mono HB7.out.size) : Below w.heap.size w w8)
  clear hb8 hrd0 hrd1 k9 k10 k0 d0 d1 e0 e1 j0 j1 HB7
  (refine listF_abs ?_; intro s' hs'; have gl5 := congrFun hs' 5; simp only [updS_some, updS_none, Nat.reduceEqDiff, ↓reduceIte] at gl5; (try rw [sl5] at gl5); have gl8 := congrFun hs' 8; simp only [updS_some, updS_none, Nat.reduceEqDiff, ↓reduceIte] at gl8; (try rw [sl8] at gl8); have gl48 := congrFun hs' 48; simp only [updS_some, updS_none, Nat.reduceEqDiff, ↓reduceIte] at gl48; (try rw [sl48] at gl48); clear hs'; (try clear sl5); (try clear sl8); (try clear sl48); have sl5 := gl5; clear gl5; have sl8 := gl8; clear gl8; have sl48 := gl48; clear gl48)
  repeat (first | ((first | (refine listF_step rfl (fun K' hK => ?_)) | (refine listF_yes rfl rfl (by decide) ?_ (fun K' hK => ?_); (focus (go_simp; done)))); unfold opF; go_simp; (refine hK _ _ ?_); clear hK K') | (refine listF_no (b' := true) rfl rfl (by decide) ?_ ?_ ?_; (focus (go_simp; done)); (focus rfl)) | (refine listF_no (b' := false) rfl rfl (by decide) ?_ ?_ ?_; (focus (go_simp; done)); (focus rfl)) | (refine listF_nu rfl rfl (by decide) ?_ ?_; (focus (go_simp; done))) | (refine listF_nil ?_) | (refine region_F ?_) | (refine cond_F true ?_ ?_; (focus (go_simp; done)); simp only [if_true]) | (refine cond_F false ?_ ?_; (focus (go_simp; done)); simp only [Bool.false_eq_true, if_false]) | (with_reducible go_step))
  (refine listF_yes rfl rfl (by decide) ?_ (fun K' hK => ?_); (focus (go_simp; done)); unfold opF; go_simp; refine (awake_any _).mono ?_; rintro e w9 ⟨rfl, hb9⟩; refine ⟨_, rfl, hK _ _ ?_⟩; clear hK K')
  have HB9 := hid (HB8.out.trans (hb9.mono HB8.out.size) : Below w.heap.size w w9)
  clear hb9
  repeat (first | ((first | (refine listF_step rfl (fun K' hK => ?_)) | (refine listF_yes rfl rfl (by decide) ?_ (fun K' hK => ?_); (focus (go_simp; done)))); unfold opF; go_simp; (refine hK _ _ ?_); clear hK K') | (refine listF_no (b' := true) rfl rfl (by decide) ?_ ?_ ?_; (focus (go_simp; done)); (focus rfl)) | (refine listF_no (b' := false) rfl rfl (by decide) ?_ ?_ ?_; (focus (go_simp; done)); (focus rfl)) | (refine listF_nu rfl rfl (by decide) ?_ ?_; (focus (go_simp; done))) | (refine listF_nil ?_) | (refine region_F ?_) | (refine cond_F true ?_ ?_; (focus (go_simp; done)); simp only [if_true]) | (refine cond_F false ?_ ?_; (focus (go_simp; done)); simp only [Bool.false_eq_true, if_false]) | (with_reducible go_step))
  exact ret_F (.bool true) (res1_F Try.results3 (by decide) (by go_simp)) ⟨rfl, HB9.out⟩

end Go.Proofs.Ytbjgebbfachgfaa
