/- QueueNexts: its walk. -/
import Derived.Test.YtbjgebbfachgfaacAw
import Derived.Test.YtbjgebbfachgfaacW37
import Derived.Test.YtbjgebbfachgfaacW32
set_option linter.unusedVariables false
set_option linter.unusedSimpArgs false
set_option linter.unusedSectionVars false
set_option linter.all false
namespace Go.Proofs.Ytbjgebbfachgfaa
open Go.RowKit

theorem nextRes_len (W : Work) (q : Qu) : (nextRes W q).2.1.jobs.length ≤ q.jobs.length := by
  unfold nextRes
  split
  · show (nextStep W q).2.jobs.length ≤ _
    unfold nextStep
    split
    · exact Nat.le_refl _
    · split
      · exact Nat.le_refl _
      · unfold runStep; split
        · exact Nat.le_refl _
        · simp
  · exact Nat.zero_le _

set_option maxRecDepth 100000 in
set_option maxHeartbeats 8000000 in
theorem nexts_walk (W : Work) (q : Qu) (aj af aq : Option Addr) (cj cf cq : Nat) (w : World) (hW : WorkIn w W aj af) (hq : RdSts w aq q.jobs) (hql : q.jobs.length ≤ 9223372036854775807) :
    Calls Try.prog 4 #[.agg #[.int .i64 W.rules.slice, .int .i64 W.rules.load, .int .i64 W.rules.dump, .int .i64 W.rules.patience, .int .i64 W.rules.rate, .slice aj W.jobs.length cj, .slice af W.faults.length cf], .agg #[.int .i64 q.now, .slice aq q.jobs.length cq]] w fun e w' => e = .returned (.bool true) ∧ Below w.heap.size w w' := by
  have HW := hid hW
  have Hq := hid hq
  have hnl : (nextRes W q).2.1.jobs.length ≤ 9223372036854775807 := by have := nextRes_len W q; omega
  clear hW hq hql
  refine enter_F Try.func4 rfl Try.ntmps4 (by simp) ?_
  intro s hs
  have sl0 : s 0 = .agg #[.int .i64 W.rules.slice, .int .i64 W.rules.load, .int .i64 W.rules.dump, .int .i64 W.rules.patience, .int .i64 W.rules.rate, .slice aj W.jobs.length cj, .slice af W.faults.length cf] := hs 0 (by simp)
  have sl1 : s 1 = .agg #[.int .i64 q.now, .slice aq q.jobs.length cq] := hs 1 (by simp)
  clear hs
  repeat (first | ((first | (refine listF_step rfl (fun K' hK => ?_)) | (refine listF_yes rfl rfl (by decide) ?_ (fun K' hK => ?_); (focus (go_simp; done)))); unfold opF; go_simp; (refine hK _ _ ?_); clear hK K') | (refine listF_no (b' := true) rfl rfl (by decide) ?_ ?_ ?_; (focus (go_simp; done)); (focus rfl)) | (refine listF_no (b' := false) rfl rfl (by decide) ?_ ?_ ?_; (focus (go_simp; done)); (focus rfl)) | (refine listF_nu rfl rfl (by decide) ?_ ?_; (focus (go_simp; done))) | (refine listF_nil ?_) | (refine region_F ?_) | (refine cond_F true ?_ ?_; (focus (go_simp; done)); simp only [if_true]) | (refine cond_F false ?_ ?_; (focus (go_simp; done)); simp only [Bool.false_eq_true, if_false]) | (with_reducible go_step))
  refine listF_absw ?_
  intro w1 hw1
  have k2 : Cells w1 w.heap.size #[.int .i64 W.rules.slice, .int .i64 W.rules.load, .int .i64 W.rules.dump, .int .i64 W.rules.patience, .int .i64 W.rules.rate, .slice aj W.jobs.length cj, .slice af W.faults.length cf].toList := by rw [hw1]; exact (Cells.new rfl).up _
  have k3 : Cells w1 (w.heap.size + 1) #[.int .i64 q.now, .slice aq q.jobs.length cq].toList := by rw [hw1]; exact Cells.new (by first | omega | (simp; done) | (simp; omega))
  have HB0 := hid (show Below w.heap.size w w1 by rw [hw1]; exact (by repeat (first | (with_reducible exact Below.refl _ w) | (with_reducible refine bdrewN ?_ _) | (with_reducible refine Below.drew ?_) | (with_reducible refine Below.setCell ?_ (by first | omega | (simp; done) | (simp; omega)) _) | (with_reducible refine Below.alloc ?_ (by first | omega | (simp; done) | (simp; omega)) _))))
  clear hw1
  (refine listF_abs ?_; intro s' hs'; have gl2 := congrFun hs' 2; simp only [updS_some, updS_none, Nat.reduceEqDiff, ↓reduceIte] at gl2; (try rw [sl2] at gl2); have gl3 := congrFun hs' 3; simp only [updS_some, updS_none, Nat.reduceEqDiff, ↓reduceIte] at gl3; (try rw [sl3] at gl3); have gl12 := congrFun hs' 12; simp only [updS_some, updS_none, Nat.reduceEqDiff, ↓reduceIte] at gl12; (try rw [sl12] at gl12); have gl13 := congrFun hs' 13; simp only [updS_some, updS_none, Nat.reduceEqDiff, ↓reduceIte] at gl13; (try rw [sl13] at gl13); clear hs'; (try clear sl2); (try clear sl3); (try clear sl12); (try clear sl13); have sl2 := gl2; clear gl2; have sl3 := gl3; clear gl3; have sl12 := gl12; clear gl12; have sl13 := gl13; clear gl13)
  (refine listF_step rfl (fun K' hK => ?_); unfold opF; go_simp; refine (qNext_any W q aj af aq cj cf cq _ (HW.out.at HB0.out) (Rd.at Hq.out HB0.out)).mono ?_; rintro e w2 ⟨a5, c5, rfl, hr, hb2⟩; refine ⟨_, rfl, hK _ _ ?_⟩; clear hK K')
  replace k2 := k2.at hb2
  replace k3 := k3.at hb2
  have HB1 := hid (HB0.out.trans (hb2.mono HB0.out.size) : Below w.heap.size w w2)
  clear hb2 HB0
  have k2_0 := k2.cell 0 rfl
  have k2_1 := k2.cell 1 rfl
  have k2_2 := k2.cell 2 rfl
  have k2_3 := k2.cell 3 rfl
  have k2_4 := k2.cell 4 rfl
  have k2_5 := k2.cell 5 rfl
  have k2_6 := k2.cell 6 rfl
  have k2_s := k2.1
  have k3_0 := k3.cell 0 rfl
  have k3_1 := k3.cell 1 rfl
  have k3_s := k3.1
  generalize hR : nextRes W q = R at *
  have HR := hid hR
  clear hR
  (refine listF_abs ?_; intro s' hs'; have gl2 := congrFun hs' 2; simp only [updS_some, updS_none, Nat.reduceEqDiff, ↓reduceIte] at gl2; (try rw [sl2] at gl2); have gl3 := congrFun hs' 3; simp only [updS_some, updS_none, Nat.reduceEqDiff, ↓reduceIte] at gl3; (try rw [sl3] at gl3); have gl14 := congrFun hs' 14; simp only [updS_some, updS_none, Nat.reduceEqDiff, ↓reduceIte] at gl14; (try rw [sl14] at gl14); clear hs'; (try clear sl2); (try clear sl3); (try clear sl14); have sl2 := gl2; clear gl2; have sl3 := gl3; clear gl3; have sl14 := gl14; clear gl14)
  repeat (first | ((first | (refine listF_step rfl (fun K' hK => ?_)) | (refine listF_yes rfl rfl (by decide) ?_ (fun K' hK => ?_); (focus (go_simp; done)))); unfold opF; go_simp; (refine hK _ _ ?_); clear hK K') | (refine listF_no (b' := true) rfl rfl (by decide) ?_ ?_ ?_; (focus (go_simp; done)); (focus rfl)) | (refine listF_no (b' := false) rfl rfl (by decide) ?_ ?_ ?_; (focus (go_simp; done)); (focus rfl)) | (refine listF_nu rfl rfl (by decide) ?_ ?_; (focus (go_simp; done))) | (refine listF_nil ?_) | (refine region_F ?_) | (refine cond_F true ?_ ?_; (focus (go_simp; done)); simp only [if_true]) | (refine cond_F false ?_ ?_; (focus (go_simp; done)); simp only [Bool.false_eq_true, if_false]) | (with_reducible go_step))
  refine listF_absw ?_
  intro w3 hw3
  have k50 : Cells w3 (w2.heap.size) [.int .i64 R.1.kind, .int .i64 R.1.job, .int .i64 R.1.from0, .int .i64 R.1.until0] := by rw [hw3]; exact (Cells.new (cs := #[.int .i64 R.1.kind, .int .i64 R.1.job, .int .i64 R.1.from0, .int .i64 R.1.until0]) rfl).up _
  have k60 : Cells w3 (w2.heap.size + 1) [.int .i64 R.2.1.now, .slice a5 R.2.1.jobs.length c5] := by rw [hw3]; exact Cells.new (cs := #[.int .i64 R.2.1.now, .slice a5 R.2.1.jobs.length c5]) (by first | omega | (simp; done) | (simp; omega))
  have hbw3 : Below w2.heap.size w2 w3 := by rw [hw3]; exact (by repeat (first | (with_reducible exact Below.refl _ w2) | (with_reducible refine bdrewN ?_ _) | (with_reducible refine Below.drew ?_) | (with_reducible refine Below.setCell ?_ (by first | omega | (simp; done) | (simp; omega)) _) | (with_reducible refine Below.alloc ?_ (by first | omega | (simp; done) | (simp; omega)) _)))
  clear hw3
  clear k2_0 k2_1 k2_2 k2_3 k2_4 k2_5 k2_6 k2_s k3_0 k3_1 k3_s
  replace k2 := k2.at hbw3
  replace k3 := k3.at hbw3
  replace hr := Rd.at hr hbw3
  have HB2 := hid (HB1.out.trans (hbw3.mono HB1.out.size) : Below w.heap.size w w3)
  clear hbw3 HB1
  have k5 := k50
  clear k50
  have k6 := k60
  clear k60
  (refine listF_abs ?_; intro s' hs'; have gl2 := congrFun hs' 2; simp only [updS_some, updS_none, Nat.reduceEqDiff, ↓reduceIte] at gl2; (try rw [sl2] at gl2); have gl3 := congrFun hs' 3; simp only [updS_some, updS_none, Nat.reduceEqDiff, ↓reduceIte] at gl3; (try rw [sl3] at gl3); have gl5 := congrFun hs' 5; simp only [updS_some, updS_none, Nat.reduceEqDiff, ↓reduceIte] at gl5; (try rw [sl5] at gl5); have gl6 := congrFun hs' 6; simp only [updS_some, updS_none, Nat.reduceEqDiff, ↓reduceIte] at gl6; (try rw [sl6] at gl6); have gl7 := congrFun hs' 7; simp only [updS_some, updS_none, Nat.reduceEqDiff, ↓reduceIte] at gl7; (try rw [sl7] at gl7); have gl19 := congrFun hs' 19; simp only [updS_some, updS_none, Nat.reduceEqDiff, ↓reduceIte] at gl19; (try rw [sl19] at gl19); have gl20 := congrFun hs' 20; simp only [updS_some, updS_none, Nat.reduceEqDiff, ↓reduceIte] at gl20; (try rw [sl20] at gl20); clear hs'; (try clear sl2); (try clear sl3); (try clear sl5); (try clear sl6); (try clear sl7); (try clear sl19); (try clear sl20); have sl2 := gl2; clear gl2; have sl3 := gl3; clear gl3; have sl5 := gl5; clear gl5; have sl6 := gl6; clear gl6; have sl7 := gl7; clear gl7; have sl19 := gl19; clear gl19; have sl20 := gl20; clear gl20)
  generalize w2.heap.size = B5 at *
  (refine listF_step rfl (fun K' hK => ?_); unfold opF; go_simp; refine (rNext_any W q aj af aq cj cf cq _ (HW.out.at HB2.out) (Rd.at Hq.out HB2.out)).mono ?_; rintro e w4 ⟨a8, c8, rfl, hr2, hb4⟩; refine ⟨_, rfl, hK _ _ ?_⟩; clear hK K')
  rw [HR.out] at *
  replace k2 := k2.at hb4
  replace k3 := k3.at hb4
  replace k5 := k5.at hb4
  replace k6 := k6.at hb4
  replace hr := Rd.at hr hb4
  have HB3 := hid (HB2.out.trans (hb4.mono HB2.out.size) : Below w.heap.size w w4)
  clear hb4 HB2
  (refine listF_abs ?_; intro s' hs'; have gl5 := congrFun hs' 5; simp only [updS_some, updS_none, Nat.reduceEqDiff, ↓reduceIte] at gl5; (try rw [sl5] at gl5); have gl6 := congrFun hs' 6; simp only [updS_some, updS_none, Nat.reduceEqDiff, ↓reduceIte] at gl6; (try rw [sl6] at gl6); have gl7 := congrFun hs' 7; simp only [updS_some, updS_none, Nat.reduceEqDiff, ↓reduceIte] at gl7; (try rw [sl7] at gl7); have gl21 := congrFun hs' 21; simp only [updS_some, updS_none, Nat.reduceEqDiff, ↓reduceIte] at gl21; (try rw [sl21] at gl21); clear hs'; (try clear sl5); (try clear sl6); (try clear sl7); (try clear sl21); have sl5 := gl5; clear gl5; have sl6 := gl6; clear gl6; have sl7 := gl7; clear gl7; have sl21 := gl21; clear gl21)
  repeat (first | ((first | (refine listF_step rfl (fun K' hK => ?_)) | (refine listF_yes rfl rfl (by decide) ?_ (fun K' hK => ?_); (focus (go_simp; done)))); unfold opF; go_simp; (refine hK _ _ ?_); clear hK K') | (refine listF_no (b' := true) rfl rfl (by decide) ?_ ?_ ?_; (focus (go_simp; done)); (focus rfl)) | (refine listF_no (b' := false) rfl rfl (by decide) ?_ ?_ ?_; (focus (go_simp; done)); (focus rfl)) | (refine listF_nu rfl rfl (by decide) ?_ ?_; (focus (go_simp; done))) | (refine listF_nil ?_) | (refine region_F ?_) | (refine cond_F true ?_ ?_; (focus (go_simp; done)); simp only [if_true]) | (refine cond_F false ?_ ?_; (focus (go_simp; done)); simp only [Bool.false_eq_true, if_false]) | (with_reducible go_step))
  clear k2 k3
  refine listF_absw ?_
  intro w5 hw5
  have k80 : Cells w5 (w4.heap.size) [.int .i64 R.1.kind, .int .i64 R.1.job, .int .i64 R.1.from0, .int .i64 R.1.until0] := by rw [hw5]; exact (Cells.new (cs := #[.int .i64 R.1.kind, .int .i64 R.1.job, .int .i64 R.1.from0, .int .i64 R.1.until0]) rfl).up _
  have k90 : Cells w5 (w4.heap.size + 1) [.int .i64 R.2.1.now, .slice a8 R.2.1.jobs.length c8] := by rw [hw5]; exact Cells.new (cs := #[.int .i64 R.2.1.now, .slice a8 R.2.1.jobs.length c8]) (by first | omega | (simp; done) | (simp; omega))
  have hbw5 : Below w4.heap.size w4 w5 := by rw [hw5]; exact (by repeat (first | (with_reducible exact Below.refl _ w4) | (with_reducible refine bdrewN ?_ _) | (with_reducible refine Below.drew ?_) | (with_reducible refine Below.setCell ?_ (by first | omega | (simp; done) | (simp; omega)) _) | (with_reducible refine Below.alloc ?_ (by first | omega | (simp; done) | (simp; omega)) _)))
  clear hw5
  replace k5 := k5.at hbw5
  replace k6 := k6.at hbw5
  replace hr := Rd.at hr hbw5
  replace hr2 := Rd.at hr2 hbw5
  have HB4 := hid (HB3.out.trans (hbw5.mono HB3.out.size) : Below w.heap.size w w5)
  clear hbw5 HB3
  have k8 := k80
  clear k80
  have k9 := k90
  clear k90
  (refine listF_abs ?_; intro s' hs'; have gl5 := congrFun hs' 5; simp only [updS_some, updS_none, Nat.reduceEqDiff, ↓reduceIte] at gl5; (try rw [sl5] at gl5); have gl6 := congrFun hs' 6; simp only [updS_some, updS_none, Nat.reduceEqDiff, ↓reduceIte] at gl6; (try rw [sl6] at gl6); have gl7 := congrFun hs' 7; simp only [updS_some, updS_none, Nat.reduceEqDiff, ↓reduceIte] at gl7; (try rw [sl7] at gl7); have gl8 := congrFun hs' 8; simp only [updS_some, updS_none, Nat.reduceEqDiff, ↓reduceIte] at gl8; (try rw [sl8] at gl8); have gl9 := congrFun hs' 9; simp only [updS_some, updS_none, Nat.reduceEqDiff, ↓reduceIte] at gl9; (try rw [sl9] at gl9); have gl10 := congrFun hs' 10; simp only [updS_some, updS_none, Nat.reduceEqDiff, ↓reduceIte] at gl10; (try rw [sl10] at gl10); clear hs'; (try clear sl5); (try clear sl6); (try clear sl7); (try clear sl8); (try clear sl9); (try clear sl10); have sl5 := gl5; clear gl5; have sl6 := gl6; clear gl6; have sl7 := gl7; clear gl7; have sl8 := gl8; clear gl8; have sl9 := gl9; clear gl9; have sl10 := gl10; clear gl10)
  generalize w4.heap.size = B8 at *
  have k5_0 := k5.cell 0 rfl
  have k5_1 := k5.cell 1 rfl
  have k5_2 := k5.cell 2 rfl
  have k5_3 := k5.cell 3 rfl
  have k5_s := k5.1
  have k6_0 := k6.cell 0 rfl
  have k6_1 := k6.cell 1 rfl
  have k6_s := k6.1
  have k8_0 := k8.cell 0 rfl
  have k8_1 := k8.cell 1 rfl
  have k8_2 := k8.cell 2 rfl
  have k8_3 := k8.cell 3 rfl
  have k8_s := k8.1
  have k9_0 := k9.cell 0 rfl
  have k9_1 := k9.cell 1 rfl
  have k9_s := k9.1
  have n5 : (R.2.2 == R.2.2) = true := by simp
  repeat (first | ((first | (refine listF_step rfl (fun K' hK => ?_)) | (refine listF_yes rfl rfl (by decide) ?_ (fun K' hK => ?_); (focus (go_simp; done)))); unfold opF; go_simp; (refine hK _ _ ?_); clear hK K') | (refine listF_no (b' := true) rfl rfl (by decide) ?_ ?_ ?_; (focus (go_simp; done)); (focus rfl)) | (refine listF_no (b' := false) rfl rfl (by decide) ?_ ?_ ?_; (focus (go_simp; done)); (focus rfl)) | (refine listF_nu rfl rfl (by decide) ?_ ?_; (focus (go_simp; done))) | (refine listF_nil ?_) | (refine region_F ?_) | (refine cond_F true ?_ ?_; (focus (go_simp; done)); simp only [if_true]) | (refine cond_F false ?_ ?_; (focus (go_simp; done)); simp only [Bool.false_eq_true, if_false]) | (with_reducible go_step))
  (refine listF_yes rfl rfl (by decide) ?_ (fun K' hK => ?_); (focus (go_simp; done)); unfold opF; go_simp; refine (rqueues_any R.2.1.now R.2.1.now a5 a8 c5 c8 R.2.1.jobs R.2.1.jobs _ hnl hnl hr hr2).mono ?_; rintro e w6 ⟨rfl, hb6⟩; refine ⟨_, rfl, hK _ _ ?_⟩; clear hK K')
  rw [show decide ((⟨R.2.1.now, R.2.1.jobs⟩ : Qu) = ⟨R.2.1.now, R.2.1.jobs⟩) = true from decide_eq_true rfl]
  clear k5_0 k5_1 k5_2 k5_3 k5_s k6_0 k6_1 k6_s k8_0 k8_1 k8_2 k8_3 k8_s k9_0 k9_1 k9_s
  have HB5 := hid (HB4.out.trans (hb6.mono HB4.out.size) : Below w.heap.size w w6)
  clear hb6 HB4
  (refine listF_abs ?_; intro s' hs'; have gl7 := congrFun hs' 7; simp only [updS_some, updS_none, Nat.reduceEqDiff, ↓reduceIte] at gl7; (try rw [sl7] at gl7); have gl10 := congrFun hs' 10; simp only [updS_some, updS_none, Nat.reduceEqDiff, ↓reduceIte] at gl10; (try rw [sl10] at gl10); have gl28 := congrFun hs' 28; simp only [updS_some, updS_none, Nat.reduceEqDiff, ↓reduceIte] at gl28; (try rw [sl28] at gl28); have gl31 := congrFun hs' 31; simp only [updS_some, updS_none, Nat.reduceEqDiff, ↓reduceIte] at gl31; (try rw [sl31] at gl31); clear hs'; (try clear sl7); (try clear sl10); (try clear sl28); (try clear sl31); have sl7 := gl7; clear gl7; have sl10 := gl10; clear gl10; have sl28 := gl28; clear gl28; have sl31 := gl31; clear gl31)
  repeat (first | ((first | (refine listF_step rfl (fun K' hK => ?_)) | (refine listF_yes rfl rfl (by decide) ?_ (fun K' hK => ?_); (focus (go_simp; done)))); unfold opF; go_simp; (refine hK _ _ ?_); clear hK K') | (refine listF_no (b' := true) rfl rfl (by decide) ?_ ?_ ?_; (focus (go_simp; done)); (focus rfl)) | (refine listF_no (b' := false) rfl rfl (by decide) ?_ ?_ ?_; (focus (go_simp; done)); (focus rfl)) | (refine listF_nu rfl rfl (by decide) ?_ ?_; (focus (go_simp; done))) | (refine listF_nil ?_) | (refine region_F ?_) | (refine cond_F true ?_ ?_; (focus (go_simp; done)); simp only [if_true]) | (refine cond_F false ?_ ?_; (focus (go_simp; done)); simp only [Bool.false_eq_true, if_false]) | (with_reducible go_step))
  (refine listF_yes rfl rfl (by decide) ?_ (fun K' hK => ?_); (focus (go_simp; done)); unfold opF; go_simp; refine (awake_any _).mono ?_; rintro e w7 ⟨rfl, hb7⟩; refine ⟨_, rfl, hK _ _ ?_⟩; clear hK K')
  have HB6 := hid (HB5.out.trans (hb7.mono HB5.out.size) : Below w.heap.size w w7)
  clear hb7 HB5
  repeat (first | ((first | (refine listF_step rfl (fun K' hK => ?_)) | (refine listF_yes rfl rfl (by decide) ?_ (fun K' hK => ?_); (focus (go_simp; done)))); unfold opF; go_simp; (refine hK _ _ ?_); clear hK K') | (refine listF_no (b' := true) rfl rfl (by decide) ?_ ?_ ?_; (focus (go_simp; done)); (focus rfl)) | (refine listF_no (b' := false) rfl rfl (by decide) ?_ ?_ ?_; (focus (go_simp; done)); (focus rfl)) | (refine listF_nu rfl rfl (by decide) ?_ ?_; (focus (go_simp; done))) | (refine listF_nil ?_) | (refine region_F ?_) | (refine cond_F true ?_ ?_; (focus (go_simp; done)); simp only [if_true]) | (refine cond_F false ?_ ?_; (focus (go_simp; done)); simp only [Bool.false_eq_true, if_false]) | (with_reducible go_step))
  exact ret_F (.bool true) (res1_F Try.results4 (by decide) (by go_simp)) ⟨rfl, HB6.out⟩

end Go.Proofs.Ytbjgebbfachgfaa
