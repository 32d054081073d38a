/- QueueKept: its walk. -/
import Derived.Test.YtbjgebbfachgfaacLP
set_option linter.unusedVariables false
set_option linter.unusedSimpArgs false
set_option linter.unusedSectionVars false
set_option linter.all false
namespace Go.Proofs.Ytbjgebbfachgfaa
open Go.RowKit

set_option maxRecDepth 100000 in
set_option maxHeartbeats 8000000 in
theorem kept_walk (W : Work) (till : Int) (aj af : Option Addr) (cj cf : Nat) (w : World) (hW : WorkIn w W aj af) (hl0 : 0 ≤ till) (hl1 : till ≤ 65535) :
    Calls Try.prog 11 #[.agg #[.int .i64 W.rules.slice, .int .i64 W.rules.load, .int .i64 W.rules.dump, .int .i64 W.rules.patience, .int .i64 W.rules.rate, .slice aj W.jobs.length cj, .slice af W.faults.length cf], .int .u16 till] w fun e w' => e = .returned (.bool true) ∧ Below w.heap.size w w' := by
  have HW := hid hW
  have hneq := run_neq_st
  clear hW
  refine enter_F Try.func11 rfl Try.ntmps11 (by simp) ?_
  intro s hs
  have sl0 : s 0 = .agg #[.int .i64 W.rules.slice, .int .i64 W.rules.load, .int .i64 W.rules.dump, .int .i64 W.rules.patience, .int .i64 W.rules.rate, .slice aj W.jobs.length cj, .slice af W.faults.length cf] := hs 0 (by simp)
  have sl1 : s 1 = .int .u16 till := hs 1 (by simp)
  clear hs
  repeat (first | ((first | (refine listF_step rfl (fun K' hK => ?_)) | (refine listF_yes rfl rfl (by decide) ?_ (fun K' hK => ?_); (focus (go_simp; done)))); unfold opF; go_simp; (refine hK _ _ ?_); clear hK K') | (refine listF_no (b' := true) rfl rfl (by decide) ?_ ?_ ?_; (focus (go_simp; done)); (focus rfl)) | (refine listF_no (b' := false) rfl rfl (by decide) ?_ ?_ ?_; (focus (go_simp; done)); (focus rfl)) | (refine listF_nu rfl rfl (by decide) ?_ ?_; (focus (go_simp; done))) | (refine listF_nil ?_) | (refine region_F ?_) | (refine cond_F true ?_ ?_; (focus (go_simp; done)); simp only [if_true]) | (refine cond_F false ?_ ?_; (focus (go_simp; done)); simp only [Bool.false_eq_true, if_false]) | (with_reducible go_step))
  refine listF_absw ?_
  intro w1 hw1
  have k2 : Cells w1 w.heap.size #[.int .i64 W.rules.slice, .int .i64 W.rules.load, .int .i64 W.rules.dump, .int .i64 W.rules.patience, .int .i64 W.rules.rate, .slice aj W.jobs.length cj, .slice af W.faults.length cf].toList := by rw [hw1]; exact Cells.new rfl
  have HB0 := hid (show Below w.heap.size w w1 by rw [hw1]; exact (by repeat (first | (with_reducible exact Below.refl _ w) | (with_reducible refine bdrewN ?_ _) | (with_reducible refine Below.drew ?_) | (with_reducible refine Below.setCell ?_ (by first | omega | (simp; done) | (simp; omega)) _) | (with_reducible refine Below.alloc ?_ (by first | omega | (simp; done) | (simp; omega)) _))))
  clear hw1
  (refine listF_abs ?_; intro s' hs'; have gl1 := congrFun hs' 1; simp only [updS_some, updS_none, Nat.reduceEqDiff, ↓reduceIte] at gl1; (try rw [sl1] at gl1); have gl2 := congrFun hs' 2; simp only [updS_some, updS_none, Nat.reduceEqDiff, ↓reduceIte] at gl2; (try rw [sl2] at gl2); have gl4 := congrFun hs' 4; simp only [updS_some, updS_none, Nat.reduceEqDiff, ↓reduceIte] at gl4; (try rw [sl4] at gl4); have gl14 := congrFun hs' 14; simp only [updS_some, updS_none, Nat.reduceEqDiff, ↓reduceIte] at gl14; (try rw [sl14] at gl14); clear hs'; (try clear sl1); (try clear sl2); (try clear sl4); (try clear sl14); have sl1 := gl1; clear gl1; have sl2 := gl2; clear gl2; have sl4 := gl4; clear gl4; have sl14 := gl14; clear gl14)
  (refine listF_step rfl (fun K' hK => ?_); unfold opF; go_simp; refine (qBegin_any W aj af cj cf _ (HW.out.at HB0.out)).mono ?_; rintro e w2 ⟨v0, rfl, ho, hb2⟩; refine ⟨_, rfl, hK _ _ ?_⟩; clear hK K')
  obtain ⟨a0, c0, rfl, hrd0, hfr0⟩ := Own.slice (f := St.cs) (m := 5) (fun _ => rfl) ho
  clear ho hfr0
  replace k2 := k2.at hb2
  have HB1 := hid (HB0.out.trans (hb2.mono HB0.out.size) : Below w.heap.size w w2)
  clear hb2 HB0
  by_cases he : W.err = 0
  · have He := hid he
    have HK := hid (wok_of_err he)
    have hE' : (W.err != 0) = false := by simp [he]
    rw [begJobs_ok he] at hrd0 ⊢
    clear he
    have k2_0 := k2.cell 0 rfl
    have k2_1 := k2.cell 1 rfl
    have k2_2 := k2.cell 2 rfl
    have k2_3 := k2.cell 3 rfl
    have k2_4 := k2.cell 4 rfl
    have k2_5 := k2.cell 5 rfl
    have k2_6 := k2.cell 6 rfl
    have k2_s := k2.1
    (refine listF_abs ?_; intro s' hs'; have gl1 := congrFun hs' 1; simp only [updS_some, updS_none, Nat.reduceEqDiff, ↓reduceIte] at gl1; (try rw [sl1] at gl1); have gl2 := congrFun hs' 2; simp only [updS_some, updS_none, Nat.reduceEqDiff, ↓reduceIte] at gl2; (try rw [sl2] at gl2); have gl4 := congrFun hs' 4; simp only [updS_some, updS_none, Nat.reduceEqDiff, ↓reduceIte] at gl4; (try rw [sl4] at gl4); have gl15 := congrFun hs' 15; simp only [updS_some, updS_none, Nat.reduceEqDiff, ↓reduceIte] at gl15; (try rw [sl15] at gl15); clear hs'; (try clear sl1); (try clear sl2); (try clear sl4); (try clear sl15); have sl1 := gl1; clear gl1; have sl2 := gl2; clear gl2; have sl4 := gl4; clear gl4; have sl15 := gl15; clear gl15)
    repeat (first | ((first | (refine listF_step rfl (fun K' hK => ?_)) | (refine listF_yes rfl rfl (by decide) ?_ (fun K' hK => ?_); (focus (go_simp; done)))); unfold opF; go_simp; (refine hK _ _ ?_); clear hK K') | (refine listF_no (b' := true) rfl rfl (by decide) ?_ ?_ ?_; (focus (go_simp; done)); (focus rfl)) | (refine listF_no (b' := false) rfl rfl (by decide) ?_ ?_ ?_; (focus (go_simp; done)); (focus rfl)) | (refine listF_nu rfl rfl (by decide) ?_ ?_; (focus (go_simp; done))) | (refine listF_nil ?_) | (refine region_F ?_) | (refine cond_F true ?_ ?_; (focus (go_simp; done)); simp only [if_true]) | (refine cond_F false ?_ ?_; (focus (go_simp; done)); simp only [Bool.false_eq_true, if_false]) | (with_reducible go_step))
    refine listF_absw ?_
    intro w3 hw3
    have k5 : Cells w3 w2.heap.size [.int .i64 0, .slice a0 (beginQ W).jobs.length c0] := by rw [hw3]; exact Cells.new (cs := #[.int .i64 0, .slice a0 (beginQ W).jobs.length c0]) rfl
    have hbw3 : Below w2.heap.size w2 w3 := by rw [hw3]; exact (by repeat (first | (with_reducible exact Below.refl _ w2) | (with_reducible refine bdrewN ?_ _) | (with_reducible refine Below.drew ?_) | (with_reducible refine Below.setCell ?_ (by first | omega | (simp; done) | (simp; omega)) _) | (with_reducible refine Below.alloc ?_ (by first | omega | (simp; done) | (simp; omega)) _)))
    clear hw3
    clear k2_0 k2_1 k2_2 k2_3 k2_4 k2_5 k2_6 k2_s
    have hs2 : w.heap.size < w2.heap.size := k2.1
    replace k2 := k2.at hbw3
    replace hrd0 := Rd.at hrd0 hbw3
    have HB2 := hid (HB1.out.trans (hbw3.mono HB1.out.size) : Below w.heap.size w w3)
    clear hbw3 HB1 hE'
    generalize w2.heap.size = B5 at *
    (refine listF_abs ?_; intro s' hs'; have gl1 := congrFun hs' 1; simp only [updS_some, updS_none, Nat.reduceEqDiff, ↓reduceIte] at gl1; (try rw [sl1] at gl1); have gl2 := congrFun hs' 2; simp only [updS_some, updS_none, Nat.reduceEqDiff, ↓reduceIte] at gl2; (try rw [sl2] at gl2); have gl5 := congrFun hs' 5; simp only [updS_some, updS_none, Nat.reduceEqDiff, ↓reduceIte] at gl5; (try rw [sl5] at gl5); have gl27 := congrFun hs' 27; simp only [updS_some, updS_none, Nat.reduceEqDiff, ↓reduceIte] at gl27; (try rw [sl27] at gl27); clear hs'; (try clear sl1); (try clear sl2); (try clear sl5); (try clear sl27); have sl1 := gl1; clear gl1; have sl2 := gl2; clear gl2; have sl5 := gl5; clear gl5; have sl27 := gl27; clear gl27)
    (refine listF_step rfl (fun K' hK => ?_); unfold opF; go_simp; refine (valid_any W aj af cj cf _ (HW.out.at HB2.out)).mono ?_; rintro e w4 ⟨rfl, hb4⟩; refine ⟨_, rfl, hK _ _ ?_⟩; clear hK K')
    rw [show (W.err == 0) = true by simp [He.out]]
    replace k2 := k2.at hb4
    replace k5 := k5.at hb4
    replace hrd0 := Rd.at hrd0 hb4
    have HB3 := hid (HB2.out.trans (hb4.mono HB2.out.size) : Below w.heap.size w w4)
    clear hb4 HB2
    (refine listF_abs ?_; intro s' hs'; have gl1 := congrFun hs' 1; simp only [updS_some, updS_none, Nat.reduceEqDiff, ↓reduceIte] at gl1; (try rw [sl1] at gl1); have gl2 := congrFun hs' 2; simp only [updS_some, updS_none, Nat.reduceEqDiff, ↓reduceIte] at gl2; (try rw [sl2] at gl2); have gl5 := congrFun hs' 5; simp only [updS_some, updS_none, Nat.reduceEqDiff, ↓reduceIte] at gl5; (try rw [sl5] at gl5); have gl28 := congrFun hs' 28; simp only [updS_some, updS_none, Nat.reduceEqDiff, ↓reduceIte] at gl28; (try rw [sl28] at gl28); clear hs'; (try clear sl1); (try clear sl2); (try clear sl5); (try clear sl28); have sl1 := gl1; clear gl1; have sl2 := gl2; clear gl2; have sl5 := gl5; clear gl5; have sl28 := gl28; clear gl28)
    repeat (first | ((first | (refine listF_step rfl (fun K' hK => ?_)) | (refine listF_yes rfl rfl (by decide) ?_ (fun K' hK => ?_); (focus (go_simp; done)))); unfold opF; go_simp; (refine hK _ _ ?_); clear hK K') | (refine listF_no (b' := true) rfl rfl (by decide) ?_ ?_ ?_; (focus (go_simp; done)); (focus rfl)) | (refine listF_no (b' := false) rfl rfl (by decide) ?_ ?_ ?_; (focus (go_simp; done)); (focus rfl)) | (refine listF_nu rfl rfl (by decide) ?_ ?_; (focus (go_simp; done))) | (refine listF_nil ?_) | (refine region_F ?_) | (refine cond_F true ?_ ?_; (focus (go_simp; done)); simp only [if_true]) | (refine cond_F false ?_ ?_; (focus (go_simp; done)); simp only [Bool.false_eq_true, if_false]) | (with_reducible go_step))
    (refine wp_abs ?_; intro s' hs'; have gl1 := congrFun hs' 1; simp only [updS_some, updS_none, Nat.reduceEqDiff, ↓reduceIte] at gl1; (try rw [sl1] at gl1); have gl2 := congrFun hs' 2; simp only [updS_some, updS_none, Nat.reduceEqDiff, ↓reduceIte] at gl2; (try rw [sl2] at gl2); have gl5 := congrFun hs' 5; simp only [updS_some, updS_none, Nat.reduceEqDiff, ↓reduceIte] at gl5; (try rw [sl5] at gl5); clear hs'; (try clear sl1); (try clear sl2); (try clear sl5); have sl1 := gl1; clear gl1; have sl2 := gl2; clear gl2; have sl5 := gl5; clear gl5)
    obtain ⟨T, hT⟩ : ∃ T, till.tmod 5001 = T := ⟨_, rfl⟩
    have hT5 : T ≤ 5000 := by have := Int.tmod_lt_of_pos till (show (0 : Int) < 5001 by omega); omega
    have hT0 : 0 ≤ T := by rw [← hT]; exact Int.tmod_nonneg _ hl0
    have HT := hid hT
    clear hT
    refine loop_F (n := 148) (fun m s wr => ∃ (lst : List Spell) (qc : Qu) (a : Option Addr) (c : Nat), DayI W T m lst qc ∧ s 1 = .int .u16 till ∧ s 2 = .pointer (some ⟨w.heap.size, 0, none⟩) ∧ s 5 = .pointer (some ⟨B5, 0, none⟩) ∧
      Cells wr B5 [.int .i64 qc.now, .slice a qc.jobs.length c] ∧ RdSts wr a qc.jobs ∧ Cells wr w.heap.size #[.int .i64 W.rules.slice, .int .i64 W.rules.load, .int .i64 W.rules.dump, .int .i64 W.rules.patience, .int .i64 W.rules.rate, .slice aj W.jobs.length cj, .slice af W.faults.length cf].toList ∧ Below w.heap.size w wr) (k0 := T.toNat) ⟨[], beginQ W, a0, c0, DayI.start HK.out, sl1, sl2, sl5, k5, hrd0, k2, HB3.out⟩ ?_
    clear sl1 sl2 sl5 k5 hrd0 k2 HB3
    rintro m s wr ⟨lst, qc, a, c, hDI, sl1, sl2, sl5, k5, hqc, k2, hB⟩
    have hjl := hDI.ok.len
    have hjw := HK.out.jl
    have hlm : qc.jobs.length ≤ 12 := by omega
    have HDI := hid hDI
    have Hjl := hid hjl
    have HB := hid hB
    clear hDI hjl hB
    have k5_0 := k5.cell 0 rfl
    have k5_1 := k5.cell 1 rfl
    have k5_s := k5.1
    repeat (first | (refine wp_seq_k (fun K' hK' => ?_)) | (refine wp_block ?_))
    refine cut_F (fun s w5 => s 1 = .int .u16 till ∧ s 2 = .pointer (some ⟨w.heap.size, 0, none⟩) ∧ s 5 = .pointer (some ⟨B5, 0, none⟩) ∧ s 39 = .bool (decide (qc.now < T) && waits qc.jobs) ∧ Below wr.heap.size wr w5) ?_ ?_
    · have hT1 := HT.out
      have hwl : IntKind.i64.wrap till = till := IntWalk.i64_in _ (by omega)
      have hwT : IntKind.i64.wrap T = T := IntWalk.i64_in _ (by omega)
      rcases dec_or (qc.now < T) with t1 | t1
      · repeat (first | ((first | (refine listF_step rfl (fun K' hK => ?_)) | (refine listF_yes rfl rfl (by decide) ?_ (fun K' hK => ?_); (focus (go_simp; done)))); unfold opF; go_simp; (refine hK _ _ ?_); clear hK K') | (refine listF_no (b' := true) rfl rfl (by decide) ?_ ?_ ?_; (focus (go_simp; done)); (focus rfl)) | (refine listF_no (b' := false) rfl rfl (by decide) ?_ ?_ ?_; (focus (go_simp; done)); (focus rfl)) | (refine listF_nu rfl rfl (by decide) ?_ ?_; (focus (go_simp; done))) | (refine listF_nil ?_) | (refine region_F ?_) | (refine cond_F true ?_ ?_; (focus (go_simp; done)); simp only [if_true]) | (refine cond_F false ?_ ?_; (focus (go_simp; done)); simp only [Bool.false_eq_true, if_false]) | (with_reducible go_step))
        (refine listF_yes rfl rfl (by decide) ?_ (fun K' hK => ?_); (focus (go_simp; done)); unfold opF; go_simp; refine (rwaits_any qc.now a c qc.jobs _ (by omega) hqc).mono ?_; rintro e w5 ⟨rfl, hb5⟩; refine ⟨_, rfl, hK _ _ ?_⟩; clear hK K')
        repeat (first | ((first | (refine listF_step rfl (fun K' hK => ?_)) | (refine listF_yes rfl rfl (by decide) ?_ (fun K' hK => ?_); (focus (go_simp; done)))); unfold opF; go_simp; (refine hK _ _ ?_); clear hK K') | (refine listF_no (b' := true) rfl rfl (by decide) ?_ ?_ ?_; (focus (go_simp; done)); (focus rfl)) | (refine listF_no (b' := false) rfl rfl (by decide) ?_ ?_ ?_; (focus (go_simp; done)); (focus rfl)) | (refine listF_nu rfl rfl (by decide) ?_ ?_; (focus (go_simp; done))) | (refine listF_nil ?_) | (refine region_F ?_) | (refine cond_F true ?_ ?_; (focus (go_simp; done)); simp only [if_true]) | (refine cond_F false ?_ ?_; (focus (go_simp; done)); simp only [Bool.false_eq_true, if_false]) | (with_reducible go_step))
        exact ⟨rfl, _, rfl, (by first | (go_simp; done) | exact sl1 | (simp only [updS_some, updS_none, Nat.reduceEqDiff, ↓reduceIte]; exact sl1)), (by first | (go_simp; done) | exact sl2 | (simp only [updS_some, updS_none, Nat.reduceEqDiff, ↓reduceIte]; exact sl2)), (by first | (go_simp; done) | exact sl5 | (simp only [updS_some, updS_none, Nat.reduceEqDiff, ↓reduceIte]; exact sl5)), (by first | (go_simp; done) | (go_simp; simp [t1])), hb5⟩
      · repeat (first | ((first | (refine listF_step rfl (fun K' hK => ?_)) | (refine listF_yes rfl rfl (by decide) ?_ (fun K' hK => ?_); (focus (go_simp; done)))); unfold opF; go_simp; (refine hK _ _ ?_); clear hK K') | (refine listF_no (b' := true) rfl rfl (by decide) ?_ ?_ ?_; (focus (go_simp; done)); (focus rfl)) | (refine listF_no (b' := false) rfl rfl (by decide) ?_ ?_ ?_; (focus (go_simp; done)); (focus rfl)) | (refine listF_nu rfl rfl (by decide) ?_ ?_; (focus (go_simp; done))) | (refine listF_nil ?_) | (refine region_F ?_) | (refine cond_F true ?_ ?_; (focus (go_simp; done)); simp only [if_true]) | (refine cond_F false ?_ ?_; (focus (go_simp; done)); simp only [Bool.false_eq_true, if_false]) | (with_reducible go_step))
        exact ⟨rfl, _, rfl, (by first | (go_simp; done) | exact sl1 | (simp only [updS_some, updS_none, Nat.reduceEqDiff, ↓reduceIte]; exact sl1)), (by first | (go_simp; done) | exact sl2 | (simp only [updS_some, updS_none, Nat.reduceEqDiff, ↓reduceIte]; exact sl2)), (by first | (go_simp; done) | exact sl5 | (simp only [updS_some, updS_none, Nat.reduceEqDiff, ↓reduceIte]; exact sl5)), (by first | (go_simp; done) | (go_simp; simp [t1])), Below.refl _ _⟩
    clear sl1 sl2 sl5
    clear k5_0 k5_1 k5_s
    rintro s w5 ⟨sl1, sl2, sl5, sl39, hb5⟩
    replace k2 := k2.at hb5
    replace k5 := k5.at hb5
    replace hqc := Rd.at hqc hb5
    have HB5 := hid (HB.out.trans (hb5.mono HB.out.size) : Below w.heap.size w w5)
    clear hb5 HB
    rcases Bool.eq_false_or_eq_true (decide (qc.now < T) && waits qc.jobs) with hc | hc
    · rw [hc] at sl39
      simp only [Bool.and_eq_true, decide_eq_true_eq] at hc
      obtain ⟨hnw, hwt⟩ := hc
      obtain ⟨m', rfl, hDI'⟩ := HDI.out.next HK.out hT5 hnw hwt
      have hst := step_ok HK.out HDI.out.ok hwt (by omega)
      have hres := HDI.out.ok.res He.out hwt
      have hkp := fun i hi => step_kept HK.out HDI.out.ok hwt i hi
      have hln := step_len HK.out HDI.out.ok hwt
      have Hst := hid hst
      have HDn := hid hDI'
      have Hres := hid hres
      have Hkp := hid hkp
      have Hln := hid hln
      clear hst hres hDI' hkp hln HDI hnw hwt
      have k2_0 := k2.cell 0 rfl
      have k2_1 := k2.cell 1 rfl
      have k2_2 := k2.cell 2 rfl
      have k2_3 := k2.cell 3 rfl
      have k2_4 := k2.cell 4 rfl
      have k2_5 := k2.cell 5 rfl
      have k2_6 := k2.cell 6 rfl
      have k2_s := k2.1
      have k5_0 := k5.cell 0 rfl
      have k5_1 := k5.cell 1 rfl
      have k5_s := k5.1
      repeat (first | ((first | (refine listF_step rfl (fun K' hK => ?_)) | (refine listF_yes rfl rfl (by decide) ?_ (fun K' hK => ?_); (focus (go_simp; done)))); unfold opF; go_simp; (refine hK _ _ ?_); clear hK K') | (refine listF_no (b' := true) rfl rfl (by decide) ?_ ?_ ?_; (focus (go_simp; done)); (focus rfl)) | (refine listF_no (b' := false) rfl rfl (by decide) ?_ ?_ ?_; (focus (go_simp; done)); (focus rfl)) | (refine listF_nu rfl rfl (by decide) ?_ ?_; (focus (go_simp; done))) | (refine listF_nil ?_) | (refine region_F ?_) | (refine cond_F true ?_ ?_; (focus (go_simp; done)); simp only [if_true]) | (refine cond_F false ?_ ?_; (focus (go_simp; done)); simp only [Bool.false_eq_true, if_false]) | (with_reducible go_step))
      (refine listF_abs ?_; intro s' hs'; have gl1 := congrFun hs' 1; simp only [updS_some, updS_none, Nat.reduceEqDiff, ↓reduceIte] at gl1; (try rw [sl1] at gl1); have gl2 := congrFun hs' 2; simp only [updS_some, updS_none, Nat.reduceEqDiff, ↓reduceIte] at gl2; (try rw [sl2] at gl2); have gl5 := congrFun hs' 5; simp only [updS_some, updS_none, Nat.reduceEqDiff, ↓reduceIte] at gl5; (try rw [sl5] at gl5); have gl41 := congrFun hs' 41; simp only [updS_some, updS_none, Nat.reduceEqDiff, ↓reduceIte] at gl41; (try rw [sl41] at gl41); have gl42 := congrFun hs' 42; simp only [updS_some, updS_none, Nat.reduceEqDiff, ↓reduceIte] at gl42; (try rw [sl42] at gl42); clear hs'; (try clear sl1); (try clear sl2); (try clear sl5); (try clear sl41); (try clear sl42); have sl1 := gl1; clear gl1; have sl2 := gl2; clear gl2; have sl5 := gl5; clear gl5; have sl41 := gl41; clear gl41; have sl42 := gl42; clear gl42)
      (refine listF_step rfl (fun K' hK => ?_); unfold opF; go_simp; refine (qNext_new W qc aj af a cj cf c _ (HW.out.at HB5.out) hqc).mono ?_; rintro e w6 ⟨a', c', rfl, hqn, hb6, hfr⟩; refine ⟨_, rfl, hK _ _ ?_⟩; clear hK K')
      rw [Hres.out] at hqn ⊢
      clear Hres
      generalize nextStep W qc = ns at *
      obtain ⟨sp, qn⟩ := ns
      clear k2_0 k2_1 k2_2 k2_3 k2_4 k2_5 k2_6 k2_s k5_0 k5_1 k5_s
      have hs56 := hb6.size
      have hs5 : B5 < w5.heap.size := k5.1
      replace k2 := k2.at hb6
      replace k5 := k5.at hb6
      replace hqc := Rd.at hqc hb6
      have HB6 := hid (HB5.out.trans (hb6.mono HB5.out.size) : Below w.heap.size w w6)
      have hfr5 : ∀ b, a' = some b → b.block ≠ B5 := fun b hb => by have := hfr b hb; omega
      clear hb6 HB5 hfr
      have Hfr := hid hfr5
      clear hfr5
      (refine listF_abs ?_; intro s' hs'; have gl1 := congrFun hs' 1; simp only [updS_some, updS_none, Nat.reduceEqDiff, ↓reduceIte] at gl1; (try rw [sl1] at gl1); have gl2 := congrFun hs' 2; simp only [updS_some, updS_none, Nat.reduceEqDiff, ↓reduceIte] at gl2; (try rw [sl2] at gl2); have gl5 := congrFun hs' 5; simp only [updS_some, updS_none, Nat.reduceEqDiff, ↓reduceIte] at gl5; (try rw [sl5] at gl5); have gl43 := congrFun hs' 43; simp only [updS_some, updS_none, Nat.reduceEqDiff, ↓reduceIte] at gl43; (try rw [sl43] at gl43); clear hs'; (try clear sl1); (try clear sl2); (try clear sl5); (try clear sl43); have sl1 := gl1; clear gl1; have sl2 := gl2; clear gl2; have sl5 := gl5; clear gl5; have sl43 := gl43; clear gl43)
      iterate 9 (refine listF_step rfl (fun K' hK => ?_); unfold opF; go_simp; refine hK _ _ ?_; clear hK K')
      refine listF_absw ?_
      intro w7 hw7
      have k7 : Cells w7 w6.heap.size [.int .i64 sp.kind, .int .i64 sp.job, .int .i64 sp.from0, .int .i64 sp.until0] := by rw [hw7]; exact (Cells.new (cs := #[.int .i64 sp.kind, .int .i64 sp.job, .int .i64 sp.from0, .int .i64 sp.until0]) rfl).up _
      have k8 : Cells w7 (w6.heap.size + 1) [.int .i64 qn.now, .slice a' qn.jobs.length c'] := by rw [hw7]; exact Cells.new (cs := #[.int .i64 qn.now, .slice a' qn.jobs.length c']) (by first | omega | (simp; done) | (simp; omega))
      have hb7 : Below w6.heap.size w6 w7 := by rw [hw7]; exact (by repeat (first | (with_reducible exact Below.refl _ w6) | (with_reducible refine bdrewN ?_ _) | (with_reducible refine Below.drew ?_) | (with_reducible refine Below.setCell ?_ (by first | omega | (simp; done) | (simp; omega)) _) | (with_reducible refine Below.alloc ?_ (by first | omega | (simp; done) | (simp; omega)) _)))
      clear hw7
      replace k2 := k2.at hb7
      replace k5 := k5.at hb7
      replace hqc := Rd.at hqc hb7
      replace hqn := Rd.at hqn hb7
      have HB7 := hid (HB6.out.trans (hb7.mono HB6.out.size) : Below w.heap.size w w7)
      clear hb7 HB6
      generalize w6.heap.size = B7 at *
      (refine listF_abs ?_; intro s' hs'; have gl1 := congrFun hs' 1; simp only [updS_some, updS_none, Nat.reduceEqDiff, ↓reduceIte] at gl1; (try rw [sl1] at gl1); have gl2 := congrFun hs' 2; simp only [updS_some, updS_none, Nat.reduceEqDiff, ↓reduceIte] at gl2; (try rw [sl2] at gl2); have gl5 := congrFun hs' 5; simp only [updS_some, updS_none, Nat.reduceEqDiff, ↓reduceIte] at gl5; (try rw [sl5] at gl5); have gl7 := congrFun hs' 7; simp only [updS_some, updS_none, Nat.reduceEqDiff, ↓reduceIte] at gl7; (try rw [sl7] at gl7); have gl8 := congrFun hs' 8; simp only [updS_some, updS_none, Nat.reduceEqDiff, ↓reduceIte] at gl8; (try rw [sl8] at gl8); have gl9 := congrFun hs' 9; simp only [updS_some, updS_none, Nat.reduceEqDiff, ↓reduceIte] at gl9; (try rw [sl9] at gl9); clear hs'; (try clear sl1); (try clear sl2); (try clear sl5); (try clear sl7); (try clear sl8); (try clear sl9); have sl1 := gl1; clear gl1; have sl2 := gl2; clear gl2; have sl5 := gl5; clear gl5; have sl7 := gl7; clear gl7; have sl8 := gl8; clear gl8; have sl9 := gl9; clear gl9)
      have n2 : ((qn.jobs.length : Int) != (W.jobs.length : Int)) = false := by have h1 := Hln.out; have := Hjl.out; simp only at h1; simp; omega
      have n3 : ((qc.jobs.length : Int) != (W.jobs.length : Int)) = false := by have := Hjl.out; simp; omega
      have n4 : decide (qn.now ≤ qc.now) = false := decide_eq_false (by have := Hst.out.1; have := Hst.out.2.2.2; simp only at *; omega)
      have k2_0 := k2.cell 0 rfl
      have k2_1 := k2.cell 1 rfl
      have k2_2 := k2.cell 2 rfl
      have k2_3 := k2.cell 3 rfl
      have k2_4 := k2.cell 4 rfl
      have k2_5 := k2.cell 5 rfl
      have k2_6 := k2.cell 6 rfl
      have k2_s := k2.1
      have k5_0 := k5.cell 0 rfl
      have k5_1 := k5.cell 1 rfl
      have k5_s := k5.1
      have k7_0 := k7.cell 0 rfl
      have k7_1 := k7.cell 1 rfl
      have k7_2 := k7.cell 2 rfl
      have k7_3 := k7.cell 3 rfl
      have k7_s := k7.1
      have k8_0 := k8.cell 0 rfl
      have k8_1 := k8.cell 1 rfl
      have k8_s := k8.1
      repeat (first | ((first | (refine listF_step rfl (fun K' hK => ?_)) | (refine listF_yes rfl rfl (by decide) ?_ (fun K' hK => ?_); (focus (go_simp; done)))); unfold opF; go_simp; (refine hK _ _ ?_); clear hK K') | (refine listF_no (b' := true) rfl rfl (by decide) ?_ ?_ ?_; (focus (go_simp; done)); (focus rfl)) | (refine listF_no (b' := false) rfl rfl (by decide) ?_ ?_ ?_; (focus (go_simp; done)); (focus rfl)) | (refine listF_nu rfl rfl (by decide) ?_ ?_; (focus (go_simp; done))) | (refine listF_nil ?_) | (refine region_F ?_) | (refine cond_F true ?_ ?_; (focus (go_simp; done)); simp only [if_true]) | (refine cond_F false ?_ ?_; (focus (go_simp; done)); simp only [Bool.false_eq_true, if_false]) | (with_reducible go_step))
      (refine wp_abs ?_; intro s' hs'; have gl1 := congrFun hs' 1; simp only [updS_some, updS_none, Nat.reduceEqDiff, ↓reduceIte] at gl1; (try rw [sl1] at gl1); have gl2 := congrFun hs' 2; simp only [updS_some, updS_none, Nat.reduceEqDiff, ↓reduceIte] at gl2; (try rw [sl2] at gl2); have gl5 := congrFun hs' 5; simp only [updS_some, updS_none, Nat.reduceEqDiff, ↓reduceIte] at gl5; (try rw [sl5] at gl5); have gl7 := congrFun hs' 7; simp only [updS_some, updS_none, Nat.reduceEqDiff, ↓reduceIte] at gl7; (try rw [sl7] at gl7); have gl8 := congrFun hs' 8; simp only [updS_some, updS_none, Nat.reduceEqDiff, ↓reduceIte] at gl8; (try rw [sl8] at gl8); have gl10 := congrFun hs' 10; simp only [updS_some, updS_none, Nat.reduceEqDiff, ↓reduceIte] at gl10; (try rw [sl10] at gl10); clear hs'; (try clear sl1); (try clear sl2); (try clear sl5); (try clear sl7); (try clear sl8); (try clear sl10); have sl1 := gl1; clear gl1; have sl2 := gl2; clear gl2; have sl5 := gl5; clear gl5; have sl7 := gl7; clear gl7; have sl8 := gl8; clear gl8; have sl10 := gl10; clear gl10)
      clear k2_0 k2_1 k2_2 k2_3 k2_4 k2_5 k2_6 k2_s k5_0 k5_1 k5_s k7_0 k7_1 k7_2 k7_3 k7_s k8_0 k8_1 k8_s
      clear n2 n3 n4
      refine loop_F (n := 148) (fun k s wr => ∃ i : Nat, k = qc.jobs.length - i ∧ i ≤ qc.jobs.length ∧ s 1 = .int .u16 till ∧ s 2 = .pointer (some ⟨w.heap.size, 0, none⟩) ∧ s 5 = .pointer (some ⟨B5, 0, none⟩) ∧ s 7 = .pointer (some ⟨B7, 0, none⟩) ∧ s 8 = .pointer (some ⟨B7 + 1, 0, none⟩) ∧ s 10 = .int .i64 i ∧ Below w7.heap.size w7 wr) (k0 := qc.jobs.length) ⟨0, by omega, by omega, sl1, sl2, sl5, sl7, sl8, sl10, Below.refl _ _⟩ ?_
      clear sl1 sl2 sl5 sl7 sl8 sl10
      rintro k s wi ⟨i, rfl, hi, sl1, sl2, sl5, sl7, sl8, sl10, hBi⟩
      replace k2 := k2.at hBi
      replace k5 := k5.at hBi
      replace k7 := k7.at hBi
      replace k8 := k8.at hBi
      replace hqc := Rd.at hqc hBi
      replace hqn := Rd.at hqn hBi
      have HBi := hid hBi
      have HBw := hid (HB7.out.trans (hBi.mono HB7.out.size) : Below w.heap.size w wi)
      clear hBi
      by_cases hlt : i < qc.jobs.length
      · have hltn : i < qn.jobs.length := by have := Hln.out; simp only at this; omega
        obtain ⟨x1, o1, rfl, hx1, d1, d2, d3, d4, d5⟩ := RdSts.ne hqc hlt
        obtain ⟨x2, o2, rfl, hx2, e1, e2, e3, e4, e5⟩ := RdSts.ne hqn hltn
        have hkp := Hkp.out i hlt
        simp only at hkp
        rw [Qu.st_eq hlt, Qu.st_eq hltn] at hkp
        generalize qc.jobs[i] = x at *
        generalize qn.jobs[i] = y at *
        have k2_0 := k2.cell 0 rfl
        have k2_1 := k2.cell 1 rfl
        have k2_2 := k2.cell 2 rfl
        have k2_3 := k2.cell 3 rfl
        have k2_4 := k2.cell 4 rfl
        have k2_5 := k2.cell 5 rfl
        have k2_6 := k2.cell 6 rfl
        have k2_s := k2.1
        have k5_0 := k5.cell 0 rfl
        have k5_1 := k5.cell 1 rfl
        have k5_s := k5.1
        have k7_0 := k7.cell 0 rfl
        have k7_1 := k7.cell 1 rfl
        have k7_2 := k7.cell 2 rfl
        have k7_3 := k7.cell 3 rfl
        have k7_s := k7.1
        have k8_0 := k8.cell 0 rfl
        have k8_1 := k8.cell 1 rfl
        have k8_s := k8.1
        repeat (first | ((first | (refine listF_step rfl (fun K' hK => ?_)) | (refine listF_yes rfl rfl (by decide) ?_ (fun K' hK => ?_); (focus (go_simp; done)))); unfold opF; go_simp; (refine hK _ _ ?_); clear hK K') | (refine listF_no (b' := true) rfl rfl (by decide) ?_ ?_ ?_; (focus (go_simp; done)); (focus rfl)) | (refine listF_no (b' := false) rfl rfl (by decide) ?_ ?_ ?_; (focus (go_simp; done)); (focus rfl)) | (refine listF_nu rfl rfl (by decide) ?_ ?_; (focus (go_simp; done))) | (refine listF_nil ?_) | (refine region_F ?_) | (refine cond_F true ?_ ?_; (focus (go_simp; done)); simp only [if_true]) | (refine cond_F false ?_ ?_; (focus (go_simp; done)); simp only [Bool.false_eq_true, if_false]) | (with_reducible go_step))
        refine regionR_F [] [] [10, 11] [.q [], .q [], .q [], .q [], .q [], .q [], .q [], .q [], .q [], .q [], .a, .a, .st 10, .st 11] [?v1_0, ?v1_1, ?v1_2, ?v1_3, ?v1_4, ?v1_5, ?v1_6, ?v1_7, ?v1_8, ?v1_9, ?v1_10, ?v1_11, fun _ => undef, fun _ => undef] [fun _ => [], fun _ => [], fun _ => [], fun _ => [], fun _ => [], fun _ => [], fun _ => [], fun _ => [], fun _ => [], fun _ => [], ?c1_10, ?c1_11, ?c1_12, ?c1_13] (by kernel_rfl) (by kernel_rfl) (by kernel_rfl) (by kernel_rfl) (by kernel_rfl) (by first | exact List.nodup_nil | exact List.nodup_singleton _ | (simp; done) | (simp; omega)) bc_nil ?walk1 ?dep1
        case' walk1 =>
          refine walkR_q (by rfl) (fun X hX wq hwq hrq => ?_) ?_
          · obtain ⟨hcq, hfq⟩ := hwq.b0
            clear hrq
            go_simp
            (first | rfl | exact ⟨rfl, rfl⟩)
          refine walkR_q (by rfl) (fun X hX wq hwq hrq => ?_) ?_
          · obtain ⟨hcq, hfq⟩ := hwq.b0
            clear hrq
            go_simp
            (first | rfl | exact ⟨rfl, rfl⟩)
          refine walkR_q (by rfl) (fun X hX wq hwq hrq => ?_) ?_
          · obtain ⟨hcq, hfq⟩ := hwq.b0
            clear hrq
            go_simp
            (first | rfl | exact ⟨rfl, rfl⟩)
          refine walkR_q (by rfl) (fun X hX wq hwq hrq => ?_) ?_
          · obtain ⟨hcq, hfq⟩ := hwq.b0
            clear hrq
            go_simp
            (first | rfl | exact ⟨rfl, rfl⟩)
          refine walkR_q (by rfl) (fun X hX wq hwq hrq => ?_) ?_
          · obtain ⟨hcq, hfq⟩ := hwq.b0
            clear hrq
            go_simp
            (first | rfl | exact ⟨rfl, rfl⟩)
          refine walkR_q (by rfl) (fun X hX wq hwq hrq => ?_) ?_
          · obtain ⟨hcq, hfq⟩ := hwq.b0
            clear hrq
            go_simp
            (first | rfl | exact ⟨rfl, rfl⟩)
          refine walkR_q (by rfl) (fun X hX wq hwq hrq => ?_) ?_
          · obtain ⟨hcq, hfq⟩ := hwq.b0
            clear hrq
            go_simp
            (first | rfl | exact ⟨rfl, rfl⟩)
          refine walkR_q (by rfl) (fun X hX wq hwq hrq => ?_) ?_
          · obtain ⟨hcq, hfq⟩ := hwq.b0
            clear hrq
            go_simp
            (first | rfl | exact ⟨rfl, rfl⟩)
          refine walkR_q (by rfl) (fun X hX wq hwq hrq => ?_) ?_
          · obtain ⟨hcq, hfq⟩ := hwq.b0
            clear hrq
            go_simp
            (first | rfl | exact ⟨rfl, rfl⟩)
          refine walkR_q (by rfl) (fun X hX wq hwq hrq => ?_) ?_
          · obtain ⟨hcq, hfq⟩ := hwq.b0
            clear hrq
            go_simp
            (first | rfl | exact ⟨rfl, rfl⟩)
          refine walkR_a (by rfl) (fun X hX wq hwq hsq => ?_) ?_
          · go_simp
            refine newB_mk ?_ ?_
            · rfl
            · rfl
          refine walkR_a (by rfl) (fun X hX wq hwq hsq => ?_) ?_
          · go_simp
            refine newB_mk ?_ ?_
            · rfl
            · rfl
          refine walkR_st (by rfl) (fun X hX wq hwq hkq => ?_) ?_
          · simp only [updC_some, updC_none, Nat.reduceEqDiff, ↓reduceIte] at hkq
            have hks := hkq.1
            have hkz := hkq.2.2
            (try have hk0 := hkq.cell 0 rfl)
            (try have hk1 := hkq.cell 1 rfl)
            (try have hk2 := hkq.cell 2 rfl)
            (try have hk3 := hkq.cell 3 rfl)
            (try have hk4 := hkq.cell 4 rfl)
            (try have hk5 := hkq.cell 5 rfl)
            (try have hk6 := hkq.cell 6 rfl)
            (try have hk7 := hkq.cell 7 rfl)
            go_simp
            (first | ((with_reducible refine writeB_mk (Cells.set hkq) ?_ ?_); (focus (repeat (first | (with_reducible exact Only.refl _ _) | (with_reducible refine Only.set ?_)))); rfl) | ((with_reducible refine writeB_mk (Cells.set (Cells.set hkq)) ?_ ?_); (focus (repeat (first | (with_reducible exact Only.refl _ _) | (with_reducible refine Only.set ?_)))); rfl) | ((with_reducible refine writeB_mk (Cells.set (Cells.set (Cells.set hkq))) ?_ ?_); (focus (repeat (first | (with_reducible exact Only.refl _ _) | (with_reducible refine Only.set ?_)))); rfl) | ((with_reducible refine writeB_mk (Cells.set (Cells.set (Cells.set (Cells.set hkq)))) ?_ ?_); (focus (repeat (first | (with_reducible exact Only.refl _ _) | (with_reducible refine Only.set ?_)))); rfl) | ((with_reducible refine writeB_mk (Cells.set (Cells.set (Cells.set (Cells.set (Cells.set hkq))))) ?_ ?_); (focus (repeat (first | (with_reducible exact Only.refl _ _) | (with_reducible refine Only.set ?_)))); rfl) | ((with_reducible refine writeB_mk (Cells.set (Cells.set (Cells.set (Cells.set (Cells.set (Cells.set hkq)))))) ?_ ?_); (focus (repeat (first | (with_reducible exact Only.refl _ _) | (with_reducible refine Only.set ?_)))); rfl) | ((with_reducible refine writeB_mk (Cells.set (Cells.set (Cells.set (Cells.set (Cells.set (Cells.set (Cells.set hkq))))))) ?_ ?_); (focus (repeat (first | (with_reducible exact Only.refl _ _) | (with_reducible refine Only.set ?_)))); rfl) | ((with_reducible refine writeB_mk (Cells.set (Cells.set (Cells.set (Cells.set (Cells.set (Cells.set (Cells.set (Cells.set hkq)))))))) ?_ ?_); (focus (repeat (first | (with_reducible exact Only.refl _ _) | (with_reducible refine Only.set ?_)))); rfl))
          refine walkR_st (by rfl) (fun X hX wq hwq hkq => ?_) ?_
          · simp only [updC_some, updC_none, Nat.reduceEqDiff, ↓reduceIte] at hkq
            have hks := hkq.1
            have hkz := hkq.2.2
            (try have hk0 := hkq.cell 0 rfl)
            (try have hk1 := hkq.cell 1 rfl)
            (try have hk2 := hkq.cell 2 rfl)
            (try have hk3 := hkq.cell 3 rfl)
            (try have hk4 := hkq.cell 4 rfl)
            (try have hk5 := hkq.cell 5 rfl)
            (try have hk6 := hkq.cell 6 rfl)
            (try have hk7 := hkq.cell 7 rfl)
            go_simp
            (first | ((with_reducible refine writeB_mk (Cells.set hkq) ?_ ?_); (focus (repeat (first | (with_reducible exact Only.refl _ _) | (with_reducible refine Only.set ?_)))); rfl) | ((with_reducible refine writeB_mk (Cells.set (Cells.set hkq)) ?_ ?_); (focus (repeat (first | (with_reducible exact Only.refl _ _) | (with_reducible refine Only.set ?_)))); rfl) | ((with_reducible refine writeB_mk (Cells.set (Cells.set (Cells.set hkq))) ?_ ?_); (focus (repeat (first | (with_reducible exact Only.refl _ _) | (with_reducible refine Only.set ?_)))); rfl) | ((with_reducible refine writeB_mk (Cells.set (Cells.set (Cells.set (Cells.set hkq)))) ?_ ?_); (focus (repeat (first | (with_reducible exact Only.refl _ _) | (with_reducible refine Only.set ?_)))); rfl) | ((with_reducible refine writeB_mk (Cells.set (Cells.set (Cells.set (Cells.set (Cells.set hkq))))) ?_ ?_); (focus (repeat (first | (with_reducible exact Only.refl _ _) | (with_reducible refine Only.set ?_)))); rfl) | ((with_reducible refine writeB_mk (Cells.set (Cells.set (Cells.set (Cells.set (Cells.set (Cells.set hkq)))))) ?_ ?_); (focus (repeat (first | (with_reducible exact Only.refl _ _) | (with_reducible refine Only.set ?_)))); rfl) | ((with_reducible refine writeB_mk (Cells.set (Cells.set (Cells.set (Cells.set (Cells.set (Cells.set (Cells.set hkq))))))) ?_ ?_); (focus (repeat (first | (with_reducible exact Only.refl _ _) | (with_reducible refine Only.set ?_)))); rfl) | ((with_reducible refine writeB_mk (Cells.set (Cells.set (Cells.set (Cells.set (Cells.set (Cells.set (Cells.set (Cells.set hkq)))))))) ?_ ?_); (focus (repeat (first | (with_reducible exact Only.refl _ _) | (with_reducible refine Only.set ?_)))); rfl))
          refine walkR_nil (fun X hX wz hwz hcz => ?_)
          have ka10 := hcz 10 (by simp)
          simp only [updC_some, updC_none, Nat.reduceEqDiff, ↓reduceIte] at ka10
          have la10 := hX.lo 10 rfl
          have ln10_11 := hX.ne 10 11 rfl rfl (by decide)
          have ka11 := hcz 11 (by simp)
          simp only [updC_some, updC_none, Nat.reduceEqDiff, ↓reduceIte] at ka11
          have la11 := hX.lo 11 rfl
          clear hX hcz
          generalize X 10 = J10 at *
          generalize X 11 = J11 at *
          (try clear X)
        case dep1 =>
          refine depR_cons (fun X X' h => ?_) ?_
          · (first | exact ⟨rfl, rfl⟩)
          refine depR_cons (fun X X' h => ?_) ?_
          · (first | exact ⟨rfl, rfl⟩)
          refine depR_cons (fun X X' h => ?_) ?_
          · (first | exact ⟨rfl, rfl⟩)
          refine depR_cons (fun X X' h => ?_) ?_
          · (first | exact ⟨rfl, rfl⟩)
          refine depR_cons (fun X X' h => ?_) ?_
          · (first | exact ⟨rfl, rfl⟩)
          refine depR_cons (fun X X' h => ?_) ?_
          · (first | exact ⟨rfl, rfl⟩)
          refine depR_cons (fun X X' h => ?_) ?_
          · (first | exact ⟨rfl, rfl⟩)
          refine depR_cons (fun X X' h => ?_) ?_
          · (first | exact ⟨rfl, rfl⟩)
          refine depR_cons (fun X X' h => ?_) ?_
          · (first | exact ⟨rfl, rfl⟩)
          refine depR_cons (fun X X' h => ?_) ?_
          · (first | exact ⟨rfl, rfl⟩)
          refine depR_cons (fun X X' h => ?_) ?_
          · (first | exact ⟨rfl, rfl⟩ | (have e10 := h 10 (by decide +kernel); constructor <;> (first | rfl | (simp only [e10]))))
          refine depR_cons (fun X X' h => ?_) ?_
          · (first | exact ⟨rfl, rfl⟩ | (have e11 := h 11 (by decide +kernel); constructor <;> (first | rfl | (simp only [e11]))))
          refine depR_cons (fun X X' h => ?_) ?_
          · (first | exact ⟨rfl, rfl⟩ | (have e10 := h 10 (by decide +kernel); have e11 := h 11 (by decide +kernel); constructor <;> (first | rfl | (simp only [e10, e11]))))
          refine depR_cons (fun X X' h => ?_) ?_
          · (first | exact ⟨rfl, rfl⟩ | (have e10 := h 10 (by decide +kernel); have e11 := h 11 (by decide +kernel); constructor <;> (first | rfl | (simp only [e10, e11]))))
          exact depR_nil
        have kk2 := k2.old hwz (by simp)
        have kk5 := k5.old hwz (by simp)
        have kk7 := k7.old hwz (by simp)
        have kk8 := k8.old hwz (by simp)
        have HBz := hid (HBi.out.trans (hwz.low (N := w7.heap.size) HBi.out.size (by simp)))
        clear k2_0 k2_1 k2_2 k2_3 k2_4 k2_5 k2_6 k2_s k5_0 k5_1 k5_s k7_0 k7_1 k7_2 k7_3 k7_s k8_0 k8_1 k8_s
        clear hwz d1 d2 d3 d4 d5 e1 e2 e3 e4 e5 hqc hqn k2 k5 k7 k8
        obtain ⟨p1, p2, p3, p4⟩ := hkp
        (refine listF_abs ?_; intro s' hs'; have gl1 := congrFun hs' 1; simp only [updS_some, updS_none, Nat.reduceEqDiff, ↓reduceIte] at gl1; (try rw [sl1] at gl1); have gl2 := congrFun hs' 2; simp only [updS_some, updS_none, Nat.reduceEqDiff, ↓reduceIte] at gl2; (try rw [sl2] at gl2); have gl5 := congrFun hs' 5; simp only [updS_some, updS_none, Nat.reduceEqDiff, ↓reduceIte] at gl5; (try rw [sl5] at gl5); have gl7 := congrFun hs' 7; simp only [updS_some, updS_none, Nat.reduceEqDiff, ↓reduceIte] at gl7; (try rw [sl7] at gl7); have gl8 := congrFun hs' 8; simp only [updS_some, updS_none, Nat.reduceEqDiff, ↓reduceIte] at gl8; (try rw [sl8] at gl8); have gl10 := congrFun hs' 10; simp only [updS_some, updS_none, Nat.reduceEqDiff, ↓reduceIte] at gl10; (try rw [sl10] at gl10); have gl11 := congrFun hs' 11; simp only [updS_some, updS_none, Nat.reduceEqDiff, ↓reduceIte] at gl11; (try rw [sl11] at gl11); have gl12 := congrFun hs' 12; simp only [updS_some, updS_none, Nat.reduceEqDiff, ↓reduceIte] at gl12; (try rw [sl12] at gl12); clear hs'; (try clear sl1); (try clear sl2); (try clear sl5); (try clear sl7); (try clear sl8); (try clear sl10); (try clear sl11); (try clear sl12); have sl1 := gl1; clear gl1; have sl2 := gl2; clear gl2; have sl5 := gl5; clear gl5; have sl7 := gl7; clear gl7; have sl8 := gl8; clear gl8; have sl10 := gl10; clear gl10; have sl11 := gl11; clear gl11; have sl12 := gl12; clear gl12)
        refine listF_nil ?_
        with_reducible go_step
        with_reducible go_step
        repeat (first | (refine wp_seq_k (fun K' hK' => ?_)) | (refine wp_block ?_))
        refine cut_F (fun s w5 => s 1 = .int .u16 till ∧ s 2 = .pointer (some ⟨w.heap.size, 0, none⟩) ∧ s 5 = .pointer (some ⟨B5, 0, none⟩) ∧ s 7 = .pointer (some ⟨B7, 0, none⟩) ∧ s 8 = .pointer (some ⟨B7 + 1, 0, none⟩) ∧ s 10 = .int .i64 i ∧ s 145 = .bool false ∧ w5 = wz) ?_ ?_
        · have kx : Cells wz J10 [.int .i64 x.progress, .int .i64 x.since, .int .i64 x.charge, .int .i64 x.why, .int .i64 x.ended] := ka10
          have ky : Cells wz J11 [.int .i64 y.progress, .int .i64 y.since, .int .i64 y.charge, .int .i64 y.why, .int .i64 y.ended] := ka11
          have q1 : decide (y.progress < x.progress) = false := decide_eq_false (by omega)
          have q2 : decide (y.charge < x.charge) = false := decide_eq_false (by omega)
          have hsl : W.rules.slice ≤ 100000 := by have := HK.out.rb; omega
          have hd : sp.kind ≤ 3 → (i : Int) = sp.job → decide (W.rules.slice < y.progress - x.progress) = false ∧ IntKind.i64.wrap (y.progress - x.progress) = y.progress - x.progress :=
            fun h1 h2 => by have := p4 h1 h2; exact ⟨decide_eq_false (by omega), IntWalk.i64_in _ (by omega)⟩
          have hc4 : (neSt x y = false ∧ decide (sp.kind ≤ 3) = false) ∨ (neSt x y = false ∧ decide (sp.kind ≤ 3) = true ∧ ((i : Int) == sp.job) = false) ∨
              (neSt x y = false ∧ decide (sp.kind ≤ 3) = true ∧ ((i : Int) == sp.job) = true ∧ decide (W.rules.slice < y.progress - x.progress) = false ∧ IntKind.i64.wrap (y.progress - x.progress) = y.progress - x.progress) ∨
              (neSt x y = true ∧ ((i : Int) != sp.job) = false ∧ decide (3 < sp.kind) = false ∧ (x.why != 0) = false ∧ decide (sp.kind ≤ 3) = true ∧ ((i : Int) == sp.job) = true ∧ decide (W.rules.slice < y.progress - x.progress) = false ∧ IntKind.i64.wrap (y.progress - x.progress) = y.progress - x.progress) := by
            by_cases hxy : x = y
            · have hn : neSt x y = false := by simp [neSt, hxy]
              by_cases h1 : sp.kind ≤ 3
              · by_cases h2 : (i : Int) = sp.job
                · exact .inr (.inr (.inl ⟨hn, by simp [h1], by simp [h2], hd h1 h2⟩))
                · exact .inr (.inl ⟨hn, by simp [h1], by simp [h2]⟩)
              · exact .inl ⟨hn, by simp [h1]⟩
            · have hn : neSt x y = true := by simp [neSt, hxy]
              obtain ⟨h2, h1, h3⟩ := p3 hxy
              exact .inr (.inr (.inr ⟨hn, by simp [h2], by simp [h1], by simp [h3], by simp [h1], by simp [h2], hd h1 h2⟩))
          clear p1 p2 p3 p4 hd
          have kx_0 := kx.cell 0 rfl
          have kx_1 := kx.cell 1 rfl
          have kx_2 := kx.cell 2 rfl
          have kx_3 := kx.cell 3 rfl
          have kx_4 := kx.cell 4 rfl
          have kx_s := kx.1
          have ky_0 := ky.cell 0 rfl
          have ky_1 := ky.cell 1 rfl
          have ky_2 := ky.cell 2 rfl
          have ky_3 := ky.cell 3 rfl
          have ky_4 := ky.cell 4 rfl
          have ky_s := ky.1
          have kk7_0 := kk7.cell 0 rfl
          have kk7_1 := kk7.cell 1 rfl
          have kk7_2 := kk7.cell 2 rfl
          have kk7_3 := kk7.cell 3 rfl
          have kk7_s := kk7.1
          have kk2_0 := kk2.cell 0 rfl
          have kk2_1 := kk2.cell 1 rfl
          have kk2_2 := kk2.cell 2 rfl
          have kk2_3 := kk2.cell 3 rfl
          have kk2_4 := kk2.cell 4 rfl
          have kk2_5 := kk2.cell 5 rfl
          have kk2_6 := kk2.cell 6 rfl
          have kk2_s := kk2.1
          rcases hc4 with ⟨r1, r2⟩ | ⟨r1, r2, r3⟩ | ⟨r1, r2, r3, r4, r5⟩ | ⟨r1, r2, r3, r4, r5, r6, r7, r8⟩
          all_goals repeat (first | ((first | (refine listF_step rfl (fun K' hK => ?_)) | (refine listF_yes rfl rfl (by decide) ?_ (fun K' hK => ?_); (focus (go_simp; done)))); unfold opF; go_simp; (refine hK _ _ ?_); clear hK K') | (refine listF_no (b' := true) rfl rfl (by decide) ?_ ?_ ?_; (focus (go_simp; done)); (focus rfl)) | (refine listF_no (b' := false) rfl rfl (by decide) ?_ ?_ ?_; (focus (go_simp; done)); (focus rfl)) | (refine listF_nu rfl rfl (by decide) ?_ ?_; (focus (go_simp; done))) | (refine listF_nil ?_) | (refine region_F ?_) | (refine cond_F true ?_ ?_; (focus (go_simp; done)); simp only [if_true]) | (refine cond_F false ?_ ?_; (focus (go_simp; done)); simp only [Bool.false_eq_true, if_false]) | (with_reducible go_step))
          all_goals exact ⟨rfl, _, rfl, (by first | (go_simp; done) | exact sl1 | (simp only [updS_some, updS_none, Nat.reduceEqDiff, ↓reduceIte]; exact sl1)), (by first | (go_simp; done) | exact sl2 | (simp only [updS_some, updS_none, Nat.reduceEqDiff, ↓reduceIte]; exact sl2)), (by first | (go_simp; done) | exact sl5 | (simp only [updS_some, updS_none, Nat.reduceEqDiff, ↓reduceIte]; exact sl5)), (by first | (go_simp; done) | exact sl7 | (simp only [updS_some, updS_none, Nat.reduceEqDiff, ↓reduceIte]; exact sl7)), (by first | (go_simp; done) | exact sl8 | (simp only [updS_some, updS_none, Nat.reduceEqDiff, ↓reduceIte]; exact sl8)), (by first | (go_simp; done) | exact sl10 | (simp only [updS_some, updS_none, Nat.reduceEqDiff, ↓reduceIte]; exact sl10)), by go_simp, rfl⟩
        clear sl1 sl2 sl5 sl7 sl8 sl10 sl11 sl12 ka10 ka11 p1 p2 p3 p4
        rintro s w5 ⟨sl1, sl2, sl5, sl7, sl8, sl10, sl145, rfl⟩
        have hwi : IntKind.i64.wrap ((i : Int) + 1) = (i : Int) + 1 := IntWalk.i64_in _ (by omega)
        repeat (first | ((first | (refine listF_step rfl (fun K' hK => ?_)) | (refine listF_yes rfl rfl (by decide) ?_ (fun K' hK => ?_); (focus (go_simp; done)))); unfold opF; go_simp; (refine hK _ _ ?_); clear hK K') | (refine listF_no (b' := true) rfl rfl (by decide) ?_ ?_ ?_; (focus (go_simp; done)); (focus rfl)) | (refine listF_no (b' := false) rfl rfl (by decide) ?_ ?_ ?_; (focus (go_simp; done)); (focus rfl)) | (refine listF_nu rfl rfl (by decide) ?_ ?_; (focus (go_simp; done))) | (refine listF_nil ?_) | (refine region_F ?_) | (refine cond_F true ?_ ?_; (focus (go_simp; done)); simp only [if_true]) | (refine cond_F false ?_ ?_; (focus (go_simp; done)); simp only [Bool.false_eq_true, if_false]) | (with_reducible go_step))
        refine ⟨_, _, rfl, ?_, i + 1, rfl, by omega, (by first | (go_simp; done) | exact sl1 | (simp only [updS_some, updS_none, Nat.reduceEqDiff, ↓reduceIte]; exact sl1)), (by first | (go_simp; done) | exact sl2 | (simp only [updS_some, updS_none, Nat.reduceEqDiff, ↓reduceIte]; exact sl2)), (by first | (go_simp; done) | exact sl5 | (simp only [updS_some, updS_none, Nat.reduceEqDiff, ↓reduceIte]; exact sl5)), (by first | (go_simp; done) | exact sl7 | (simp only [updS_some, updS_none, Nat.reduceEqDiff, ↓reduceIte]; exact sl7)), (by first | (go_simp; done) | exact sl8 | (simp only [updS_some, updS_none, Nat.reduceEqDiff, ↓reduceIte]; exact sl8)), by go_simp, HBz.out⟩
        omega
      · have k5_0 := k5.cell 0 rfl
        have k5_1 := k5.cell 1 rfl
        have k5_s := k5.1
        have k8_0 := k8.cell 0 rfl
        have k8_1 := k8.cell 1 rfl
        have k8_s := k8.1
        have k5_z := k5.2.2
        repeat (first | ((first | (refine listF_step rfl (fun K' hK => ?_)) | (refine listF_yes rfl rfl (by decide) ?_ (fun K' hK => ?_); (focus (go_simp; done)))); unfold opF; go_simp; (refine hK _ _ ?_); clear hK K') | (refine listF_no (b' := true) rfl rfl (by decide) ?_ ?_ ?_; (focus (go_simp; done)); (focus rfl)) | (refine listF_no (b' := false) rfl rfl (by decide) ?_ ?_ ?_; (focus (go_simp; done)); (focus rfl)) | (refine listF_nu rfl rfl (by decide) ?_ ?_; (focus (go_simp; done))) | (refine listF_nil ?_) | (refine region_F ?_) | (refine cond_F true ?_ ?_; (focus (go_simp; done)); simp only [if_true]) | (refine cond_F false ?_ ?_; (focus (go_simp; done)); simp only [Bool.false_eq_true, if_false]) | (with_reducible go_step))
        refine ⟨m', _, rfl, by omega, lst ++ [sp], qn, a', c', HDn.out, (by first | (go_simp; done) | exact sl1 | (simp only [updS_some, updS_none, Nat.reduceEqDiff, ↓reduceIte]; exact sl1)), (by first | (go_simp; done) | exact sl2 | (simp only [updS_some, updS_none, Nat.reduceEqDiff, ↓reduceIte]; exact sl2)), (by first | (go_simp; done) | exact sl5 | (simp only [updS_some, updS_none, Nat.reduceEqDiff, ↓reduceIte]; exact sl5)), (by apply Cells.conv; (focus (repeat (first | (with_reducible exact k5) | (with_reducible apply Cells.set) | ((with_reducible apply Cells.setFar); case hn => omega) | (with_reducible apply Cells.up) | (with_reducible apply Cells.drew)))); rfl), Rd.two hqn Hfr.out, (k2.setFar (by omega)).setFar (by omega), (by repeat (first | (with_reducible exact HBw.out) | (with_reducible refine bdrewN ?_ _) | (with_reducible refine Below.drew ?_) | (with_reducible refine Below.setCell ?_ (by first | omega | (simp; done) | (simp; omega)) _) | (with_reducible refine Below.alloc ?_ (by first | omega | (simp; done) | (simp; omega)) _)))⟩
    · rw [hc] at sl39
      repeat (first | ((first | (refine listF_step rfl (fun K' hK => ?_)) | (refine listF_yes rfl rfl (by decide) ?_ (fun K' hK => ?_); (focus (go_simp; done)))); unfold opF; go_simp; (refine hK _ _ ?_); clear hK K') | (refine listF_no (b' := true) rfl rfl (by decide) ?_ ?_ ?_; (focus (go_simp; done)); (focus rfl)) | (refine listF_no (b' := false) rfl rfl (by decide) ?_ ?_ ?_; (focus (go_simp; done)); (focus rfl)) | (refine listF_nu rfl rfl (by decide) ?_ ?_; (focus (go_simp; done))) | (refine listF_nil ?_) | (refine region_F ?_) | (refine cond_F true ?_ ?_; (focus (go_simp; done)); simp only [if_true]) | (refine cond_F false ?_ ?_; (focus (go_simp; done)); simp only [Bool.false_eq_true, if_false]) | (with_reducible go_step))
      (refine listF_step rfl (fun K' hK => ?_); unfold opF; go_simp; refine (awake_any _).mono ?_; rintro e w9 ⟨rfl, hb9⟩; refine ⟨_, rfl, hK _ _ ?_⟩; clear hK K')
      repeat (first | ((first | (refine listF_step rfl (fun K' hK => ?_)) | (refine listF_yes rfl rfl (by decide) ?_ (fun K' hK => ?_); (focus (go_simp; done)))); unfold opF; go_simp; (refine hK _ _ ?_); clear hK K') | (refine listF_no (b' := true) rfl rfl (by decide) ?_ ?_ ?_; (focus (go_simp; done)); (focus rfl)) | (refine listF_no (b' := false) rfl rfl (by decide) ?_ ?_ ?_; (focus (go_simp; done)); (focus rfl)) | (refine listF_nu rfl rfl (by decide) ?_ ?_; (focus (go_simp; done))) | (refine listF_nil ?_) | (refine region_F ?_) | (refine cond_F true ?_ ?_; (focus (go_simp; done)); simp only [if_true]) | (refine cond_F false ?_ ?_; (focus (go_simp; done)); simp only [Bool.false_eq_true, if_false]) | (with_reducible go_step))
      exact ret_F (.bool true) (res1_F Try.results11 (by decide) (by go_simp)) ⟨rfl, HB5.out.trans (hb9.mono HB5.out.size)⟩
  · have HE := hid he
    have hE' : (W.err != 0) = true := by simp [he]
    have hbj : begJobs W = [] := by unfold begJobs; rw [if_neg he]
    rw [hbj] at hrd0 ⊢
    clear hbj he
    simp only [List.length_nil]
    repeat (first | ((first | (refine listF_step rfl (fun K' hK => ?_)) | (refine listF_yes rfl rfl (by decide) ?_ (fun K' hK => ?_); (focus (go_simp; done)))); unfold opF; go_simp; (refine hK _ _ ?_); clear hK K') | (refine listF_no (b' := true) rfl rfl (by decide) ?_ ?_ ?_; (focus (go_simp; done)); (focus rfl)) | (refine listF_no (b' := false) rfl rfl (by decide) ?_ ?_ ?_; (focus (go_simp; done)); (focus rfl)) | (refine listF_nu rfl rfl (by decide) ?_ ?_; (focus (go_simp; done))) | (refine listF_nil ?_) | (refine region_F ?_) | (refine cond_F true ?_ ?_; (focus (go_simp; done)); simp only [if_true]) | (refine cond_F false ?_ ?_; (focus (go_simp; done)); simp only [Bool.false_eq_true, if_false]) | (with_reducible go_step))
    (refine listF_yes rfl rfl (by decide) ?_ (fun K' hK => ?_); (focus (go_simp; done)); unfold opF; go_simp; refine (awake_any _).mono ?_; rintro e w9 ⟨rfl, hb9⟩; refine ⟨_, rfl, hK _ _ ?_⟩; clear hK K')
    have hsx := HB1.out.size
    have HBx := hid (Below.trans ((by repeat (first | (with_reducible exact HB1.out) | (with_reducible refine bdrewN ?_ _) | (with_reducible refine Below.drew ?_) | (with_reducible refine Below.setCell ?_ (by first | omega | (simp; done) | (simp; omega)) _) | (with_reducible refine Below.alloc ?_ (by first | omega | (simp; done) | (simp; omega)) _)))) (hb9.mono (by have := HB1.out.size; simp; omega)) : Below w.heap.size w w9)
    repeat (first | ((first | (refine listF_step rfl (fun K' hK => ?_)) | (refine listF_yes rfl rfl (by decide) ?_ (fun K' hK => ?_); (focus (go_simp; done)))); unfold opF; go_simp; (refine hK _ _ ?_); clear hK K') | (refine listF_no (b' := true) rfl rfl (by decide) ?_ ?_ ?_; (focus (go_simp; done)); (focus rfl)) | (refine listF_no (b' := false) rfl rfl (by decide) ?_ ?_ ?_; (focus (go_simp; done)); (focus rfl)) | (refine listF_nu rfl rfl (by decide) ?_ ?_; (focus (go_simp; done))) | (refine listF_nil ?_) | (refine region_F ?_) | (refine cond_F true ?_ ?_; (focus (go_simp; done)); simp only [if_true]) | (refine cond_F false ?_ ?_; (focus (go_simp; done)); simp only [Bool.false_eq_true, if_false]) | (with_reducible go_step))
    exact ret_F (.bool true) (res1_F Try.results11 (by decide) (by go_simp)) ⟨rfl, HBx.out⟩

end Go.Proofs.Ytbjgebbfachgfaa
