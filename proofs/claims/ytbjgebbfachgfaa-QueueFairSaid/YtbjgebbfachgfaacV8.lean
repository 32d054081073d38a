/- QueueFair: its walk. -/
import Derived.Test.YtbjgebbfachgfaacLP
set_option linter.unusedVariables false
set_option linter.unusedSimpArgs false
set_option linter.unusedSectionVars false
set_option linter.all false
namespace Go.Proofs.Ytbjgebbfachgfaa
open Go.RowKit

set_option maxRecDepth 100000 in
set_option maxHeartbeats 8000000 in
theorem fair_walk (W : Work) (till : Int) (aj af : Option Addr) (cj cf : Nat) (w : World) (hW : WorkIn w W aj af) (hl0 : 0 ≤ till) (hl1 : till ≤ 65535) :
    Calls Try.prog 12 #[.agg #[.int .i64 W.rules.slice, .int .i64 W.rules.load, .int .i64 W.rules.dump, .int .i64 W.rules.patience, .int .i64 W.rules.rate, .slice aj W.jobs.length cj, .slice af W.faults.length cf], .int .u16 till] w fun e w' => e = .returned (.bool true) ∧ Below w.heap.size w w' := by
  have HW := hid hW
  clear hW
  refine enter_F Try.func12 rfl Try.ntmps12 (by simp) ?_
  intro s hs
  have sl0 : s 0 = .agg #[.int .i64 W.rules.slice, .int .i64 W.rules.load, .int .i64 W.rules.dump, .int .i64 W.rules.patience, .int .i64 W.rules.rate, .slice aj W.jobs.length cj, .slice af W.faults.length cf] := hs 0 (by simp)
  have sl1 : s 1 = .int .u16 till := hs 1 (by simp)
  clear hs
  repeat (first | ((first | (refine listF_step rfl (fun K' hK => ?_)) | (refine listF_yes rfl rfl (by decide) ?_ (fun K' hK => ?_); (focus (go_simp; done)))); unfold opF; go_simp; (refine hK _ _ ?_); clear hK K') | (refine listF_no (b' := true) rfl rfl (by decide) ?_ ?_ ?_; (focus (go_simp; done)); (focus rfl)) | (refine listF_no (b' := false) rfl rfl (by decide) ?_ ?_ ?_; (focus (go_simp; done)); (focus rfl)) | (refine listF_nu rfl rfl (by decide) ?_ ?_; (focus (go_simp; done))) | (refine listF_nil ?_) | (refine region_F ?_) | (refine cond_F true ?_ ?_; (focus (go_simp; done)); simp only [if_true]) | (refine cond_F false ?_ ?_; (focus (go_simp; done)); simp only [Bool.false_eq_true, if_false]) | (with_reducible go_step))
  refine listF_absw ?_
  intro w1 hw1
  have k2 : Cells w1 w.heap.size #[.int .i64 W.rules.slice, .int .i64 W.rules.load, .int .i64 W.rules.dump, .int .i64 W.rules.patience, .int .i64 W.rules.rate, .slice aj W.jobs.length cj, .slice af W.faults.length cf].toList := by rw [hw1]; exact Cells.new rfl
  have HB0 := hid (show Below w.heap.size w w1 by rw [hw1]; exact (by repeat (first | (with_reducible exact Below.refl _ w) | (with_reducible refine bdrewN ?_ _) | (with_reducible refine Below.drew ?_) | (with_reducible refine Below.setCell ?_ (by first | omega | (simp; done) | (simp; omega)) _) | (with_reducible refine Below.alloc ?_ (by first | omega | (simp; done) | (simp; omega)) _))))
  clear hw1
  (refine listF_abs ?_; intro s' hs'; have gl1 := congrFun hs' 1; simp only [updS_some, updS_none, Nat.reduceEqDiff, ↓reduceIte] at gl1; (try rw [sl1] at gl1); have gl2 := congrFun hs' 2; simp only [updS_some, updS_none, Nat.reduceEqDiff, ↓reduceIte] at gl2; (try rw [sl2] at gl2); have gl4 := congrFun hs' 4; simp only [updS_some, updS_none, Nat.reduceEqDiff, ↓reduceIte] at gl4; (try rw [sl4] at gl4); have gl12 := congrFun hs' 12; simp only [updS_some, updS_none, Nat.reduceEqDiff, ↓reduceIte] at gl12; (try rw [sl12] at gl12); clear hs'; (try clear sl1); (try clear sl2); (try clear sl4); (try clear sl12); have sl1 := gl1; clear gl1; have sl2 := gl2; clear gl2; have sl4 := gl4; clear gl4; have sl12 := gl12; clear gl12)
  (refine listF_step rfl (fun K' hK => ?_); unfold opF; go_simp; refine (qBegin_any W aj af cj cf _ (HW.out.at HB0.out)).mono ?_; rintro e w2 ⟨v0, rfl, ho, hb2⟩; refine ⟨_, rfl, hK _ _ ?_⟩; clear hK K')
  obtain ⟨a0, c0, rfl, hrd0, hfr0⟩ := Own.slice (f := St.cs) (m := 5) (fun _ => rfl) ho
  clear ho hfr0
  replace k2 := k2.at hb2
  have HB1 := hid (HB0.out.trans (hb2.mono HB0.out.size) : Below w.heap.size w w2)
  clear hb2 HB0
  by_cases he : W.err = 0
  · have He := hid he
    have HK := hid (wok_of_err he)
    have hE' : (W.err != 0) = false := by simp [he]
    rw [begJobs_ok he] at hrd0 ⊢
    clear he
    have k2_0 := k2.cell 0 rfl
    have k2_1 := k2.cell 1 rfl
    have k2_2 := k2.cell 2 rfl
    have k2_3 := k2.cell 3 rfl
    have k2_4 := k2.cell 4 rfl
    have k2_5 := k2.cell 5 rfl
    have k2_6 := k2.cell 6 rfl
    have k2_s := k2.1
    (refine listF_abs ?_; intro s' hs'; have gl1 := congrFun hs' 1; simp only [updS_some, updS_none, Nat.reduceEqDiff, ↓reduceIte] at gl1; (try rw [sl1] at gl1); have gl2 := congrFun hs' 2; simp only [updS_some, updS_none, Nat.reduceEqDiff, ↓reduceIte] at gl2; (try rw [sl2] at gl2); have gl4 := congrFun hs' 4; simp only [updS_some, updS_none, Nat.reduceEqDiff, ↓reduceIte] at gl4; (try rw [sl4] at gl4); have gl13 := congrFun hs' 13; simp only [updS_some, updS_none, Nat.reduceEqDiff, ↓reduceIte] at gl13; (try rw [sl13] at gl13); clear hs'; (try clear sl1); (try clear sl2); (try clear sl4); (try clear sl13); have sl1 := gl1; clear gl1; have sl2 := gl2; clear gl2; have sl4 := gl4; clear gl4; have sl13 := gl13; clear gl13)
    repeat (first | ((first | (refine listF_step rfl (fun K' hK => ?_)) | (refine listF_yes rfl rfl (by decide) ?_ (fun K' hK => ?_); (focus (go_simp; done)))); unfold opF; go_simp; (refine hK _ _ ?_); clear hK K') | (refine listF_no (b' := true) rfl rfl (by decide) ?_ ?_ ?_; (focus (go_simp; done)); (focus rfl)) | (refine listF_no (b' := false) rfl rfl (by decide) ?_ ?_ ?_; (focus (go_simp; done)); (focus rfl)) | (refine listF_nu rfl rfl (by decide) ?_ ?_; (focus (go_simp; done))) | (refine listF_nil ?_) | (refine region_F ?_) | (refine cond_F true ?_ ?_; (focus (go_simp; done)); simp only [if_true]) | (refine cond_F false ?_ ?_; (focus (go_simp; done)); simp only [Bool.false_eq_true, if_false]) | (with_reducible go_step))
    refine listF_absw ?_
    intro w3 hw3
    have k5 : Cells w3 w2.heap.size [.int .i64 0, .slice a0 (beginQ W).jobs.length c0] := by rw [hw3]; exact Cells.new (cs := #[.int .i64 0, .slice a0 (beginQ W).jobs.length c0]) rfl
    have hbw3 : Below w2.heap.size w2 w3 := by rw [hw3]; exact (by repeat (first | (with_reducible exact Below.refl _ w2) | (with_reducible refine bdrewN ?_ _) | (with_reducible refine Below.drew ?_) | (with_reducible refine Below.setCell ?_ (by first | omega | (simp; done) | (simp; omega)) _) | (with_reducible refine Below.alloc ?_ (by first | omega | (simp; done) | (simp; omega)) _)))
    clear hw3
    clear k2_0 k2_1 k2_2 k2_3 k2_4 k2_5 k2_6 k2_s
    have hs2 : w.heap.size < w2.heap.size := k2.1
    replace k2 := k2.at hbw3
    replace hrd0 := Rd.at hrd0 hbw3
    have HB2 := hid (HB1.out.trans (hbw3.mono HB1.out.size) : Below w.heap.size w w3)
    clear hbw3 HB1 hE'
    generalize w2.heap.size = B5 at *
    (refine listF_abs ?_; intro s' hs'; have gl1 := congrFun hs' 1; simp only [updS_some, updS_none, Nat.reduceEqDiff, ↓reduceIte] at gl1; (try rw [sl1] at gl1); have gl2 := congrFun hs' 2; simp only [updS_some, updS_none, Nat.reduceEqDiff, ↓reduceIte] at gl2; (try rw [sl2] at gl2); have gl5 := congrFun hs' 5; simp only [updS_some, updS_none, Nat.reduceEqDiff, ↓reduceIte] at gl5; (try rw [sl5] at gl5); have gl18 := congrFun hs' 18; simp only [updS_some, updS_none, Nat.reduceEqDiff, ↓reduceIte] at gl18; (try rw [sl18] at gl18); have gl19 := congrFun hs' 19; simp only [updS_some, updS_none, Nat.reduceEqDiff, ↓reduceIte] at gl19; (try rw [sl19] at gl19); clear hs'; (try clear sl1); (try clear sl2); (try clear sl5); (try clear sl18); (try clear sl19); have sl1 := gl1; clear gl1; have sl2 := gl2; clear gl2; have sl5 := gl5; clear gl5; have sl18 := gl18; clear gl18; have sl19 := gl19; clear gl19)
    (refine listF_yes rfl rfl (by decide) ?_ (fun K' hK => ?_); (focus (go_simp; done)); unfold opF; go_simp; refine (valid_any W aj af cj cf _ (HW.out.at HB2.out)).mono ?_; rintro e w4 ⟨rfl, hb4⟩; refine ⟨_, rfl, hK _ _ ?_⟩; clear hK K')
    rw [show (W.err == 0) = true by simp [He.out]]
    replace k2 := k2.at hb4
    replace k5 := k5.at hb4
    replace hrd0 := Rd.at hrd0 hb4
    have HB3 := hid (HB2.out.trans (hb4.mono HB2.out.size) : Below w.heap.size w w4)
    clear hb4 HB2
    (refine listF_abs ?_; intro s' hs'; have gl1 := congrFun hs' 1; simp only [updS_some, updS_none, Nat.reduceEqDiff, ↓reduceIte] at gl1; (try rw [sl1] at gl1); have gl2 := congrFun hs' 2; simp only [updS_some, updS_none, Nat.reduceEqDiff, ↓reduceIte] at gl2; (try rw [sl2] at gl2); have gl5 := congrFun hs' 5; simp only [updS_some, updS_none, Nat.reduceEqDiff, ↓reduceIte] at gl5; (try rw [sl5] at gl5); have gl18 := congrFun hs' 18; simp only [updS_some, updS_none, Nat.reduceEqDiff, ↓reduceIte] at gl18; (try rw [sl18] at gl18); have gl20 := congrFun hs' 20; simp only [updS_some, updS_none, Nat.reduceEqDiff, ↓reduceIte] at gl20; (try rw [sl20] at gl20); clear hs'; (try clear sl1); (try clear sl2); (try clear sl5); (try clear sl18); (try clear sl20); have sl1 := gl1; clear gl1; have sl2 := gl2; clear gl2; have sl5 := gl5; clear gl5; have sl18 := gl18; clear gl18; have sl20 := gl20; clear gl20)
    repeat (first | ((first | (refine listF_step rfl (fun K' hK => ?_)) | (refine listF_yes rfl rfl (by decide) ?_ (fun K' hK => ?_); (focus (go_simp; done)))); unfold opF; go_simp; (refine hK _ _ ?_); clear hK K') | (refine listF_no (b' := true) rfl rfl (by decide) ?_ ?_ ?_; (focus (go_simp; done)); (focus rfl)) | (refine listF_no (b' := false) rfl rfl (by decide) ?_ ?_ ?_; (focus (go_simp; done)); (focus rfl)) | (refine listF_nu rfl rfl (by decide) ?_ ?_; (focus (go_simp; done))) | (refine listF_nil ?_) | (refine region_F ?_) | (refine cond_F true ?_ ?_; (focus (go_simp; done)); simp only [if_true]) | (refine cond_F false ?_ ?_; (focus (go_simp; done)); simp only [Bool.false_eq_true, if_false]) | (with_reducible go_step))
    (refine wp_abs ?_; intro s' hs'; have gl1 := congrFun hs' 1; simp only [updS_some, updS_none, Nat.reduceEqDiff, ↓reduceIte] at gl1; (try rw [sl1] at gl1); have gl2 := congrFun hs' 2; simp only [updS_some, updS_none, Nat.reduceEqDiff, ↓reduceIte] at gl2; (try rw [sl2] at gl2); have gl5 := congrFun hs' 5; simp only [updS_some, updS_none, Nat.reduceEqDiff, ↓reduceIte] at gl5; (try rw [sl5] at gl5); clear hs'; (try clear sl1); (try clear sl2); (try clear sl5); have sl1 := gl1; clear gl1; have sl2 := gl2; clear gl2; have sl5 := gl5; clear gl5)
    obtain ⟨T, hT⟩ : ∃ T, till.tmod 5001 = T := ⟨_, rfl⟩
    have hT5 : T ≤ 5000 := by have := Int.tmod_lt_of_pos till (show (0 : Int) < 5001 by omega); omega
    have hT0 : 0 ≤ T := by rw [← hT]; exact Int.tmod_nonneg _ hl0
    have HT := hid hT
    clear hT
    refine loop_F (n := 113) (fun m s wr => ∃ (lst : List Spell) (qc : Qu) (a : Option Addr) (c : Nat), DayI W T m lst qc ∧ s 1 = .int .u16 till ∧ s 2 = .pointer (some ⟨w.heap.size, 0, none⟩) ∧ s 5 = .pointer (some ⟨B5, 0, none⟩) ∧
      Cells wr B5 [.int .i64 qc.now, .slice a qc.jobs.length c] ∧ RdSts wr a qc.jobs ∧ Cells wr w.heap.size #[.int .i64 W.rules.slice, .int .i64 W.rules.load, .int .i64 W.rules.dump, .int .i64 W.rules.patience, .int .i64 W.rules.rate, .slice aj W.jobs.length cj, .slice af W.faults.length cf].toList ∧ Below w.heap.size w wr) (k0 := T.toNat) ⟨[], beginQ W, a0, c0, DayI.start HK.out, sl1, sl2, sl5, k5, hrd0, k2, HB3.out⟩ ?_
    clear sl1 sl2 sl5 k5 hrd0 k2 HB3
    rintro m s wr ⟨lst, qc, a, c, hDI, sl1, sl2, sl5, k5, hqc, k2, hB⟩
    have hjl := hDI.ok.len
    have hjw := HK.out.jl
    have hlm : qc.jobs.length ≤ 12 := by omega
    have HDI := hid hDI
    have Hjl := hid hjl
    have HB := hid hB
    clear hDI hjl hB
    have k5_0 := k5.cell 0 rfl
    have k5_1 := k5.cell 1 rfl
    have k5_s := k5.1
    repeat (first | (refine wp_seq_k (fun K' hK' => ?_)) | (refine wp_block ?_))
    refine cut_F (fun s w5 => s 1 = .int .u16 till ∧ s 2 = .pointer (some ⟨w.heap.size, 0, none⟩) ∧ s 5 = .pointer (some ⟨B5, 0, none⟩) ∧ s 37 = .bool (decide (qc.now < T) && waits qc.jobs) ∧ Below wr.heap.size wr w5) ?_ ?_
    · have hT1 := HT.out
      have hwl : IntKind.i64.wrap till = till := IntWalk.i64_in _ (by omega)
      have hwT : IntKind.i64.wrap T = T := IntWalk.i64_in _ (by omega)
      rcases dec_or (qc.now < T) with t1 | t1
      · repeat (first | ((first | (refine listF_step rfl (fun K' hK => ?_)) | (refine listF_yes rfl rfl (by decide) ?_ (fun K' hK => ?_); (focus (go_simp; done)))); unfold opF; go_simp; (refine hK _ _ ?_); clear hK K') | (refine listF_no (b' := true) rfl rfl (by decide) ?_ ?_ ?_; (focus (go_simp; done)); (focus rfl)) | (refine listF_no (b' := false) rfl rfl (by decide) ?_ ?_ ?_; (focus (go_simp; done)); (focus rfl)) | (refine listF_nu rfl rfl (by decide) ?_ ?_; (focus (go_simp; done))) | (refine listF_nil ?_) | (refine region_F ?_) | (refine cond_F true ?_ ?_; (focus (go_simp; done)); simp only [if_true]) | (refine cond_F false ?_ ?_; (focus (go_simp; done)); simp only [Bool.false_eq_true, if_false]) | (with_reducible go_step))
        (refine listF_yes rfl rfl (by decide) ?_ (fun K' hK => ?_); (focus (go_simp; done)); unfold opF; go_simp; refine (rwaits_any qc.now a c qc.jobs _ (by omega) hqc).mono ?_; rintro e w5 ⟨rfl, hb5⟩; refine ⟨_, rfl, hK _ _ ?_⟩; clear hK K')
        repeat (first | ((first | (refine listF_step rfl (fun K' hK => ?_)) | (refine listF_yes rfl rfl (by decide) ?_ (fun K' hK => ?_); (focus (go_simp; done)))); unfold opF; go_simp; (refine hK _ _ ?_); clear hK K') | (refine listF_no (b' := true) rfl rfl (by decide) ?_ ?_ ?_; (focus (go_simp; done)); (focus rfl)) | (refine listF_no (b' := false) rfl rfl (by decide) ?_ ?_ ?_; (focus (go_simp; done)); (focus rfl)) | (refine listF_nu rfl rfl (by decide) ?_ ?_; (focus (go_simp; done))) | (refine listF_nil ?_) | (refine region_F ?_) | (refine cond_F true ?_ ?_; (focus (go_simp; done)); simp only [if_true]) | (refine cond_F false ?_ ?_; (focus (go_simp; done)); simp only [Bool.false_eq_true, if_false]) | (with_reducible go_step))
        exact ⟨rfl, _, rfl, (by first | (go_simp; done) | exact sl1 | (simp only [updS_some, updS_none, Nat.reduceEqDiff, ↓reduceIte]; exact sl1)), (by first | (go_simp; done) | exact sl2 | (simp only [updS_some, updS_none, Nat.reduceEqDiff, ↓reduceIte]; exact sl2)), (by first | (go_simp; done) | exact sl5 | (simp only [updS_some, updS_none, Nat.reduceEqDiff, ↓reduceIte]; exact sl5)), (by first | (go_simp; done) | (go_simp; simp [t1])), hb5⟩
      · repeat (first | ((first | (refine listF_step rfl (fun K' hK => ?_)) | (refine listF_yes rfl rfl (by decide) ?_ (fun K' hK => ?_); (focus (go_simp; done)))); unfold opF; go_simp; (refine hK _ _ ?_); clear hK K') | (refine listF_no (b' := true) rfl rfl (by decide) ?_ ?_ ?_; (focus (go_simp; done)); (focus rfl)) | (refine listF_no (b' := false) rfl rfl (by decide) ?_ ?_ ?_; (focus (go_simp; done)); (focus rfl)) | (refine listF_nu rfl rfl (by decide) ?_ ?_; (focus (go_simp; done))) | (refine listF_nil ?_) | (refine region_F ?_) | (refine cond_F true ?_ ?_; (focus (go_simp; done)); simp only [if_true]) | (refine cond_F false ?_ ?_; (focus (go_simp; done)); simp only [Bool.false_eq_true, if_false]) | (with_reducible go_step))
        exact ⟨rfl, _, rfl, (by first | (go_simp; done) | exact sl1 | (simp only [updS_some, updS_none, Nat.reduceEqDiff, ↓reduceIte]; exact sl1)), (by first | (go_simp; done) | exact sl2 | (simp only [updS_some, updS_none, Nat.reduceEqDiff, ↓reduceIte]; exact sl2)), (by first | (go_simp; done) | exact sl5 | (simp only [updS_some, updS_none, Nat.reduceEqDiff, ↓reduceIte]; exact sl5)), (by first | (go_simp; done) | (go_simp; simp [t1])), Below.refl _ _⟩
    clear sl1 sl2 sl5
    clear k5_0 k5_1 k5_s
    rintro s w5 ⟨sl1, sl2, sl5, sl37, hb5⟩
    replace k2 := k2.at hb5
    replace k5 := k5.at hb5
    replace hqc := Rd.at hqc hb5
    have HB5 := hid (HB.out.trans (hb5.mono HB.out.size) : Below w.heap.size w w5)
    clear hb5 HB
    rcases Bool.eq_false_or_eq_true (decide (qc.now < T) && waits qc.jobs) with hc | hc
    · rw [hc] at sl37
      simp only [Bool.and_eq_true, decide_eq_true_eq] at hc
      obtain ⟨hnw, hwt⟩ := hc
      obtain ⟨m', rfl, hDI'⟩ := HDI.out.next HK.out hT5 hnw hwt
      have hst := step_ok HK.out HDI.out.ok hwt (by omega)
      have hres := HDI.out.ok.res He.out hwt
      have hkp := step_fair HK.out HDI.out.ok hwt
      have hln := step_len HK.out HDI.out.ok hwt
      have Hst := hid hst
      have HDn := hid hDI'
      have Hres := hid hres
      have Hkp := hid hkp
      have Hln := hid hln
      have HQ := hid HDI.out.ok.q
      clear hst hres hDI' hkp hln HDI hnw hwt
      have k2_0 := k2.cell 0 rfl
      have k2_1 := k2.cell 1 rfl
      have k2_2 := k2.cell 2 rfl
      have k2_3 := k2.cell 3 rfl
      have k2_4 := k2.cell 4 rfl
      have k2_5 := k2.cell 5 rfl
      have k2_6 := k2.cell 6 rfl
      have k2_s := k2.1
      have k5_0 := k5.cell 0 rfl
      have k5_1 := k5.cell 1 rfl
      have k5_s := k5.1
      repeat (first | ((first | (refine listF_step rfl (fun K' hK => ?_)) | (refine listF_yes rfl rfl (by decide) ?_ (fun K' hK => ?_); (focus (go_simp; done)))); unfold opF; go_simp; (refine hK _ _ ?_); clear hK K') | (refine listF_no (b' := true) rfl rfl (by decide) ?_ ?_ ?_; (focus (go_simp; done)); (focus rfl)) | (refine listF_no (b' := false) rfl rfl (by decide) ?_ ?_ ?_; (focus (go_simp; done)); (focus rfl)) | (refine listF_nu rfl rfl (by decide) ?_ ?_; (focus (go_simp; done))) | (refine listF_nil ?_) | (refine region_F ?_) | (refine cond_F true ?_ ?_; (focus (go_simp; done)); simp only [if_true]) | (refine cond_F false ?_ ?_; (focus (go_simp; done)); simp only [Bool.false_eq_true, if_false]) | (with_reducible go_step))
      (refine listF_abs ?_; intro s' hs'; have gl1 := congrFun hs' 1; simp only [updS_some, updS_none, Nat.reduceEqDiff, ↓reduceIte] at gl1; (try rw [sl1] at gl1); have gl2 := congrFun hs' 2; simp only [updS_some, updS_none, Nat.reduceEqDiff, ↓reduceIte] at gl2; (try rw [sl2] at gl2); have gl5 := congrFun hs' 5; simp only [updS_some, updS_none, Nat.reduceEqDiff, ↓reduceIte] at gl5; (try rw [sl5] at gl5); have gl39 := congrFun hs' 39; simp only [updS_some, updS_none, Nat.reduceEqDiff, ↓reduceIte] at gl39; (try rw [sl39] at gl39); have gl40 := congrFun hs' 40; simp only [updS_some, updS_none, Nat.reduceEqDiff, ↓reduceIte] at gl40; (try rw [sl40] at gl40); clear hs'; (try clear sl1); (try clear sl2); (try clear sl5); (try clear sl39); (try clear sl40); have sl1 := gl1; clear gl1; have sl2 := gl2; clear gl2; have sl5 := gl5; clear gl5; have sl39 := gl39; clear gl39; have sl40 := gl40; clear gl40)
      (refine listF_step rfl (fun K' hK => ?_); unfold opF; go_simp; refine (qNext_new W qc aj af a cj cf c _ (HW.out.at HB5.out) hqc).mono ?_; rintro e w6 ⟨a', c', rfl, hqn, hb6, hfr⟩; refine ⟨_, rfl, hK _ _ ?_⟩; clear hK K')
      rw [Hres.out] at hqn ⊢
      clear Hres
      generalize nextStep W qc = ns at *
      obtain ⟨sp, qn⟩ := ns
      clear k2_0 k2_1 k2_2 k2_3 k2_4 k2_5 k2_6 k2_s k5_0 k5_1 k5_s
      have hs56 := hb6.size
      have hs5 : B5 < w5.heap.size := k5.1
      replace k2 := k2.at hb6
      replace k5 := k5.at hb6
      replace hqc := Rd.at hqc hb6
      have HB6 := hid (HB5.out.trans (hb6.mono HB5.out.size) : Below w.heap.size w w6)
      have hfr5 : ∀ b, a' = some b → b.block ≠ B5 := fun b hb => by have := hfr b hb; omega
      clear hb6 HB5 hfr
      have Hfr := hid hfr5
      clear hfr5
      (refine listF_abs ?_; intro s' hs'; have gl1 := congrFun hs' 1; simp only [updS_some, updS_none, Nat.reduceEqDiff, ↓reduceIte] at gl1; (try rw [sl1] at gl1); have gl2 := congrFun hs' 2; simp only [updS_some, updS_none, Nat.reduceEqDiff, ↓reduceIte] at gl2; (try rw [sl2] at gl2); have gl5 := congrFun hs' 5; simp only [updS_some, updS_none, Nat.reduceEqDiff, ↓reduceIte] at gl5; (try rw [sl5] at gl5); have gl41 := congrFun hs' 41; simp only [updS_some, updS_none, Nat.reduceEqDiff, ↓reduceIte] at gl41; (try rw [sl41] at gl41); clear hs'; (try clear sl1); (try clear sl2); (try clear sl5); (try clear sl41); have sl1 := gl1; clear gl1; have sl2 := gl2; clear gl2; have sl5 := gl5; clear gl5; have sl41 := gl41; clear gl41)
      iterate 9 (refine listF_step rfl (fun K' hK => ?_); unfold opF; go_simp; refine hK _ _ ?_; clear hK K')
      refine listF_absw ?_
      intro w7 hw7
      have k7 : Cells w7 w6.heap.size [.int .i64 sp.kind, .int .i64 sp.job, .int .i64 sp.from0, .int .i64 sp.until0] := by rw [hw7]; exact (Cells.new (cs := #[.int .i64 sp.kind, .int .i64 sp.job, .int .i64 sp.from0, .int .i64 sp.until0]) rfl).up _
      have k8 : Cells w7 (w6.heap.size + 1) [.int .i64 qn.now, .slice a' qn.jobs.length c'] := by rw [hw7]; exact Cells.new (cs := #[.int .i64 qn.now, .slice a' qn.jobs.length c']) (by first | omega | (simp; done) | (simp; omega))
      have hb7 : Below w6.heap.size w6 w7 := by rw [hw7]; exact (by repeat (first | (with_reducible exact Below.refl _ w6) | (with_reducible refine bdrewN ?_ _) | (with_reducible refine Below.drew ?_) | (with_reducible refine Below.setCell ?_ (by first | omega | (simp; done) | (simp; omega)) _) | (with_reducible refine Below.alloc ?_ (by first | omega | (simp; done) | (simp; omega)) _)))
      clear hw7
      replace k2 := k2.at hb7
      replace k5 := k5.at hb7
      replace hqc := Rd.at hqc hb7
      replace hqn := Rd.at hqn hb7
      have HB7 := hid (HB6.out.trans (hb7.mono HB6.out.size) : Below w.heap.size w w7)
      clear hb7 HB6
      generalize w6.heap.size = B7 at *
      (refine listF_abs ?_; intro s' hs'; have gl1 := congrFun hs' 1; simp only [updS_some, updS_none, Nat.reduceEqDiff, ↓reduceIte] at gl1; (try rw [sl1] at gl1); have gl2 := congrFun hs' 2; simp only [updS_some, updS_none, Nat.reduceEqDiff, ↓reduceIte] at gl2; (try rw [sl2] at gl2); have gl5 := congrFun hs' 5; simp only [updS_some, updS_none, Nat.reduceEqDiff, ↓reduceIte] at gl5; (try rw [sl5] at gl5); have gl7 := congrFun hs' 7; simp only [updS_some, updS_none, Nat.reduceEqDiff, ↓reduceIte] at gl7; (try rw [sl7] at gl7); have gl8 := congrFun hs' 8; simp only [updS_some, updS_none, Nat.reduceEqDiff, ↓reduceIte] at gl8; (try rw [sl8] at gl8); have gl9 := congrFun hs' 9; simp only [updS_some, updS_none, Nat.reduceEqDiff, ↓reduceIte] at gl9; (try rw [sl9] at gl9); clear hs'; (try clear sl1); (try clear sl2); (try clear sl5); (try clear sl7); (try clear sl8); (try clear sl9); have sl1 := gl1; clear gl1; have sl2 := gl2; clear gl2; have sl5 := gl5; clear gl5; have sl7 := gl7; clear gl7; have sl8 := gl8; clear gl8; have sl9 := gl9; clear gl9)
      have n2 : ((qc.jobs.length : Int) != (W.jobs.length : Int)) = false := by have := Hjl.out; simp; omega
      have n3 : decide ((qc.jobs.length : Int) ≤ sp.job) = false := decide_eq_false (by have := Hkp.out.1; simp only at this; omega)
      have n4 : decide (qn.now ≤ qc.now) = false := decide_eq_false (by have := Hst.out.1; have := Hst.out.2.2.2; simp only at *; omega)
      have k2_0 := k2.cell 0 rfl
      have k2_1 := k2.cell 1 rfl
      have k2_2 := k2.cell 2 rfl
      have k2_3 := k2.cell 3 rfl
      have k2_4 := k2.cell 4 rfl
      have k2_5 := k2.cell 5 rfl
      have k2_6 := k2.cell 6 rfl
      have k2_s := k2.1
      have k5_0 := k5.cell 0 rfl
      have k5_1 := k5.cell 1 rfl
      have k5_s := k5.1
      have k7_0 := k7.cell 0 rfl
      have k7_1 := k7.cell 1 rfl
      have k7_2 := k7.cell 2 rfl
      have k7_3 := k7.cell 3 rfl
      have k7_s := k7.1
      have k8_0 := k8.cell 0 rfl
      have k8_1 := k8.cell 1 rfl
      have k8_s := k8.1
      repeat (first | ((first | (refine listF_step rfl (fun K' hK => ?_)) | (refine listF_yes rfl rfl (by decide) ?_ (fun K' hK => ?_); (focus (go_simp; done)))); unfold opF; go_simp; (refine hK _ _ ?_); clear hK K') | (refine listF_no (b' := true) rfl rfl (by decide) ?_ ?_ ?_; (focus (go_simp; done)); (focus rfl)) | (refine listF_no (b' := false) rfl rfl (by decide) ?_ ?_ ?_; (focus (go_simp; done)); (focus rfl)) | (refine listF_nu rfl rfl (by decide) ?_ ?_; (focus (go_simp; done))) | (refine listF_nil ?_) | (refine region_F ?_) | (refine cond_F true ?_ ?_; (focus (go_simp; done)); simp only [if_true]) | (refine cond_F false ?_ ?_; (focus (go_simp; done)); simp only [Bool.false_eq_true, if_false]) | (with_reducible go_step))
      (refine wp_abs ?_; intro s' hs'; have gl1 := congrFun hs' 1; simp only [updS_some, updS_none, Nat.reduceEqDiff, ↓reduceIte] at gl1; (try rw [sl1] at gl1); have gl2 := congrFun hs' 2; simp only [updS_some, updS_none, Nat.reduceEqDiff, ↓reduceIte] at gl2; (try rw [sl2] at gl2); have gl5 := congrFun hs' 5; simp only [updS_some, updS_none, Nat.reduceEqDiff, ↓reduceIte] at gl5; (try rw [sl5] at gl5); have gl7 := congrFun hs' 7; simp only [updS_some, updS_none, Nat.reduceEqDiff, ↓reduceIte] at gl7; (try rw [sl7] at gl7); have gl8 := congrFun hs' 8; simp only [updS_some, updS_none, Nat.reduceEqDiff, ↓reduceIte] at gl8; (try rw [sl8] at gl8); have gl10 := congrFun hs' 10; simp only [updS_some, updS_none, Nat.reduceEqDiff, ↓reduceIte] at gl10; (try rw [sl10] at gl10); clear hs'; (try clear sl1); (try clear sl2); (try clear sl5); (try clear sl7); (try clear sl8); (try clear sl10); have sl1 := gl1; clear gl1; have sl2 := gl2; clear gl2; have sl5 := gl5; clear gl5; have sl7 := gl7; clear gl7; have sl8 := gl8; clear gl8; have sl10 := gl10; clear gl10)
      clear k2_0 k2_1 k2_2 k2_3 k2_4 k2_5 k2_6 k2_s k5_0 k5_1 k5_s k7_0 k7_1 k7_2 k7_3 k7_s k8_0 k8_1 k8_s
      clear n2 n3 n4
      refine loop_F (n := 113) (fun k s wr => ∃ i : Nat, k = qc.jobs.length - i ∧ i ≤ qc.jobs.length ∧ s 1 = .int .u16 till ∧ s 2 = .pointer (some ⟨w.heap.size, 0, none⟩) ∧ s 5 = .pointer (some ⟨B5, 0, none⟩) ∧ s 7 = .pointer (some ⟨B7, 0, none⟩) ∧ s 8 = .pointer (some ⟨B7 + 1, 0, none⟩) ∧ s 10 = .int .i64 i ∧ Below w7.heap.size w7 wr) (k0 := qc.jobs.length) ⟨0, by omega, by omega, sl1, sl2, sl5, sl7, sl8, sl10, Below.refl _ _⟩ ?_
      clear sl1 sl2 sl5 sl7 sl8 sl10
      rintro k s wi ⟨i, rfl, hi, sl1, sl2, sl5, sl7, sl8, sl10, hBi⟩
      replace k2 := k2.at hBi
      replace k5 := k5.at hBi
      replace k7 := k7.at hBi
      replace k8 := k8.at hBi
      replace hqc := Rd.at hqc hBi
      replace hqn := Rd.at hqn hBi
      have HBi := hid hBi
      have HBw := hid (HB7.out.trans (hBi.mono HB7.out.size) : Below w.heap.size w wi)
      clear hBi
      have k2_0 := k2.cell 0 rfl
      have k2_1 := k2.cell 1 rfl
      have k2_2 := k2.cell 2 rfl
      have k2_3 := k2.cell 3 rfl
      have k2_4 := k2.cell 4 rfl
      have k2_5 := k2.cell 5 rfl
      have k2_6 := k2.cell 6 rfl
      have k2_s := k2.1
      have k5_0 := k5.cell 0 rfl
      have k5_1 := k5.cell 1 rfl
      have k5_s := k5.1
      have k7_0 := k7.cell 0 rfl
      have k7_1 := k7.cell 1 rfl
      have k7_2 := k7.cell 2 rfl
      have k7_3 := k7.cell 3 rfl
      have k7_s := k7.1
      have k8_0 := k8.cell 0 rfl
      have k8_1 := k8.cell 1 rfl
      have k8_s := k8.1
      repeat (first | (refine wp_seq_k (fun K' hK' => ?_)) | (refine wp_block ?_))
      refine cut_F (fun s w5 => s 1 = .int .u16 till ∧ s 2 = .pointer (some ⟨w.heap.size, 0, none⟩) ∧ s 5 = .pointer (some ⟨B5, 0, none⟩) ∧ s 7 = .pointer (some ⟨B7, 0, none⟩) ∧ s 8 = .pointer (some ⟨B7 + 1, 0, none⟩) ∧ s 10 = .int .i64 i ∧ s 80 = .bool (decide (i < qc.jobs.length) && decide (0 ≤ sp.job)) ∧ w5 = wi) ?_ ?_
      · rcases dec_or (i < qc.jobs.length) with t1 | t1
        all_goals repeat (first | ((first | (refine listF_step rfl (fun K' hK => ?_)) | (refine listF_yes rfl rfl (by decide) ?_ (fun K' hK => ?_); (focus (go_simp; done)))); unfold opF; go_simp; (refine hK _ _ ?_); clear hK K') | (refine listF_no (b' := true) rfl rfl (by decide) ?_ ?_ ?_; (focus (go_simp; done)); (focus rfl)) | (refine listF_no (b' := false) rfl rfl (by decide) ?_ ?_ ?_; (focus (go_simp; done)); (focus rfl)) | (refine listF_nu rfl rfl (by decide) ?_ ?_; (focus (go_simp; done))) | (refine listF_nil ?_) | (refine region_F ?_) | (refine cond_F true ?_ ?_; (focus (go_simp; done)); simp only [if_true]) | (refine cond_F false ?_ ?_; (focus (go_simp; done)); simp only [Bool.false_eq_true, if_false]) | (with_reducible go_step))
        all_goals exact ⟨rfl, _, rfl, (by first | (go_simp; done) | exact sl1 | (simp only [updS_some, updS_none, Nat.reduceEqDiff, ↓reduceIte]; exact sl1)), (by first | (go_simp; done) | exact sl2 | (simp only [updS_some, updS_none, Nat.reduceEqDiff, ↓reduceIte]; exact sl2)), (by first | (go_simp; done) | exact sl5 | (simp only [updS_some, updS_none, Nat.reduceEqDiff, ↓reduceIte]; exact sl5)), (by first | (go_simp; done) | exact sl7 | (simp only [updS_some, updS_none, Nat.reduceEqDiff, ↓reduceIte]; exact sl7)), (by first | (go_simp; done) | exact sl8 | (simp only [updS_some, updS_none, Nat.reduceEqDiff, ↓reduceIte]; exact sl8)), (by first | (go_simp; done) | exact sl10 | (simp only [updS_some, updS_none, Nat.reduceEqDiff, ↓reduceIte]; exact sl10)), (by first | (go_simp; done) | (go_simp; simp [t1])), rfl⟩
      clear sl1 sl2 sl5 sl7 sl8 sl10
      rintro s w5 ⟨sl1, sl2, sl5, sl7, sl8, sl10, sl80, rfl⟩
      rcases Bool.eq_false_or_eq_true (decide (i < qc.jobs.length) && decide (0 ≤ sp.job)) with hc2 | hc2
      · rw [hc2] at sl80
        simp only [Bool.and_eq_true, decide_eq_true_eq] at hc2
        obtain ⟨hlt, hjp⟩ := hc2
        clear k2_0 k2_1 k2_2 k2_3 k2_4 k2_5 k2_6 k2_s k5_0 k5_1 k5_s k7_0 k7_1 k7_2 k7_3 k7_s k8_0 k8_1 k8_s
        have hkp := Hkp.out.2 hjp
        simp only at hkp
        obtain ⟨m, hjm, hm, hcm, hall⟩ := hkp
        have hav := hall i hlt
        clear hall hcm
        rw [hjm] at k7
        obtain ⟨x1, o1, rfl, hx1, d1, d2, d3, d4, d5⟩ := RdSts.ne hqc hlt
        obtain ⟨x2, o2, hxe, hx2, e1, e2, e3, e4, e5⟩ := RdSts.ne hqc hm
        cases hxe
        have HO : ∀ (k : Nat), k < qc.jobs.length → ∀ wq, Below w5.heap.size w5 wq → Calls Try.prog 41 #[.agg #[.int .i64 W.rules.slice, .int .i64 W.rules.load, .int .i64 W.rules.dump, .int .i64 W.rules.patience, .int .i64 W.rules.rate, .slice aj W.jobs.length cj, .slice af W.faults.length cf], .agg #[.int .i64 qc.now, .slice (some ⟨x1, o1, none⟩) qc.jobs.length c], .int .i64 (k : Int)] wq fun e w'' => e = .returned (.bool (overdue W qc k)) ∧ Below w5.heap.size w5 w'' :=
          fun k hk wq hwq => (roverdue_any W qc aj af (some ⟨x1, o1, none⟩) cj cf c k wq (HW.out.at (HBw.out.trans (hwq.mono HBw.out.size))) (Rd.at hqc hwq) HQ.out hk).mono fun _ _ ⟨h1, h2⟩ => ⟨h1, hwq.trans (h2.mono hwq.size)⟩
        have HO1 := hid (HO i hlt)
        have HO2 := hid (HO m hm)
        clear HO
        rw [Qu.st_eq hlt, Qu.st_eq hm] at hav
        have k2_0 := k2.cell 0 rfl
        have k2_1 := k2.cell 1 rfl
        have k2_2 := k2.cell 2 rfl
        have k2_3 := k2.cell 3 rfl
        have k2_4 := k2.cell 4 rfl
        have k2_5 := k2.cell 5 rfl
        have k2_6 := k2.cell 6 rfl
        have k2_s := k2.1
        have k5_0 := k5.cell 0 rfl
        have k5_1 := k5.cell 1 rfl
        have k5_s := k5.1
        have k7_0 := k7.cell 0 rfl
        have k7_1 := k7.cell 1 rfl
        have k7_2 := k7.cell 2 rfl
        have k7_3 := k7.cell 3 rfl
        have k7_s := k7.1
        have k8_0 := k8.cell 0 rfl
        have k8_1 := k8.cell 1 rfl
        have k8_s := k8.1
        repeat (first | ((first | (refine listF_step rfl (fun K' hK => ?_)) | (refine listF_yes rfl rfl (by decide) ?_ (fun K' hK => ?_); (focus (go_simp; done)))); unfold opF; go_simp; (refine hK _ _ ?_); clear hK K') | (refine listF_no (b' := true) rfl rfl (by decide) ?_ ?_ ?_; (focus (go_simp; done)); (focus rfl)) | (refine listF_no (b' := false) rfl rfl (by decide) ?_ ?_ ?_; (focus (go_simp; done)); (focus rfl)) | (refine listF_nu rfl rfl (by decide) ?_ ?_; (focus (go_simp; done))) | (refine listF_nil ?_) | (refine region_F ?_) | (refine cond_F true ?_ ?_; (focus (go_simp; done)); simp only [if_true]) | (refine cond_F false ?_ ?_; (focus (go_simp; done)); simp only [Bool.false_eq_true, if_false]) | (with_reducible go_step))
        repeat (first | (refine wp_seq_k (fun K' hK' => ?_)) | (refine wp_block ?_))
        refine cut_F (fun s wq => s 1 = .int .u16 till ∧ s 2 = .pointer (some ⟨w.heap.size, 0, none⟩) ∧ s 5 = .pointer (some ⟨B5, 0, none⟩) ∧ s 7 = .pointer (some ⟨B7, 0, none⟩) ∧ s 8 = .pointer (some ⟨B7 + 1, 0, none⟩) ∧ s 10 = .int .i64 i ∧ s 110 = .bool false ∧ Below w5.heap.size w5 wq) ?_ ?_
        · rcases Bool.eq_false_or_eq_true (overdue W qc i) with ho | ho
          · obtain ⟨hom, hs2⟩ := hav ho
            rw [ho] at HO1
            rw [hom] at HO2
            have g1 : decide (qc.jobs[i].since < qc.jobs[m].since) = false := decide_eq_false (by omega)
            clear hs2 hav
            refine regionQ_F (Below w5.heap.size w5) (by kernel_rfl) (by kernel_rfl) (Below.refl _ _).drew ?_
            iterate 9 (first | (refine listQ_step (v := ?_) rfl ?_ ?_; rotate_left; (focus (intro wq hwq; obtain ⟨hcq, hfq⟩ := bcell hwq; go_simp; (first | rfl | (exact ⟨rfl, rfl⟩) | ( exact HO1.out _ hwq))))) | (refine listQ_yes (v := ?_) rfl rfl (by decide) ?_ ?_ ?_; rotate_left; (focus (go_simp; done)); (focus (intro wq hwq; obtain ⟨hcq, hfq⟩ := bcell hwq; go_simp; (first | rfl | (exact ⟨rfl, rfl⟩) | ( exact HO1.out _ hwq))))) | (refine listQ_no (b' := true) rfl rfl (by decide) ?_ ?_ ?_; (focus (go_simp; done)); (focus rfl)) | (refine listQ_no (b' := false) rfl rfl (by decide) ?_ ?_ ?_; (focus (go_simp; done)); (focus rfl)) | (refine listQ_nu rfl rfl (by decide) ?_ ?_; (focus (go_simp; done))) | (refine listQ_nil ?_))
            repeat (first | (refine listQ_step (v := ?_) rfl ?_ ?_; rotate_left; (focus (intro wq hwq; obtain ⟨hcq, hfq⟩ := bcell hwq; go_simp; (first | rfl | (exact ⟨rfl, rfl⟩) | (exact HO2.out _ hwq))))) | (refine listQ_yes (v := ?_) rfl rfl (by decide) ?_ ?_ ?_; rotate_left; (focus (go_simp; done)); (focus (intro wq hwq; obtain ⟨hcq, hfq⟩ := bcell hwq; go_simp; (first | rfl | (exact ⟨rfl, rfl⟩) | (exact HO2.out _ hwq))))) | (refine listQ_no (b' := true) rfl rfl (by decide) ?_ ?_ ?_; (focus (go_simp; done)); (focus rfl)) | (refine listQ_no (b' := false) rfl rfl (by decide) ?_ ?_ ?_; (focus (go_simp; done)); (focus rfl)) | (refine listQ_nu rfl rfl (by decide) ?_ ?_; (focus (go_simp; done))) | (refine listQ_nil ?_))
            intro w8 hw8
            exact ⟨rfl, _, rfl, (by first | (go_simp; done) | exact sl1 | (simp only [updS_some, updS_none, Nat.reduceEqDiff, ↓reduceIte]; exact sl1)), (by first | (go_simp; done) | exact sl2 | (simp only [updS_some, updS_none, Nat.reduceEqDiff, ↓reduceIte]; exact sl2)), (by first | (go_simp; done) | exact sl5 | (simp only [updS_some, updS_none, Nat.reduceEqDiff, ↓reduceIte]; exact sl5)), (by first | (go_simp; done) | exact sl7 | (simp only [updS_some, updS_none, Nat.reduceEqDiff, ↓reduceIte]; exact sl7)), (by first | (go_simp; done) | exact sl8 | (simp only [updS_some, updS_none, Nat.reduceEqDiff, ↓reduceIte]; exact sl8)), (by first | (go_simp; done) | exact sl10 | (simp only [updS_some, updS_none, Nat.reduceEqDiff, ↓reduceIte]; exact sl10)), by go_simp, hw8⟩
          · rw [ho] at HO1
            clear hav HO2
            refine regionQ_F (Below w5.heap.size w5) (by kernel_rfl) (by kernel_rfl) (Below.refl _ _).drew ?_
            repeat (first | (refine listQ_step (v := ?_) rfl ?_ ?_; rotate_left; (focus (intro wq hwq; obtain ⟨hcq, hfq⟩ := bcell hwq; go_simp; (first | rfl | (exact ⟨rfl, rfl⟩) | ((exact HO1.out _ hwq)))))) | (refine listQ_yes (v := ?_) rfl rfl (by decide) ?_ ?_ ?_; rotate_left; (focus (go_simp; done)); (focus (intro wq hwq; obtain ⟨hcq, hfq⟩ := bcell hwq; go_simp; (first | rfl | (exact ⟨rfl, rfl⟩) | ((exact HO1.out _ hwq)))))) | (refine listQ_no (b' := true) rfl rfl (by decide) ?_ ?_ ?_; (focus (go_simp; done)); (focus rfl)) | (refine listQ_no (b' := false) rfl rfl (by decide) ?_ ?_ ?_; (focus (go_simp; done)); (focus rfl)) | (refine listQ_nu rfl rfl (by decide) ?_ ?_; (focus (go_simp; done))) | (refine listQ_nil ?_))
            intro w8 hw8
            exact ⟨rfl, _, rfl, (by first | (go_simp; done) | exact sl1 | (simp only [updS_some, updS_none, Nat.reduceEqDiff, ↓reduceIte]; exact sl1)), (by first | (go_simp; done) | exact sl2 | (simp only [updS_some, updS_none, Nat.reduceEqDiff, ↓reduceIte]; exact sl2)), (by first | (go_simp; done) | exact sl5 | (simp only [updS_some, updS_none, Nat.reduceEqDiff, ↓reduceIte]; exact sl5)), (by first | (go_simp; done) | exact sl7 | (simp only [updS_some, updS_none, Nat.reduceEqDiff, ↓reduceIte]; exact sl7)), (by first | (go_simp; done) | exact sl8 | (simp only [updS_some, updS_none, Nat.reduceEqDiff, ↓reduceIte]; exact sl8)), (by first | (go_simp; done) | exact sl10 | (simp only [updS_some, updS_none, Nat.reduceEqDiff, ↓reduceIte]; exact sl10)), by go_simp, hw8⟩
        clear sl1 sl2 sl5 sl7 sl8 sl10 sl80
        rintro s w8 ⟨sl1, sl2, sl5, sl7, sl8, sl10, sl110, hw8⟩
        have HB8 := hid (HBi.out.trans (hw8.mono HBi.out.size) : Below w7.heap.size w7 w8)
        clear hw8
        have hwi : IntKind.i64.wrap ((i : Int) + 1) = (i : Int) + 1 := IntWalk.i64_in _ (by omega)
        repeat (first | ((first | (refine listF_step rfl (fun K' hK => ?_)) | (refine listF_yes rfl rfl (by decide) ?_ (fun K' hK => ?_); (focus (go_simp; done)))); unfold opF; go_simp; (refine hK _ _ ?_); clear hK K') | (refine listF_no (b' := true) rfl rfl (by decide) ?_ ?_ ?_; (focus (go_simp; done)); (focus rfl)) | (refine listF_no (b' := false) rfl rfl (by decide) ?_ ?_ ?_; (focus (go_simp; done)); (focus rfl)) | (refine listF_nu rfl rfl (by decide) ?_ ?_; (focus (go_simp; done))) | (refine listF_nil ?_) | (refine region_F ?_) | (refine cond_F true ?_ ?_; (focus (go_simp; done)); simp only [if_true]) | (refine cond_F false ?_ ?_; (focus (go_simp; done)); simp only [Bool.false_eq_true, if_false]) | (with_reducible go_step))
        refine ⟨_, _, rfl, ?_, i + 1, rfl, by omega, (by first | (go_simp; done) | exact sl1 | (simp only [updS_some, updS_none, Nat.reduceEqDiff, ↓reduceIte]; exact sl1)), (by first | (go_simp; done) | exact sl2 | (simp only [updS_some, updS_none, Nat.reduceEqDiff, ↓reduceIte]; exact sl2)), (by first | (go_simp; done) | exact sl5 | (simp only [updS_some, updS_none, Nat.reduceEqDiff, ↓reduceIte]; exact sl5)), (by first | (go_simp; done) | exact sl7 | (simp only [updS_some, updS_none, Nat.reduceEqDiff, ↓reduceIte]; exact sl7)), (by first | (go_simp; done) | exact sl8 | (simp only [updS_some, updS_none, Nat.reduceEqDiff, ↓reduceIte]; exact sl8)), by go_simp, HB8.out⟩
        omega
      · rw [hc2] at sl80
        have k5_z := k5.2.2
        repeat (first | ((first | (refine listF_step rfl (fun K' hK => ?_)) | (refine listF_yes rfl rfl (by decide) ?_ (fun K' hK => ?_); (focus (go_simp; done)))); unfold opF; go_simp; (refine hK _ _ ?_); clear hK K') | (refine listF_no (b' := true) rfl rfl (by decide) ?_ ?_ ?_; (focus (go_simp; done)); (focus rfl)) | (refine listF_no (b' := false) rfl rfl (by decide) ?_ ?_ ?_; (focus (go_simp; done)); (focus rfl)) | (refine listF_nu rfl rfl (by decide) ?_ ?_; (focus (go_simp; done))) | (refine listF_nil ?_) | (refine region_F ?_) | (refine cond_F true ?_ ?_; (focus (go_simp; done)); simp only [if_true]) | (refine cond_F false ?_ ?_; (focus (go_simp; done)); simp only [Bool.false_eq_true, if_false]) | (with_reducible go_step))
        refine ⟨m', _, rfl, by omega, lst ++ [sp], qn, a', c', HDn.out, (by first | (go_simp; done) | exact sl1 | (simp only [updS_some, updS_none, Nat.reduceEqDiff, ↓reduceIte]; exact sl1)), (by first | (go_simp; done) | exact sl2 | (simp only [updS_some, updS_none, Nat.reduceEqDiff, ↓reduceIte]; exact sl2)), (by first | (go_simp; done) | exact sl5 | (simp only [updS_some, updS_none, Nat.reduceEqDiff, ↓reduceIte]; exact sl5)), (by apply Cells.conv; (focus (repeat (first | (with_reducible exact k5) | (with_reducible apply Cells.set) | ((with_reducible apply Cells.setFar); case hn => omega) | (with_reducible apply Cells.up) | (with_reducible apply Cells.drew)))); rfl), Rd.two hqn Hfr.out, (k2.setFar (by omega)).setFar (by omega), (by repeat (first | (with_reducible exact HBw.out) | (with_reducible refine bdrewN ?_ _) | (with_reducible refine Below.drew ?_) | (with_reducible refine Below.setCell ?_ (by first | omega | (simp; done) | (simp; omega)) _) | (with_reducible refine Below.alloc ?_ (by first | omega | (simp; done) | (simp; omega)) _)))⟩
    · rw [hc] at sl37
      repeat (first | ((first | (refine listF_step rfl (fun K' hK => ?_)) | (refine listF_yes rfl rfl (by decide) ?_ (fun K' hK => ?_); (focus (go_simp; done)))); unfold opF; go_simp; (refine hK _ _ ?_); clear hK K') | (refine listF_no (b' := true) rfl rfl (by decide) ?_ ?_ ?_; (focus (go_simp; done)); (focus rfl)) | (refine listF_no (b' := false) rfl rfl (by decide) ?_ ?_ ?_; (focus (go_simp; done)); (focus rfl)) | (refine listF_nu rfl rfl (by decide) ?_ ?_; (focus (go_simp; done))) | (refine listF_nil ?_) | (refine region_F ?_) | (refine cond_F true ?_ ?_; (focus (go_simp; done)); simp only [if_true]) | (refine cond_F false ?_ ?_; (focus (go_simp; done)); simp only [Bool.false_eq_true, if_false]) | (with_reducible go_step))
      (refine listF_step rfl (fun K' hK => ?_); unfold opF; go_simp; refine (awake_any _).mono ?_; rintro e w9 ⟨rfl, hb9⟩; refine ⟨_, rfl, hK _ _ ?_⟩; clear hK K')
      repeat (first | ((first | (refine listF_step rfl (fun K' hK => ?_)) | (refine listF_yes rfl rfl (by decide) ?_ (fun K' hK => ?_); (focus (go_simp; done)))); unfold opF; go_simp; (refine hK _ _ ?_); clear hK K') | (refine listF_no (b' := true) rfl rfl (by decide) ?_ ?_ ?_; (focus (go_simp; done)); (focus rfl)) | (refine listF_no (b' := false) rfl rfl (by decide) ?_ ?_ ?_; (focus (go_simp; done)); (focus rfl)) | (refine listF_nu rfl rfl (by decide) ?_ ?_; (focus (go_simp; done))) | (refine listF_nil ?_) | (refine region_F ?_) | (refine cond_F true ?_ ?_; (focus (go_simp; done)); simp only [if_true]) | (refine cond_F false ?_ ?_; (focus (go_simp; done)); simp only [Bool.false_eq_true, if_false]) | (with_reducible go_step))
      exact ret_F (.bool true) (res1_F Try.results12 (by decide) (by go_simp)) ⟨rfl, HB5.out.trans (hb9.mono HB5.out.size)⟩
  · have HE := hid he
    have hE' : (W.err != 0) = true := by simp [he]
    have hbj : begJobs W = [] := by unfold begJobs; rw [if_neg he]
    rw [hbj] at hrd0 ⊢
    clear hbj he
    simp only [List.length_nil]
    repeat (first | ((first | (refine listF_step rfl (fun K' hK => ?_)) | (refine listF_yes rfl rfl (by decide) ?_ (fun K' hK => ?_); (focus (go_simp; done)))); unfold opF; go_simp; (refine hK _ _ ?_); clear hK K') | (refine listF_no (b' := true) rfl rfl (by decide) ?_ ?_ ?_; (focus (go_simp; done)); (focus rfl)) | (refine listF_no (b' := false) rfl rfl (by decide) ?_ ?_ ?_; (focus (go_simp; done)); (focus rfl)) | (refine listF_nu rfl rfl (by decide) ?_ ?_; (focus (go_simp; done))) | (refine listF_nil ?_) | (refine region_F ?_) | (refine cond_F true ?_ ?_; (focus (go_simp; done)); simp only [if_true]) | (refine cond_F false ?_ ?_; (focus (go_simp; done)); simp only [Bool.false_eq_true, if_false]) | (with_reducible go_step))
    (refine listF_yes rfl rfl (by decide) ?_ (fun K' hK => ?_); (focus (go_simp; done)); unfold opF; go_simp; refine (awake_any _).mono ?_; rintro e w9 ⟨rfl, hb9⟩; refine ⟨_, rfl, hK _ _ ?_⟩; clear hK K')
    have hsx := HB1.out.size
    have HBx := hid (Below.trans ((by repeat (first | (with_reducible exact HB1.out) | (with_reducible refine bdrewN ?_ _) | (with_reducible refine Below.drew ?_) | (with_reducible refine Below.setCell ?_ (by first | omega | (simp; done) | (simp; omega)) _) | (with_reducible refine Below.alloc ?_ (by first | omega | (simp; done) | (simp; omega)) _)))) (hb9.mono (by have := HB1.out.size; simp; omega)) : Below w.heap.size w w9)
    repeat (first | ((first | (refine listF_step rfl (fun K' hK => ?_)) | (refine listF_yes rfl rfl (by decide) ?_ (fun K' hK => ?_); (focus (go_simp; done)))); unfold opF; go_simp; (refine hK _ _ ?_); clear hK K') | (refine listF_no (b' := true) rfl rfl (by decide) ?_ ?_ ?_; (focus (go_simp; done)); (focus rfl)) | (refine listF_no (b' := false) rfl rfl (by decide) ?_ ?_ ?_; (focus (go_simp; done)); (focus rfl)) | (refine listF_nu rfl rfl (by decide) ?_ ?_; (focus (go_simp; done))) | (refine listF_nil ?_) | (refine region_F ?_) | (refine cond_F true ?_ ?_; (focus (go_simp; done)); simp only [if_true]) | (refine cond_F false ?_ ?_; (focus (go_simp; done)); simp only [Bool.false_eq_true, if_false]) | (with_reducible go_step))
    exact ret_F (.bool true) (res1_F Try.results12 (by decide) (by go_simp)) ⟨rfl, HBx.out⟩

end Go.Proofs.Ytbjgebbfachgfaa
