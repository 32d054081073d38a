/- QueueEnds: its walk. -/
import Derived.Test.YtbjgebbfachgfaacLP
import Derived.Test.YtbjgebbfachgfaacPure12
set_option linter.unusedVariables false
set_option linter.unusedSimpArgs false
set_option linter.unusedSectionVars false
set_option linter.all false
namespace Go.Proofs.Ytbjgebbfachgfaa
open Go.RowKit

theorem EOk.res {W : Work} {N : Int} {q : Qu} (hE : EOk W N q) (hN : N ≤ 1000000) (he : W.err = 0) : nextRes W q = if waits q.jobs = false then (Spell.zero, Qu.zero, 9) else ((nextStep W q).1, (nextStep W q).2, 0) := by
  unfold nextRes
  rw [(hE.q hN).err he]
  by_cases h : waits q.jobs = false
  · rw [if_pos h, if_pos h, if_neg (by decide)]
  · rw [if_neg h, if_neg h, if_pos rfl]

set_option maxRecDepth 100000 in
set_option maxHeartbeats 8000000 in
theorem ends_walk (W0 : Work) (aj af : Option Addr) (cj cf : Nat) (w : World) (hW0 : WorkIn w W0 aj af) :
    Calls Try.prog 15 #[.agg #[.int .i64 W0.rules.slice, .int .i64 W0.rules.load, .int .i64 W0.rules.dump, .int .i64 W0.rules.patience, .int .i64 W0.rules.rate, .slice aj W0.jobs.length cj, .slice af W0.faults.length cf]] w fun e w' => e = .returned (.bool true) ∧ Below w.heap.size w w' := by
  obtain ⟨W, hWe⟩ : ∃ W : Work, (⟨⟨(if W0.rules.slice < 50 then 50 else W0.rules.slice), W0.rules.load, W0.rules.dump, W0.rules.patience, W0.rules.rate⟩, W0.jobs, []⟩ : Work) = W := ⟨_, rfl⟩
  have hS : 50 ≤ W.rules.slice := by rw [← hWe]; show 50 ≤ (if W0.rules.slice < 50 then 50 else W0.rules.slice); split <;> omega
  have hF0 : W.faults = [] := by rw [← hWe]
  have HW := hid (show WorkIn w W aj none by rw [← hWe]; exact ⟨hW0.jobs, .inl rfl, hW0.jl, by simp, hW0.nm⟩)
  have HS := hid hS
  have HF0 := hid hF0
  clear hW0 hF0
  refine enter_F Try.func15 rfl Try.ntmps15 (by simp) ?_
  intro s hs
  have sl0 : s 0 = .agg #[.int .i64 W0.rules.slice, .int .i64 W0.rules.load, .int .i64 W0.rules.dump, .int .i64 W0.rules.patience, .int .i64 W0.rules.rate, .slice aj W0.jobs.length cj, .slice af W0.faults.length cf] := hs 0 (by simp)
  clear hs
  repeat (first | ((first | (refine listF_step rfl (fun K' hK => ?_)) | (refine listF_yes rfl rfl (by decide) ?_ (fun K' hK => ?_); (focus (go_simp; done)))); unfold opF; go_simp; (refine hK _ _ ?_); clear hK K') | (refine listF_no (b' := true) rfl rfl (by decide) ?_ ?_ ?_; (focus (go_simp; done)); (focus rfl)) | (refine listF_no (b' := false) rfl rfl (by decide) ?_ ?_ ?_; (focus (go_simp; done)); (focus rfl)) | (refine listF_nu rfl rfl (by decide) ?_ ?_; (focus (go_simp; done))) | (refine listF_nil ?_) | (refine region_F ?_) | (refine cond_F true ?_ ?_; (focus (go_simp; done)); simp only [if_true]) | (refine cond_F false ?_ ?_; (focus (go_simp; done)); simp only [Bool.false_eq_true, if_false]) | (with_reducible go_step))
  refine listF_absw ?_
  intro w1 hw1
  have k1 : Cells w1 w.heap.size #[.int .i64 W.rules.slice, .int .i64 W.rules.load, .int .i64 W.rules.dump, .int .i64 W.rules.patience, .int .i64 W.rules.rate, .slice aj W.jobs.length cj, .slice none W.faults.length 0].toList := by rw [hw1, ← hWe]; exact Cells.new (cs := #[.int .i64 (if W0.rules.slice < 50 then 50 else W0.rules.slice), .int .i64 W0.rules.load, .int .i64 W0.rules.dump, .int .i64 W0.rules.patience, .int .i64 W0.rules.rate, .slice aj W0.jobs.length cj, .slice none 0 0]) rfl
  have HB0 := hid (show Below w.heap.size w w1 by rw [hw1]; exact (by repeat (first | (with_reducible exact Below.refl _ w) | (with_reducible refine bdrewN ?_ _) | (with_reducible refine Below.drew ?_) | (with_reducible refine Below.setCell ?_ (by first | omega | (simp; done) | (simp; omega)) _) | (with_reducible refine Below.alloc ?_ (by first | omega | (simp; done) | (simp; omega)) _))))
  clear hw1
  refine listF_abs ?_
  intro s' hs'
  have gl1 := congrFun hs' 1
  simp only [updS_some, updS_none, Nat.reduceEqDiff, ↓reduceIte] at gl1
  have gl20 : s' 20 = .agg #[.int .i64 W.rules.slice, .int .i64 W.rules.load, .int .i64 W.rules.dump, .int .i64 W.rules.patience, .int .i64 W.rules.rate, .slice aj W.jobs.length cj, .slice none W.faults.length 0] := by have := congrFun hs' 20; rw [← hWe]; simpa [updS] using this
  clear hs' sl0
  have sl1 := gl1
  have sl20 := gl20
  clear gl1 gl20 hWe
  (refine listF_step rfl (fun K' hK => ?_); unfold opF; go_simp; refine (valid_any W aj none cj 0 _ (HW.out.at HB0.out)).mono ?_; rintro e w2 ⟨rfl, hb2⟩; refine ⟨_, rfl, hK _ _ ?_⟩; clear hK K')
  replace k1 := k1.at hb2
  have HB1 := hid (HB0.out.trans (hb2.mono HB0.out.size) : Below w.heap.size w w2)
  clear hb2 HB0
  (refine listF_abs ?_; intro s' hs'; have gl1 := congrFun hs' 1; simp only [updS_some, updS_none, Nat.reduceEqDiff, ↓reduceIte] at gl1; (try rw [sl1] at gl1); have gl21 := congrFun hs' 21; simp only [updS_some, updS_none, Nat.reduceEqDiff, ↓reduceIte] at gl21; (try rw [sl21] at gl21); clear hs'; (try clear sl1); (try clear sl21); have sl1 := gl1; clear gl1; have sl21 := gl21; clear gl21)
  rcases Bool.eq_false_or_eq_true (W.err == 0) with he | he
  · rw [he] at sl21
    have He : Hid (W.err = 0) := hid (by simpa using he)
    have HK := hid (wok_of_err He.out)
    clear he
    repeat (first | ((first | (refine listF_step rfl (fun K' hK => ?_)) | (refine listF_yes rfl rfl (by decide) ?_ (fun K' hK => ?_); (focus (go_simp; done)))); unfold opF; go_simp; (refine hK _ _ ?_); clear hK K') | (refine listF_no (b' := true) rfl rfl (by decide) ?_ ?_ ?_; (focus (go_simp; done)); (focus rfl)) | (refine listF_no (b' := false) rfl rfl (by decide) ?_ ?_ ?_; (focus (go_simp; done)); (focus rfl)) | (refine listF_nu rfl rfl (by decide) ?_ ?_; (focus (go_simp; done))) | (refine listF_nil ?_) | (refine region_F ?_) | (refine cond_F true ?_ ?_; (focus (go_simp; done)); simp only [if_true]) | (refine cond_F false ?_ ?_; (focus (go_simp; done)); simp only [Bool.false_eq_true, if_false]) | (with_reducible go_step))
    (refine wp_abs ?_; intro s' hs'; have gl1 := congrFun hs' 1; simp only [updS_some, updS_none, Nat.reduceEqDiff, ↓reduceIte] at gl1; (try rw [sl1] at gl1); have gl3 := congrFun hs' 3; simp only [updS_some, updS_none, Nat.reduceEqDiff, ↓reduceIte] at gl3; (try rw [sl3] at gl3); clear hs'; (try clear sl1); (try clear sl3); have sl1 := gl1; clear gl1; have sl3 := gl3; clear gl3)
    have hjw := HK.out.jl
    have hend : ∀ (e : Prop), True := fun _ => trivial
    refine loop_F (n := 92) (fun k s wr => ∃ i : Nat, k = W.jobs.length - i ∧ i ≤ W.jobs.length ∧ Hid (∀ m, m < i → (W.job m).fin ≤ 200) ∧ s 1 = .pointer (some ⟨w.heap.size, 0, none⟩) ∧ s 3 = .int .i64 i ∧ Below w2.heap.size w2 wr) (k0 := W.jobs.length) ⟨0, by omega, by omega, hid (fun m hm => by omega), sl1, sl3, Below.refl _ _⟩ ?_
    clear sl1 sl3
    rintro k s w3 ⟨i, rfl, hi, hfi, sl1, sl3, hB3⟩
    replace k1 := k1.at hB3
    have HB3 := hid (HB1.out.trans (hB3.mono HB1.out.size) : Below w.heap.size w w3)
    have Hb3 := hid hB3
    have hs23 := hB3.size
    clear hB3
    have k1_0 := k1.cell 0 rfl
    have k1_1 := k1.cell 1 rfl
    have k1_2 := k1.cell 2 rfl
    have k1_3 := k1.cell 3 rfl
    have k1_4 := k1.cell 4 rfl
    have k1_5 := k1.cell 5 rfl
    have k1_6 := k1.cell 6 rfl
    have k1_s := k1.1
    by_cases hlt : i < W.jobs.length
    · have hJ := (HW.out.at HB3.out).jobs
      obtain ⟨x1, o1, rfl, hx1, d1, d2, d3, d4⟩ := RdJobs.ne hJ hlt
      repeat (first | ((first | (refine listF_step rfl (fun K' hK => ?_)) | (refine listF_yes rfl rfl (by decide) ?_ (fun K' hK => ?_); (focus (go_simp; done)))); unfold opF; go_simp; (refine hK _ _ ?_); clear hK K') | (refine listF_no (b' := true) rfl rfl (by decide) ?_ ?_ ?_; (focus (go_simp; done)); (focus rfl)) | (refine listF_no (b' := false) rfl rfl (by decide) ?_ ?_ ?_; (focus (go_simp; done)); (focus rfl)) | (refine listF_nu rfl rfl (by decide) ?_ ?_; (focus (go_simp; done))) | (refine listF_nil ?_) | (refine region_F ?_) | (refine cond_F true ?_ ?_; (focus (go_simp; done)); simp only [if_true]) | (refine cond_F false ?_ ?_; (focus (go_simp; done)); simp only [Bool.false_eq_true, if_false]) | (with_reducible go_step))
      (refine listF_step rfl (fun K' hK => ?_); unfold opF; go_simp; refine (rend_any W.jobs[i].name W.jobs[i].arrive W.jobs[i].claim W.jobs[i].needs _).mono ?_; rintro e w4 ⟨rfl, rfl⟩; refine ⟨_, rfl, hK _ _ ?_⟩; clear hK K')
      rw [show Job.fin ⟨W.jobs[i].name, W.jobs[i].arrive, W.jobs[i].claim, W.jobs[i].needs⟩ = (W.job i).fin by rw [Work.job_eq hlt]]
      by_cases hf : (W.job i).fin ≤ 200
      · have g1 : decide (200 < (W.job i).fin) = false := decide_eq_false (by omega)
        have hwi : IntKind.i64.wrap ((i : Int) + 1) = (i : Int) + 1 := IntWalk.i64_in _ (by omega)
        repeat (first | ((first | (refine listF_step rfl (fun K' hK => ?_)) | (refine listF_yes rfl rfl (by decide) ?_ (fun K' hK => ?_); (focus (go_simp; done)))); unfold opF; go_simp; (refine hK _ _ ?_); clear hK K') | (refine listF_no (b' := true) rfl rfl (by decide) ?_ ?_ ?_; (focus (go_simp; done)); (focus rfl)) | (refine listF_no (b' := false) rfl rfl (by decide) ?_ ?_ ?_; (focus (go_simp; done)); (focus rfl)) | (refine listF_nu rfl rfl (by decide) ?_ ?_; (focus (go_simp; done))) | (refine listF_nil ?_) | (refine region_F ?_) | (refine cond_F true ?_ ?_; (focus (go_simp; done)); simp only [if_true]) | (refine cond_F false ?_ ?_; (focus (go_simp; done)); simp only [Bool.false_eq_true, if_false]) | (with_reducible go_step))
        refine ⟨_, _, rfl, ?_, i + 1, rfl, by omega, hid (fun m hm => ?_), (by first | (go_simp; done) | exact sl1 | (simp only [updS_some, updS_none, Nat.reduceEqDiff, ↓reduceIte]; exact sl1)), by go_simp, (by repeat (first | (with_reducible exact Hb3.out) | (with_reducible refine bdrewN ?_ _) | (with_reducible refine Below.drew ?_) | (with_reducible refine Below.setCell ?_ (by first | omega | (simp; done) | (simp; omega)) _) | (with_reducible refine Below.alloc ?_ (by first | omega | (simp; done) | (simp; omega)) _)))⟩
        · omega
        · by_cases hmi : m = i
          · rw [hmi]; exact hf
          · exact hfi.out m (by omega)
      · have g1 : decide (200 < (W.job i).fin) = true := decide_eq_true (by omega)
        repeat (first | ((first | (refine listF_step rfl (fun K' hK => ?_)) | (refine listF_yes rfl rfl (by decide) ?_ (fun K' hK => ?_); (focus (go_simp; done)))); unfold opF; go_simp; (refine hK _ _ ?_); clear hK K') | (refine listF_no (b' := true) rfl rfl (by decide) ?_ ?_ ?_; (focus (go_simp; done)); (focus rfl)) | (refine listF_no (b' := false) rfl rfl (by decide) ?_ ?_ ?_; (focus (go_simp; done)); (focus rfl)) | (refine listF_nu rfl rfl (by decide) ?_ ?_; (focus (go_simp; done))) | (refine listF_nil ?_) | (refine region_F ?_) | (refine cond_F true ?_ ?_; (focus (go_simp; done)); simp only [if_true]) | (refine cond_F false ?_ ?_; (focus (go_simp; done)); simp only [Bool.false_eq_true, if_false]) | (with_reducible go_step))
        (refine listF_step rfl (fun K' hK => ?_); unfold opF; go_simp; refine (awake_any _).mono ?_; rintro e w9 ⟨rfl, hb9⟩; refine ⟨_, rfl, hK _ _ ?_⟩; clear hK K')
        have hsx := HB3.out.size
        have HBx := hid (Below.trans ((by repeat (first | (with_reducible exact HB3.out) | (with_reducible refine bdrewN ?_ _) | (with_reducible refine Below.drew ?_) | (with_reducible refine Below.setCell ?_ (by first | omega | (simp; done) | (simp; omega)) _) | (with_reducible refine Below.alloc ?_ (by first | omega | (simp; done) | (simp; omega)) _)))) (hb9.mono (by have := HB3.out.size; simp; omega)) : Below w.heap.size w w9)
        repeat (first | ((first | (refine listF_step rfl (fun K' hK => ?_)) | (refine listF_yes rfl rfl (by decide) ?_ (fun K' hK => ?_); (focus (go_simp; done)))); unfold opF; go_simp; (refine hK _ _ ?_); clear hK K') | (refine listF_no (b' := true) rfl rfl (by decide) ?_ ?_ ?_; (focus (go_simp; done)); (focus rfl)) | (refine listF_no (b' := false) rfl rfl (by decide) ?_ ?_ ?_; (focus (go_simp; done)); (focus rfl)) | (refine listF_nu rfl rfl (by decide) ?_ ?_; (focus (go_simp; done))) | (refine listF_nil ?_) | (refine region_F ?_) | (refine cond_F true ?_ ?_; (focus (go_simp; done)); simp only [if_true]) | (refine cond_F false ?_ ?_; (focus (go_simp; done)); simp only [Bool.false_eq_true, if_false]) | (with_reducible go_step))
        exact ret_F (.bool true) (res1_F Try.results15 (by decide) (by go_simp)) ⟨rfl, HBx.out⟩
    · have hF : ∀ m, m < W.jobs.length → (W.job m).fin ≤ 200 := fun m hm => hfi.out m (by omega)
      have HF := hid hF
      clear hF hfi
      repeat (first | ((first | (refine listF_step rfl (fun K' hK => ?_)) | (refine listF_yes rfl rfl (by decide) ?_ (fun K' hK => ?_); (focus (go_simp; done)))); unfold opF; go_simp; (refine hK _ _ ?_); clear hK K') | (refine listF_no (b' := true) rfl rfl (by decide) ?_ ?_ ?_; (focus (go_simp; done)); (focus rfl)) | (refine listF_no (b' := false) rfl rfl (by decide) ?_ ?_ ?_; (focus (go_simp; done)); (focus rfl)) | (refine listF_nu rfl rfl (by decide) ?_ ?_; (focus (go_simp; done))) | (refine listF_nil ?_) | (refine region_F ?_) | (refine cond_F true ?_ ?_; (focus (go_simp; done)); simp only [if_true]) | (refine cond_F false ?_ ?_; (focus (go_simp; done)); simp only [Bool.false_eq_true, if_false]) | (with_reducible go_step))
      clear k1_0 k1_1 k1_2 k1_3 k1_4 k1_5 k1_6 k1_s
      (refine listF_abs ?_; intro s' hs'; have gl1 := congrFun hs' 1; simp only [updS_some, updS_none, Nat.reduceEqDiff, ↓reduceIte] at gl1; (try rw [sl1] at gl1); have gl40 := congrFun hs' 40; simp only [updS_some, updS_none, Nat.reduceEqDiff, ↓reduceIte] at gl40; (try rw [sl40] at gl40); clear hs'; (try clear sl1); (try clear sl40); have sl1 := gl1; clear gl1; have sl40 := gl40; clear gl40)
      (refine listF_step rfl (fun K' hK => ?_); unfold opF; go_simp; refine (qBegin_any W aj none cj 0 _ (HW.out.at HB3.out)).mono ?_; rintro e w4 ⟨v0, rfl, ho, hb4⟩; refine ⟨_, rfl, hK _ _ ?_⟩; clear hK K')
      obtain ⟨a0, c0, rfl, hrd0, hfr0⟩ := Own.slice (f := St.cs) (m := 5) (fun _ => rfl) ho
      clear ho hfr0
      rw [begJobs_ok He.out] at hrd0 ⊢
      rw [He.out]
      replace k1 := k1.at hb4
      have HB4 := hid (HB3.out.trans (hb4.mono HB3.out.size) : Below w.heap.size w w4)
      have hs4 : w.heap.size < w4.heap.size := k1.1
      clear hb4 HB3
      (refine listF_abs ?_; intro s' hs'; have gl1 := congrFun hs' 1; simp only [updS_some, updS_none, Nat.reduceEqDiff, ↓reduceIte] at gl1; (try rw [sl1] at gl1); have gl41 := congrFun hs' 41; simp only [updS_some, updS_none, Nat.reduceEqDiff, ↓reduceIte] at gl41; (try rw [sl41] at gl41); clear hs'; (try clear sl1); (try clear sl41); have sl1 := gl1; clear gl1; have sl41 := gl41; clear gl41)
      repeat (first | ((first | (refine listF_step rfl (fun K' hK => ?_)) | (refine listF_yes rfl rfl (by decide) ?_ (fun K' hK => ?_); (focus (go_simp; done)))); unfold opF; go_simp; (refine hK _ _ ?_); clear hK K') | (refine listF_no (b' := true) rfl rfl (by decide) ?_ ?_ ?_; (focus (go_simp; done)); (focus rfl)) | (refine listF_no (b' := false) rfl rfl (by decide) ?_ ?_ ?_; (focus (go_simp; done)); (focus rfl)) | (refine listF_nu rfl rfl (by decide) ?_ ?_; (focus (go_simp; done))) | (refine listF_nil ?_) | (refine region_F ?_) | (refine cond_F true ?_ ?_; (focus (go_simp; done)); simp only [if_true]) | (refine cond_F false ?_ ?_; (focus (go_simp; done)); simp only [Bool.false_eq_true, if_false]) | (with_reducible go_step))
      refine wp_absw ?_
      intro w5 hw5
      have k4 : Cells w5 w4.heap.size [.int .i64 0, .slice a0 (beginQ W).jobs.length c0] := by rw [hw5]; exact Cells.new (cs := #[.int .i64 0, .slice a0 (beginQ W).jobs.length c0]) rfl
      have hb5 : Below w4.heap.size w4 w5 := by rw [hw5]; exact (by repeat (first | (with_reducible exact Below.refl _ w4) | (with_reducible refine bdrewN ?_ _) | (with_reducible refine Below.drew ?_) | (with_reducible refine Below.setCell ?_ (by first | omega | (simp; done) | (simp; omega)) _) | (with_reducible refine Below.alloc ?_ (by first | omega | (simp; done) | (simp; omega)) _)))
      clear hw5
      replace k1 := k1.at hb5
      replace hrd0 := Rd.at hrd0 hb5
      have HB5 := hid (HB4.out.trans (hb5.mono HB4.out.size) : Below w.heap.size w w5)
      clear hb5 HB4
      generalize w4.heap.size = B4 at *
      (refine wp_abs ?_; intro s' hs'; have gl1 := congrFun hs' 1; simp only [updS_some, updS_none, Nat.reduceEqDiff, ↓reduceIte] at gl1; (try rw [sl1] at gl1); have gl4 := congrFun hs' 4; simp only [updS_some, updS_none, Nat.reduceEqDiff, ↓reduceIte] at gl4; (try rw [sl4] at gl4); have gl5 := congrFun hs' 5; simp only [updS_some, updS_none, Nat.reduceEqDiff, ↓reduceIte] at gl5; (try rw [sl5] at gl5); have gl6 := congrFun hs' 6; simp only [updS_some, updS_none, Nat.reduceEqDiff, ↓reduceIte] at gl6; (try rw [sl6] at gl6); clear hs'; (try clear sl1); (try clear sl4); (try clear sl5); (try clear sl6); have sl1 := gl1; clear gl1; have sl4 := gl4; clear gl4; have sl5 := gl5; clear gl5; have sl6 := gl6; clear gl6)
      refine loop_F (n := 92) (fun k s wr => ∃ (t : Nat) (qc : Qu) (a : Option Addr) (c : Nat), k = 61 - t ∧ Hid (EOk W (5000 + 700 * (t : Int)) qc ∧ potOf W qc + t ≤ 60) ∧ s 1 = .pointer (some ⟨w.heap.size, 0, none⟩) ∧ s 4 = .pointer (some ⟨B4, 0, none⟩) ∧ s 5 = .int .i64 0 ∧ s 6 = .int .i64 t ∧
        Cells wr B4 [.int .i64 qc.now, .slice a qc.jobs.length c] ∧ RdSts wr a qc.jobs ∧ Cells wr w.heap.size #[.int .i64 W.rules.slice, .int .i64 W.rules.load, .int .i64 W.rules.dump, .int .i64 W.rules.patience, .int .i64 W.rules.rate, .slice aj W.jobs.length cj, .slice none W.faults.length 0].toList ∧ Below w.heap.size w wr) (k0 := 61) ⟨0, beginQ W, a0, c0, rfl, hid ⟨by rw [show (5000 : Int) + 700 * ((0 : Nat) : Int) = 5000 from rfl]; exact eok_begin HK.out, by have := pot_begin HK.out HF.out; simpa using this⟩, sl1, sl4, sl5, sl6, k4, hrd0, k1, HB5.out⟩ ?_
      clear sl1 sl4 sl5 sl6 k4 hrd0 k1 HB5 hs23 Hb3 hi hlt
      rintro k s wr ⟨t, qc, a, c, rfl, hEP, sl1, sl4, sl5, sl6, k4, hqc, k1, hB⟩
      have hpn := pot_nn hEP.out.1
      have ht60 : t ≤ 60 := by have := hEP.out.2; omega
      have hjl := hEP.out.1.len
      have hlm : qc.jobs.length ≤ 12 := by omega
      have Hjl := hid hjl
      have HB := hid hB
      clear hjl hB hpn
      have k4_0 := k4.cell 0 rfl
      have k4_1 := k4.cell 1 rfl
      have k4_s := k4.1
      repeat (first | ((first | (refine listF_step rfl (fun K' hK => ?_)) | (refine listF_yes rfl rfl (by decide) ?_ (fun K' hK => ?_); (focus (go_simp; done)))); unfold opF; go_simp; (refine hK _ _ ?_); clear hK K') | (refine listF_no (b' := true) rfl rfl (by decide) ?_ ?_ ?_; (focus (go_simp; done)); (focus rfl)) | (refine listF_no (b' := false) rfl rfl (by decide) ?_ ?_ ?_; (focus (go_simp; done)); (focus rfl)) | (refine listF_nu rfl rfl (by decide) ?_ ?_; (focus (go_simp; done))) | (refine listF_nil ?_) | (refine region_F ?_) | (refine cond_F true ?_ ?_; (focus (go_simp; done)); simp only [if_true]) | (refine cond_F false ?_ ?_; (focus (go_simp; done)); simp only [Bool.false_eq_true, if_false]) | (with_reducible go_step))
      (refine listF_abs ?_; intro s' hs'; have gl1 := congrFun hs' 1; simp only [updS_some, updS_none, Nat.reduceEqDiff, ↓reduceIte] at gl1; (try rw [sl1] at gl1); have gl4 := congrFun hs' 4; simp only [updS_some, updS_none, Nat.reduceEqDiff, ↓reduceIte] at gl4; (try rw [sl4] at gl4); have gl5 := congrFun hs' 5; simp only [updS_some, updS_none, Nat.reduceEqDiff, ↓reduceIte] at gl5; (try rw [sl5] at gl5); have gl6 := congrFun hs' 6; simp only [updS_some, updS_none, Nat.reduceEqDiff, ↓reduceIte] at gl6; (try rw [sl6] at gl6); have gl44 := congrFun hs' 44; simp only [updS_some, updS_none, Nat.reduceEqDiff, ↓reduceIte] at gl44; (try rw [sl44] at gl44); clear hs'; (try clear sl1); (try clear sl4); (try clear sl5); (try clear sl6); (try clear sl44); have sl1 := gl1; clear gl1; have sl4 := gl4; clear gl4; have sl5 := gl5; clear gl5; have sl6 := gl6; clear gl6; have sl44 := gl44; clear gl44)
      (refine listF_step rfl (fun K' hK => ?_); unfold opF; go_simp; refine (rwaits_any qc.now a c qc.jobs _ (by omega) hqc).mono ?_; rintro e w6 ⟨rfl, hb6⟩; refine ⟨_, rfl, hK _ _ ?_⟩; clear hK K')
      clear k4_0 k4_1 k4_s
      replace k1 := k1.at hb6
      replace k4 := k4.at hb6
      replace hqc := Rd.at hqc hb6
      have HB6 := hid (HB.out.trans (hb6.mono HB.out.size) : Below w.heap.size w w6)
      clear hb6 HB
      (refine listF_abs ?_; intro s' hs'; have gl1 := congrFun hs' 1; simp only [updS_some, updS_none, Nat.reduceEqDiff, ↓reduceIte] at gl1; (try rw [sl1] at gl1); have gl4 := congrFun hs' 4; simp only [updS_some, updS_none, Nat.reduceEqDiff, ↓reduceIte] at gl4; (try rw [sl4] at gl4); have gl5 := congrFun hs' 5; simp only [updS_some, updS_none, Nat.reduceEqDiff, ↓reduceIte] at gl5; (try rw [sl5] at gl5); have gl6 := congrFun hs' 6; simp only [updS_some, updS_none, Nat.reduceEqDiff, ↓reduceIte] at gl6; (try rw [sl6] at gl6); have gl45 := congrFun hs' 45; simp only [updS_some, updS_none, Nat.reduceEqDiff, ↓reduceIte] at gl45; (try rw [sl45] at gl45); clear hs'; (try clear sl1); (try clear sl4); (try clear sl5); (try clear sl6); (try clear sl45); have sl1 := gl1; clear gl1; have sl4 := gl4; clear gl4; have sl5 := gl5; clear gl5; have sl6 := gl6; clear gl6; have sl45 := gl45; clear gl45)
      have hres := EOk.res hEP.out.1 (by omega) He.out
      rcases Bool.eq_false_or_eq_true (waits qc.jobs) with hwt | hwt
      · rw [hwt] at sl45
        rw [if_neg (by rw [hwt]; decide)] at hres
        have hst := ends_step HK.out HF0.out HS.out (by omega) (by omega) hEP.out.1 hwt
        have hp2 := hEP.out.2
        have Hst := hid hst
        have Hp2 := hid hp2
        have Hres := hid hres
        clear hst hp2 hres hEP
        have k1_0 := k1.cell 0 rfl
        have k1_1 := k1.cell 1 rfl
        have k1_2 := k1.cell 2 rfl
        have k1_3 := k1.cell 3 rfl
        have k1_4 := k1.cell 4 rfl
        have k1_5 := k1.cell 5 rfl
        have k1_6 := k1.cell 6 rfl
        have k1_s := k1.1
        have k4_0 := k4.cell 0 rfl
        have k4_1 := k4.cell 1 rfl
        have k4_s := k4.1
        repeat (first | ((first | (refine listF_step rfl (fun K' hK => ?_)) | (refine listF_yes rfl rfl (by decide) ?_ (fun K' hK => ?_); (focus (go_simp; done)))); unfold opF; go_simp; (refine hK _ _ ?_); clear hK K') | (refine listF_no (b' := true) rfl rfl (by decide) ?_ ?_ ?_; (focus (go_simp; done)); (focus rfl)) | (refine listF_no (b' := false) rfl rfl (by decide) ?_ ?_ ?_; (focus (go_simp; done)); (focus rfl)) | (refine listF_nu rfl rfl (by decide) ?_ ?_; (focus (go_simp; done))) | (refine listF_nil ?_) | (refine region_F ?_) | (refine cond_F true ?_ ?_; (focus (go_simp; done)); simp only [if_true]) | (refine cond_F false ?_ ?_; (focus (go_simp; done)); simp only [Bool.false_eq_true, if_false]) | (with_reducible go_step))
        (refine listF_abs ?_; intro s' hs'; have gl1 := congrFun hs' 1; simp only [updS_some, updS_none, Nat.reduceEqDiff, ↓reduceIte] at gl1; (try rw [sl1] at gl1); have gl4 := congrFun hs' 4; simp only [updS_some, updS_none, Nat.reduceEqDiff, ↓reduceIte] at gl4; (try rw [sl4] at gl4); have gl5 := congrFun hs' 5; simp only [updS_some, updS_none, Nat.reduceEqDiff, ↓reduceIte] at gl5; (try rw [sl5] at gl5); have gl6 := congrFun hs' 6; simp only [updS_some, updS_none, Nat.reduceEqDiff, ↓reduceIte] at gl6; (try rw [sl6] at gl6); have gl47 := congrFun hs' 47; simp only [updS_some, updS_none, Nat.reduceEqDiff, ↓reduceIte] at gl47; (try rw [sl47] at gl47); have gl48 := congrFun hs' 48; simp only [updS_some, updS_none, Nat.reduceEqDiff, ↓reduceIte] at gl48; (try rw [sl48] at gl48); clear hs'; (try clear sl1); (try clear sl4); (try clear sl5); (try clear sl6); (try clear sl47); (try clear sl48); have sl1 := gl1; clear gl1; have sl4 := gl4; clear gl4; have sl5 := gl5; clear gl5; have sl6 := gl6; clear gl6; have sl47 := gl47; clear gl47; have sl48 := gl48; clear gl48)
        (refine listF_step rfl (fun K' hK => ?_); unfold opF; go_simp; refine (qNext_new W qc aj none a cj 0 c _ (HW.out.at HB6.out) hqc).mono ?_; rintro e w7 ⟨a', c', rfl, hqn, hb7, hfr⟩; refine ⟨_, rfl, hK _ _ ?_⟩; clear hK K')
        rw [Hres.out] at hqn ⊢
        clear Hres
        generalize nextStep W qc = ns at *
        obtain ⟨sp, qn⟩ := ns
        clear k1_0 k1_1 k1_2 k1_3 k1_4 k1_5 k1_6 k1_s k4_0 k4_1 k4_s
        have hs56 := hb7.size
        have hs5 : B4 < w6.heap.size := k4.1
        replace k1 := k1.at hb7
        replace k4 := k4.at hb7
        have HB7 := hid (HB6.out.trans (hb7.mono HB6.out.size) : Below w.heap.size w w7)
        have hfr5 : ∀ b, a' = some b → b.block ≠ B4 := fun b hb => by have := hfr b hb; omega
        clear hb7 HB6 hfr hqc
        have Hfr := hid hfr5
        clear hfr5
        (refine listF_abs ?_; intro s' hs'; have gl1 := congrFun hs' 1; simp only [updS_some, updS_none, Nat.reduceEqDiff, ↓reduceIte] at gl1; (try rw [sl1] at gl1); have gl4 := congrFun hs' 4; simp only [updS_some, updS_none, Nat.reduceEqDiff, ↓reduceIte] at gl4; (try rw [sl4] at gl4); have gl5 := congrFun hs' 5; simp only [updS_some, updS_none, Nat.reduceEqDiff, ↓reduceIte] at gl5; (try rw [sl5] at gl5); have gl6 := congrFun hs' 6; simp only [updS_some, updS_none, Nat.reduceEqDiff, ↓reduceIte] at gl6; (try rw [sl6] at gl6); have gl49 := congrFun hs' 49; simp only [updS_some, updS_none, Nat.reduceEqDiff, ↓reduceIte] at gl49; (try rw [sl49] at gl49); clear hs'; (try clear sl1); (try clear sl4); (try clear sl5); (try clear sl6); (try clear sl49); have sl1 := gl1; clear gl1; have sl4 := gl4; clear gl4; have sl5 := gl5; clear gl5; have sl6 := gl6; clear gl6; have sl49 := gl49; clear gl49)
        iterate 9 (refine listF_step rfl (fun K' hK => ?_); unfold opF; go_simp; refine hK _ _ ?_; clear hK K')
        refine listF_absw ?_
        intro w8 hw8
        have k8 : Cells w8 (w7.heap.size + 1) [.int .i64 qn.now, .slice a' qn.jobs.length c'] := by rw [hw8]; exact Cells.new (cs := #[.int .i64 qn.now, .slice a' qn.jobs.length c']) (by first | omega | (simp; done) | (simp; omega))
        have hb8 : Below w7.heap.size w7 w8 := by rw [hw8]; exact (by repeat (first | (with_reducible exact Below.refl _ w7) | (with_reducible refine bdrewN ?_ _) | (with_reducible refine Below.drew ?_) | (with_reducible refine Below.setCell ?_ (by first | omega | (simp; done) | (simp; omega)) _) | (with_reducible refine Below.alloc ?_ (by first | omega | (simp; done) | (simp; omega)) _)))
        clear hw8
        replace k1 := k1.at hb8
        replace k4 := k4.at hb8
        replace hqn := Rd.at hqn hb8
        have HB8 := hid (HB7.out.trans (hb8.mono HB7.out.size) : Below w.heap.size w w8)
        clear hb8 HB7
        generalize w7.heap.size = B7 at *
        (refine listF_abs ?_; intro s' hs'; have gl1 := congrFun hs' 1; simp only [updS_some, updS_none, Nat.reduceEqDiff, ↓reduceIte] at gl1; (try rw [sl1] at gl1); have gl4 := congrFun hs' 4; simp only [updS_some, updS_none, Nat.reduceEqDiff, ↓reduceIte] at gl4; (try rw [sl4] at gl4); have gl5 := congrFun hs' 5; simp only [updS_some, updS_none, Nat.reduceEqDiff, ↓reduceIte] at gl5; (try rw [sl5] at gl5); have gl6 := congrFun hs' 6; simp only [updS_some, updS_none, Nat.reduceEqDiff, ↓reduceIte] at gl6; (try rw [sl6] at gl6); have gl8 := congrFun hs' 8; simp only [updS_some, updS_none, Nat.reduceEqDiff, ↓reduceIte] at gl8; (try rw [sl8] at gl8); have gl9 := congrFun hs' 9; simp only [updS_some, updS_none, Nat.reduceEqDiff, ↓reduceIte] at gl9; (try rw [sl9] at gl9); clear hs'; (try clear sl1); (try clear sl4); (try clear sl5); (try clear sl6); (try clear sl8); (try clear sl9); have sl1 := gl1; clear gl1; have sl4 := gl4; clear gl4; have sl5 := gl5; clear gl5; have sl6 := gl6; clear gl6; have sl8 := gl8; clear gl8; have sl9 := gl9; clear gl9)
        have n4 : decide (qn.now ≤ qc.now) = false := decide_eq_false (by have := Hst.out.1; simp only at this; omega)
        have hwi : IntKind.i64.wrap ((t : Int) + 1) = (t : Int) + 1 := IntWalk.i64_in _ (by omega)
        have g1 : decide (200 < (t : Int) + 1) = false := decide_eq_false (by omega)
        have k4_0 := k4.cell 0 rfl
        have k4_1 := k4.cell 1 rfl
        have k4_s := k4.1
        have k8_0 := k8.cell 0 rfl
        have k8_1 := k8.cell 1 rfl
        have k8_s := k8.1
        have k4_z := k4.2.2
        repeat (first | ((first | (refine listF_step rfl (fun K' hK => ?_)) | (refine listF_yes rfl rfl (by decide) ?_ (fun K' hK => ?_); (focus (go_simp; done)))); unfold opF; go_simp; (refine hK _ _ ?_); clear hK K') | (refine listF_no (b' := true) rfl rfl (by decide) ?_ ?_ ?_; (focus (go_simp; done)); (focus rfl)) | (refine listF_no (b' := false) rfl rfl (by decide) ?_ ?_ ?_; (focus (go_simp; done)); (focus rfl)) | (refine listF_nu rfl rfl (by decide) ?_ ?_; (focus (go_simp; done))) | (refine listF_nil ?_) | (refine region_F ?_) | (refine cond_F true ?_ ?_; (focus (go_simp; done)); simp only [if_true]) | (refine cond_F false ?_ ?_; (focus (go_simp; done)); simp only [Bool.false_eq_true, if_false]) | (with_reducible go_step))
        refine ⟨_, _, rfl, ?_, t + 1, qn, a', c', rfl, hid ⟨?_, ?_⟩, (by first | (go_simp; done) | exact sl1 | (simp only [updS_some, updS_none, Nat.reduceEqDiff, ↓reduceIte]; exact sl1)), (by first | (go_simp; done) | exact sl4 | (simp only [updS_some, updS_none, Nat.reduceEqDiff, ↓reduceIte]; exact sl4)), (by first | (go_simp; done) | exact sl5 | (simp only [updS_some, updS_none, Nat.reduceEqDiff, ↓reduceIte]; exact sl5)), by go_simp, (by apply Cells.conv; (focus (repeat (first | (with_reducible exact k4) | (with_reducible apply Cells.set) | ((with_reducible apply Cells.setFar); case hn => omega) | (with_reducible apply Cells.up) | (with_reducible apply Cells.drew)))); rfl), Rd.two hqn Hfr.out, (k1.setFar (by omega)).setFar (by omega), (by repeat (first | (with_reducible exact HB8.out) | (with_reducible refine bdrewN ?_ _) | (with_reducible refine Below.drew ?_) | (with_reducible refine Below.setCell ?_ (by first | omega | (simp; done) | (simp; omega)) _) | (with_reducible refine Below.alloc ?_ (by first | omega | (simp; done) | (simp; omega)) _)))⟩
        · omega
        · have := Hst.out.2.1
          rw [show (5000 : Int) + 700 * ((t + 1 : Nat) : Int) = 5000 + 700 * (t : Int) + 700 by omega]
          exact this
        · have h1 := Hst.out.2.2
          have h2 := Hp2.out
          simp only at h1
          omega
      · rw [hwt] at sl45
        rw [if_pos hwt] at hres
        have Hres := hid hres
        clear hres hEP
        have n1 : ((qc.jobs.length : Int) == (W.jobs.length : Int)) = true := by have := Hjl.out; simp; omega
        have k1_0 := k1.cell 0 rfl
        have k1_1 := k1.cell 1 rfl
        have k1_2 := k1.cell 2 rfl
        have k1_3 := k1.cell 3 rfl
        have k1_4 := k1.cell 4 rfl
        have k1_5 := k1.cell 5 rfl
        have k1_6 := k1.cell 6 rfl
        have k1_s := k1.1
        have k4_0 := k4.cell 0 rfl
        have k4_1 := k4.cell 1 rfl
        have k4_s := k4.1
        repeat (first | ((first | (refine listF_step rfl (fun K' hK => ?_)) | (refine listF_yes rfl rfl (by decide) ?_ (fun K' hK => ?_); (focus (go_simp; done)))); unfold opF; go_simp; (refine hK _ _ ?_); clear hK K') | (refine listF_no (b' := true) rfl rfl (by decide) ?_ ?_ ?_; (focus (go_simp; done)); (focus rfl)) | (refine listF_no (b' := false) rfl rfl (by decide) ?_ ?_ ?_; (focus (go_simp; done)); (focus rfl)) | (refine listF_nu rfl rfl (by decide) ?_ ?_; (focus (go_simp; done))) | (refine listF_nil ?_) | (refine region_F ?_) | (refine cond_F true ?_ ?_; (focus (go_simp; done)); simp only [if_true]) | (refine cond_F false ?_ ?_; (focus (go_simp; done)); simp only [Bool.false_eq_true, if_false]) | (with_reducible go_step))
        (refine listF_abs ?_; intro s' hs'; have gl1 := congrFun hs' 1; simp only [updS_some, updS_none, Nat.reduceEqDiff, ↓reduceIte] at gl1; (try rw [sl1] at gl1); have gl4 := congrFun hs' 4; simp only [updS_some, updS_none, Nat.reduceEqDiff, ↓reduceIte] at gl4; (try rw [sl4] at gl4); have gl5 := congrFun hs' 5; simp only [updS_some, updS_none, Nat.reduceEqDiff, ↓reduceIte] at gl5; (try rw [sl5] at gl5); have gl68 := congrFun hs' 68; simp only [updS_some, updS_none, Nat.reduceEqDiff, ↓reduceIte] at gl68; (try rw [sl68] at gl68); have gl69 := congrFun hs' 69; simp only [updS_some, updS_none, Nat.reduceEqDiff, ↓reduceIte] at gl69; (try rw [sl69] at gl69); clear hs'; (try clear sl1); (try clear sl4); (try clear sl5); (try clear sl68); (try clear sl69); have sl1 := gl1; clear gl1; have sl4 := gl4; clear gl4; have sl5 := gl5; clear gl5; have sl68 := gl68; clear gl68; have sl69 := gl69; clear gl69)
        (refine listF_step rfl (fun K' hK => ?_); unfold opF; go_simp; refine (qNext_any W qc aj none a cj 0 c _ (HW.out.at HB6.out) hqc).mono ?_; rintro e w7 ⟨a', c', rfl, hqn, hb7⟩; refine ⟨_, rfl, hK _ _ ?_⟩; clear hK K')
        rw [Hres.out] at hqn ⊢
        simp only [Spell.zero, Qu.zero, List.length_nil]
        clear k1_0 k1_1 k1_2 k1_3 k1_4 k1_5 k1_6 k1_s k4_0 k4_1 k4_s
        replace k1 := k1.at hb7
        replace k4 := k4.at hb7
        have HB7 := hid (HB6.out.trans (hb7.mono HB6.out.size) : Below w.heap.size w w7)
        clear hb7 HB6 hqn hqc
        have k1_0 := k1.cell 0 rfl
        have k1_1 := k1.cell 1 rfl
        have k1_2 := k1.cell 2 rfl
        have k1_3 := k1.cell 3 rfl
        have k1_4 := k1.cell 4 rfl
        have k1_5 := k1.cell 5 rfl
        have k1_6 := k1.cell 6 rfl
        have k1_s := k1.1
        have k4_0 := k4.cell 0 rfl
        have k4_1 := k4.cell 1 rfl
        have k4_s := k4.1
        (refine listF_abs ?_; intro s' hs'; have gl1 := congrFun hs' 1; simp only [updS_some, updS_none, Nat.reduceEqDiff, ↓reduceIte] at gl1; (try rw [sl1] at gl1); have gl4 := congrFun hs' 4; simp only [updS_some, updS_none, Nat.reduceEqDiff, ↓reduceIte] at gl4; (try rw [sl4] at gl4); have gl5 := congrFun hs' 5; simp only [updS_some, updS_none, Nat.reduceEqDiff, ↓reduceIte] at gl5; (try rw [sl5] at gl5); have gl70 := congrFun hs' 70; simp only [updS_some, updS_none, Nat.reduceEqDiff, ↓reduceIte] at gl70; (try rw [sl70] at gl70); clear hs'; (try clear sl1); (try clear sl4); (try clear sl5); (try clear sl70); have sl1 := gl1; clear gl1; have sl4 := gl4; clear gl4; have sl5 := gl5; clear gl5; have sl70 := gl70; clear gl70)
        repeat (first | ((first | (refine listF_step rfl (fun K' hK => ?_)) | (refine listF_yes rfl rfl (by decide) ?_ (fun K' hK => ?_); (focus (go_simp; done)))); unfold opF; go_simp; (refine hK _ _ ?_); clear hK K') | (refine listF_no (b' := true) rfl rfl (by decide) ?_ ?_ ?_; (focus (go_simp; done)); (focus rfl)) | (refine listF_no (b' := false) rfl rfl (by decide) ?_ ?_ ?_; (focus (go_simp; done)); (focus rfl)) | (refine listF_nu rfl rfl (by decide) ?_ ?_; (focus (go_simp; done))) | (refine listF_nil ?_) | (refine region_F ?_) | (refine cond_F true ?_ ?_; (focus (go_simp; done)); simp only [if_true]) | (refine cond_F false ?_ ?_; (focus (go_simp; done)); simp only [Bool.false_eq_true, if_false]) | (with_reducible go_step))
        (refine listF_yes rfl rfl (by decide) ?_ (fun K' hK => ?_); (focus (go_simp; done)); unfold opF; go_simp; refine (awake_any _).mono ?_; rintro e w9 ⟨rfl, hb9⟩; refine ⟨_, rfl, hK _ _ ?_⟩; clear hK K')
        have hsx := HB7.out.size
        have HBx := hid (Below.trans ((by repeat (first | (with_reducible exact HB7.out) | (with_reducible refine bdrewN ?_ _) | (with_reducible refine Below.drew ?_) | (with_reducible refine Below.setCell ?_ (by first | omega | (simp; done) | (simp; omega)) _) | (with_reducible refine Below.alloc ?_ (by first | omega | (simp; done) | (simp; omega)) _)))) (hb9.mono (by have := HB7.out.size; simp; omega)) : Below w.heap.size w w9)
        repeat (first | ((first | (refine listF_step rfl (fun K' hK => ?_)) | (refine listF_yes rfl rfl (by decide) ?_ (fun K' hK => ?_); (focus (go_simp; done)))); unfold opF; go_simp; (refine hK _ _ ?_); clear hK K') | (refine listF_no (b' := true) rfl rfl (by decide) ?_ ?_ ?_; (focus (go_simp; done)); (focus rfl)) | (refine listF_no (b' := false) rfl rfl (by decide) ?_ ?_ ?_; (focus (go_simp; done)); (focus rfl)) | (refine listF_nu rfl rfl (by decide) ?_ ?_; (focus (go_simp; done))) | (refine listF_nil ?_) | (refine region_F ?_) | (refine cond_F true ?_ ?_; (focus (go_simp; done)); simp only [if_true]) | (refine cond_F false ?_ ?_; (focus (go_simp; done)); simp only [Bool.false_eq_true, if_false]) | (with_reducible go_step))
        exact ret_F (.bool true) (res1_F Try.results15 (by decide) (by go_simp)) ⟨rfl, HBx.out⟩
  · rw [he] at sl21
    repeat (first | ((first | (refine listF_step rfl (fun K' hK => ?_)) | (refine listF_yes rfl rfl (by decide) ?_ (fun K' hK => ?_); (focus (go_simp; done)))); unfold opF; go_simp; (refine hK _ _ ?_); clear hK K') | (refine listF_no (b' := true) rfl rfl (by decide) ?_ ?_ ?_; (focus (go_simp; done)); (focus rfl)) | (refine listF_no (b' := false) rfl rfl (by decide) ?_ ?_ ?_; (focus (go_simp; done)); (focus rfl)) | (refine listF_nu rfl rfl (by decide) ?_ ?_; (focus (go_simp; done))) | (refine listF_nil ?_) | (refine region_F ?_) | (refine cond_F true ?_ ?_; (focus (go_simp; done)); simp only [if_true]) | (refine cond_F false ?_ ?_; (focus (go_simp; done)); simp only [Bool.false_eq_true, if_false]) | (with_reducible go_step))
    (refine listF_step rfl (fun K' hK => ?_); unfold opF; go_simp; refine (awake_any _).mono ?_; rintro e w9 ⟨rfl, hb9⟩; refine ⟨_, rfl, hK _ _ ?_⟩; clear hK K')
    repeat (first | ((first | (refine listF_step rfl (fun K' hK => ?_)) | (refine listF_yes rfl rfl (by decide) ?_ (fun K' hK => ?_); (focus (go_simp; done)))); unfold opF; go_simp; (refine hK _ _ ?_); clear hK K') | (refine listF_no (b' := true) rfl rfl (by decide) ?_ ?_ ?_; (focus (go_simp; done)); (focus rfl)) | (refine listF_no (b' := false) rfl rfl (by decide) ?_ ?_ ?_; (focus (go_simp; done)); (focus rfl)) | (refine listF_nu rfl rfl (by decide) ?_ ?_; (focus (go_simp; done))) | (refine listF_nil ?_) | (refine region_F ?_) | (refine cond_F true ?_ ?_; (focus (go_simp; done)); simp only [if_true]) | (refine cond_F false ?_ ?_; (focus (go_simp; done)); simp only [Bool.false_eq_true, if_false]) | (with_reducible go_step))
    exact ret_F (.bool true) (res1_F Try.results15 (by decide) (by go_simp)) ⟨rfl, HB1.out.trans (hb9.mono HB1.out.size)⟩

end Go.Proofs.Ytbjgebbfachgfaa
