/- Queue: the reference's. -/
import Derived.Test.YtbjgebbfachgfaacJ4
import Derived.Test.YtbjgebbfachgfaacJ6
set_option linter.unusedVariables false
set_option linter.unusedSimpArgs false
set_option linter.unusedSectionVars false
set_option linter.all false
namespace Go.Proofs.Ytbjgebbfachgfaa
open Go.RowKit

theorem ret_in {a b c : Int} {w0 w : World} {N : Nat} (hw : Below N w0 w) : Calls Try.prog 49 #[.int .i64 a, .int .i64 b, .int .i64 c] w fun e w'' => e = .returned (.bool (inb a b c)) ∧ Below N w0 w'' :=
  (refin_any a b c w).mono fun _ _ ⟨h1, h2⟩ => ⟨h1, h2 ▸ hw⟩
theorem ret_most {w0 w : World} {N : Nat} (hw : Below N w0 w) : Calls Try.prog 68 #[] w fun e w'' => e = .returned (.int .i64 1000000) ∧ Below N w0 w'' :=
  (most_any w).mono fun _ _ ⟨h1, h2⟩ => ⟨h1, h2 ▸ hw⟩

theorem rend_below (j : Job) (w : World) : Calls Try.prog 39 #[.agg #[.string j.name, .int .i64 j.arrive, .int .i64 j.claim, .int .i64 j.needs]] w fun e w' => e = .returned (.int .i64 j.fin) ∧ Below w.heap.size w w' :=
  (rend_any _ _ _ _ w).mono fun _ _ ⟨h1, h2⟩ => ⟨h1, h2 ▸ below_alloc1 _ _⟩

set_option maxRecDepth 100000 in
set_option maxHeartbeats 8000000 in
theorem rQueue_any (W : Work) (q : Qu) (aj af aq : Option Addr) (cj cf cq : Nat) (w : World) (hW : WorkIn w W aj af) (hq : RdSts w aq q.jobs) :
    Calls Try.prog 56 #[.agg #[.int .i64 W.rules.slice, .int .i64 W.rules.load, .int .i64 W.rules.dump, .int .i64 W.rules.patience, .int .i64 W.rules.rate, .slice aj W.jobs.length cj, .slice af W.faults.length cf], .agg #[.int .i64 q.now, .slice aq q.jobs.length cq]] w fun e w' => e = .returned (.int .i64 (quErr W q)) ∧ Below w.heap.size w w' := by
  have HW := hid hW
  have Hq := hid hq
  clear hW hq
  refine enter_F Try.func56 rfl Try.ntmps56 (by simp) ?_
  intro s hs
  have sl0 : s 0 = .agg #[.int .i64 W.rules.slice, .int .i64 W.rules.load, .int .i64 W.rules.dump, .int .i64 W.rules.patience, .int .i64 W.rules.rate, .slice aj W.jobs.length cj, .slice af W.faults.length cf] := hs 0 (by simp)
  have sl1 : s 1 = .agg #[.int .i64 q.now, .slice aq q.jobs.length cq] := hs 1 (by simp)
  clear hs
  by_cases hlen : q.jobs.length = W.jobs.length
  · have hl1 : ((q.jobs.length : Int) != (W.jobs.length : Int)) = false := by simp [hlen]
    have Hlen := hid hlen; clear hlen
    repeat (first | ((first | (refine listF_step rfl (fun K' hK => ?_)) | (refine listF_yes rfl rfl (by decide) ?_ (fun K' hK => ?_); (focus (go_simp; done)))); unfold opF; go_simp; (refine hK _ _ ?_); clear hK K') | (refine listF_no (b' := true) rfl rfl (by decide) ?_ ?_ ?_; (focus (go_simp; done)); (focus rfl)) | (refine listF_no (b' := false) rfl rfl (by decide) ?_ ?_ ?_; (focus (go_simp; done)); (focus rfl)) | (refine listF_nu rfl rfl (by decide) ?_ ?_; (focus (go_simp; done))) | (refine listF_nil ?_) | (refine region_F ?_) | (refine cond_F true ?_ ?_; (focus (go_simp; done)); simp only [if_true]) | (refine cond_F false ?_ ?_; (focus (go_simp; done)); simp only [Bool.false_eq_true, if_false]) | (with_reducible go_step))
    (refine wp_abs ?_; intro s' hs'; have gl2 := congrFun hs' 2; simp only [updS_some, updS_none, Nat.reduceEqDiff, ↓reduceIte] at gl2; (try rw [sl2] at gl2); have gl3 := congrFun hs' 3; simp only [updS_some, updS_none, Nat.reduceEqDiff, ↓reduceIte] at gl3; (try rw [sl3] at gl3); clear hs'; (try clear sl2); (try clear sl3); have sl2 := gl2; clear gl2; have sl3 := gl3; clear gl3)
    obtain ⟨w1, hw1⟩ : ∃ x, (w.alloc (.cells #[.int .i64 W.rules.slice, .int .i64 W.rules.load, .int .i64 W.rules.dump, .int .i64 W.rules.patience, .int .i64 W.rules.rate, .slice aj W.jobs.length cj, .slice af W.faults.length cf] 27)).alloc (.cells #[.int .i64 q.now, .slice aq q.jobs.length cq] 33) = x := ⟨_, rfl⟩
    have k0 : Cells w1 w.heap.size #[.int .i64 W.rules.slice, .int .i64 W.rules.load, .int .i64 W.rules.dump, .int .i64 W.rules.patience, .int .i64 W.rules.rate, .slice aj W.jobs.length cj, .slice af W.faults.length cf].toList := by rw [← hw1]; exact (Cells.new rfl).up _
    have k1 : Cells w1 (w.heap.size + 1) #[.int .i64 q.now, .slice aq q.jobs.length cq].toList := by rw [← hw1]; exact Cells.new (by first | omega | (simp; done) | (simp; omega))
    have HB1 : Hid (Below w.heap.size w w1) := hid (by rw [← hw1]; exact (by repeat (first | (with_reducible exact Below.refl _ _) | (with_reducible refine bdrewN ?_ _) | (with_reducible refine Below.drew ?_) | (with_reducible refine Below.setCell ?_ (by first | omega | (simp; done) | (simp; omega)) _) | (with_reducible refine Below.alloc ?_ (by first | omega | (simp; done) | (simp; omega)) _))))
    rw [hw1]
    clear hw1
    have hs1 := k1.1
    have hs0 := k0.1
    have b0 := k1.cell 0 rfl
    have b1 := k1.cell 1 rfl
    have a5 := k0.cell 5 rfl
    rcases Bool.eq_false_or_eq_true (inb q.now 0 1000000) with hnow | hnow
    · refine regionQ_F (Below w1.heap.size w1) (by kernel_rfl) (by kernel_rfl) (Below.refl _ _).drew ?_
      repeat (first | (refine listQ_step (v := ?_) rfl ?_ ?_; rotate_left; (focus (intro wq hwq; obtain ⟨hcq, hfq⟩ := bcell hwq; go_simp; (first | rfl | (exact ⟨rfl, rfl⟩) | (first | exact ret_in hwq | exact ret_most hwq))))) | (refine listQ_yes (v := ?_) rfl rfl (by decide) ?_ ?_ ?_; rotate_left; (focus (go_simp; done)); (focus (intro wq hwq; obtain ⟨hcq, hfq⟩ := bcell hwq; go_simp; (first | rfl | (exact ⟨rfl, rfl⟩) | (first | exact ret_in hwq | exact ret_most hwq))))) | (refine listQ_no (b' := true) rfl rfl (by decide) ?_ ?_ ?_; (focus (go_simp; done)); (focus rfl)) | (refine listQ_no (b' := false) rfl rfl (by decide) ?_ ?_ ?_; (focus (go_simp; done)); (focus rfl)) | (refine listQ_nu rfl rfl (by decide) ?_ ?_; (focus (go_simp; done))) | (refine listQ_nil ?_))
      intro w2 hw2
      repeat (first | ((first | (refine listF_step rfl (fun K' hK => ?_)) | (refine listF_yes rfl rfl (by decide) ?_ (fun K' hK => ?_); (focus (go_simp; done)))); unfold opF; go_simp; (refine hK _ _ ?_); clear hK K') | (refine listF_no (b' := true) rfl rfl (by decide) ?_ ?_ ?_; (focus (go_simp; done)); (focus rfl)) | (refine listF_no (b' := false) rfl rfl (by decide) ?_ ?_ ?_; (focus (go_simp; done)); (focus rfl)) | (refine listF_nu rfl rfl (by decide) ?_ ?_; (focus (go_simp; done))) | (refine listF_nil ?_) | (refine region_F ?_) | (refine cond_F true ?_ ?_; (focus (go_simp; done)); simp only [if_true]) | (refine cond_F false ?_ ?_; (focus (go_simp; done)); simp only [Bool.false_eq_true, if_false]) | (with_reducible go_step))
      (refine wp_abs ?_; intro s' hs'; have gl2 := congrFun hs' 2; simp only [updS_some, updS_none, Nat.reduceEqDiff, ↓reduceIte] at gl2; (try rw [sl2] at gl2); have gl3 := congrFun hs' 3; simp only [updS_some, updS_none, Nat.reduceEqDiff, ↓reduceIte] at gl3; (try rw [sl3] at gl3); have gl5 := congrFun hs' 5; simp only [updS_some, updS_none, Nat.reduceEqDiff, ↓reduceIte] at gl5; (try rw [sl5] at gl5); clear hs'; (try clear sl2); (try clear sl3); (try clear sl5); have sl2 := gl2; clear gl2; have sl3 := gl3; clear gl3; have sl5 := gl5; clear gl5)
      have HNO : Hid (∀ (k : Nat) (h : k < q.jobs.length) (h' : k < W.jobs.length), stOk W.jobs[k] q.jobs[k] = false → quErr W q = 7) := by
        intro k h h' hb
        unfold quErr
        rw [if_neg (by simp [Hlen.out]), if_neg (by simp [hnow]), if_pos ⟨k, h, by rw [Work.job_eq h', Qu.st_eq h]; exact hb⟩]
      have Hnow := hid hnow; clear hnow
      have hjl := HW.out.jl
      refine loop_F (n := 85) (fun m s wr => ∃ k : Nat, m = q.jobs.length - k ∧ k ≤ q.jobs.length ∧ s 2 = .pointer (some ⟨w.heap.size, 0, none⟩) ∧ s 3 = .pointer (some ⟨w.heap.size + 1, 0, none⟩) ∧ s 5 = .int .i64 k ∧ Below w1.heap.size w1 wr ∧ Hid (∀ (i : Nat) (h : i < q.jobs.length) (h' : i < W.jobs.length), i < k → stOk W.jobs[i] q.jobs[i] = true)) (k0 := q.jobs.length) ⟨0, rfl, Nat.zero_le _, sl2, sl3, sl5, hw2, hid (fun i _ _ h => by omega)⟩ ?_
      clear sl2 sl3 sl5 hw2
      rintro m s wr ⟨k, rfl, hk, sl2, sl3, sl5, hB, hok⟩
      have k0' := k0.at hB
      have k1' := k1.at hB
      clear b0 b1 a5
      have b1 := k1'.cell 1 rfl
      have a5 := k0'.cell 5 rfl
      have hr1 := k1'.1
      have hr0 := k0'.1
      by_cases hlt : k < q.jobs.length
      · have hlt' : k < W.jobs.length := by have := Hlen.out; omega
        have HBr := hid (Below.trans HB1.out (hB.mono HB1.out.size) : Below w.heap.size w wr)
        obtain ⟨n1, o1, rfl, hn1, e1, e2, e3, e4⟩ := RdJobs.ne (HW.out.jobs.at HBr.out) hlt'
        obtain ⟨n2, o2, rfl, hn2, g1, g2, g3, g4, g5⟩ := RdSts.ne (Rd.at Hq.out HBr.out) hlt
        have n1r : n1 < wr.heap.size := by have := HBr.out.size; omega
        have n2r : n2 < wr.heap.size := by have := HBr.out.size; omega
        have x1 : (k : Int) < (q.jobs.length : Int) := by omega
        have x2 : (k : Int) < (W.jobs.length : Int) := by omega
        have hwk : IntKind.i64.wrap ((k : Int) + 1) = (k : Int) + 1 := IntWalk.i64_in _ (by omega)
        have HNO := hid (HNO.out k hlt hlt')
        have hw9 : IntKind.i64.wrap 1000000000 = 1000000000 := IntWalk.i64_in _ (by omega)
        as_aux_lemma =>
        repeat (first | ((first | (refine listF_step rfl (fun K' hK => ?_)) | (refine listF_yes rfl rfl (by decide) ?_ (fun K' hK => ?_); (focus (go_simp; done)))); unfold opF; go_simp; (refine hK _ _ ?_); clear hK K') | (refine listF_no (b' := true) rfl rfl (by decide) ?_ ?_ ?_; (focus (go_simp; done)); (focus rfl)) | (refine listF_no (b' := false) rfl rfl (by decide) ?_ ?_ ?_; (focus (go_simp; done)); (focus rfl)) | (refine listF_nu rfl rfl (by decide) ?_ ?_; (focus (go_simp; done))) | (refine listF_nil ?_) | (refine region_F ?_) | (refine cond_F true ?_ ?_; (focus (go_simp; done)); simp only [if_true]) | (refine cond_F false ?_ ?_; (focus (go_simp; done)); simp only [Bool.false_eq_true, if_false]) | (with_reducible go_step))
        refine regionI_F (fun (LJ : Nat → Bool) (sJ : Nat → Value) (wJ : World) => Below wr.heap.size wr wJ ∧ wr.heap.size ≤ wJ.heap.size ∧ sJ 2 = .pointer (some ⟨w.heap.size, 0, none⟩) ∧ sJ 3 = .pointer (some ⟨w.heap.size + 1, 0, none⟩) ∧ sJ 5 = .int .i64 (k : Int) ∧ (LJ 0 = true → sJ 27 = .pointer (some ⟨w.heap.size + 1, 1, none⟩)) ∧ (LJ 1 = true → sJ 28 = .slice (some ⟨n2, o2, none⟩) q.jobs.length cq) ∧ (LJ 2 = true → sJ 29 = .int .i64 (k : Int)) ∧ (LJ 3 = true → sJ 30 = .pointer (some ⟨n2, o2 + k * 5, none⟩)) ∧ (LJ 4 = true → sJ 31 = .agg #[.int .i64 q.jobs[k].progress, .int .i64 q.jobs[k].since, .int .i64 q.jobs[k].charge, .int .i64 q.jobs[k].why, .int .i64 q.jobs[k].ended]) ∧ (LJ 5 = true → sJ 32 = .pointer (some ⟨w.heap.size, 5, none⟩)) ∧ (LJ 6 = true → sJ 33 = .slice (some ⟨n1, o1, none⟩) W.jobs.length cj) ∧ (LJ 7 = true → sJ 34 = .int .i64 (k : Int)) ∧ (LJ 8 = true → sJ 35 = .pointer (some ⟨n1, o1 + k * 4, none⟩)) ∧ (LJ 9 = true → sJ 36 = .agg #[.string W.jobs[k].name, .int .i64 W.jobs[k].arrive, .int .i64 W.jobs[k].claim, .int .i64 W.jobs[k].needs]) ∧ (LJ 10 = true → sJ 37 = .int .i64 W.jobs[k].fin) ∧ (LJ 13 = true → sJ 7 = .int .i64 W.jobs[k].fin) ∧ (LJ 11 = true → BoxJ wr.heap.size wJ (sJ 6) (LJ 12) [.int .i64 0, .int .i64 0, .int .i64 0, .int .i64 0, .int .i64 0] [.int .i64 q.jobs[k].progress, .int .i64 q.jobs[k].since, .int .i64 q.jobs[k].charge, .int .i64 q.jobs[k].why, .int .i64 q.jobs[k].ended]) ∧ (LJ 12 = true → LJ 11 = true)) (by kernel_rfl) (by kernel_rfl) (by kernel_rfl) ?_ ?_ ⟨?_, ?_, ?_, ?_, ?_, ?_, ?_, ?_, ?_, ?_, ?_, ?_, ?_, ?_, trivial⟩
        · refine ⟨(by repeat (first | (with_reducible exact Below.refl _ _) | (with_reducible refine bdrewN ?_ _) | (with_reducible refine Below.drew ?_) | (with_reducible refine Below.setCell ?_ (by first | omega | (simp; done) | (simp; omega)) _) | (with_reducible refine Below.alloc ?_ (by first | omega | (simp; done) | (simp; omega)) _))), (by first | omega | (simp; done) | (simp; omega)), ?_, ?_, ?_, (by simp), (by simp), (by simp), (by simp), (by simp), (by simp), (by simp), (by simp), (by simp), (by simp), (by simp), (by simp), (by simp), (by simp)⟩
          · go_simp
          · go_simp
          · go_simp
        · rintro sJ wJ ⟨kLow, kSz, hs2, hs3, hs5, hv0, hv1, hv2, hv3, hv4, hv5, hv6, hv7, hv8, hv9, hv10, hv13, kX11, kO11⟩
          replace hv0 := hv0 (by simp)
          replace hv1 := hv1 (by simp)
          replace hv2 := hv2 (by simp)
          replace hv3 := hv3 (by simp)
          replace hv4 := hv4 (by simp)
          replace hv5 := hv5 (by simp)
          replace hv6 := hv6 (by simp)
          replace hv7 := hv7 (by simp)
          replace hv8 := hv8 (by simp)
          replace hv9 := hv9 (by simp)
          replace hv10 := hv10 (by simp)
          replace hv13 := hv13 (by simp)
          replace kX11 := kX11 (by simp)
          clear kO11
          obtain ⟨X, hX, hXN, kX⟩ := kX11
          clear hv0 hv1 hv2 hv3 hv4 hv5 hv6 hv7 hv8 hv9 hv10
          repeat (first | ((first | (refine listF_step rfl (fun K' hK => ?_)) | (refine listF_yes rfl rfl (by decide) ?_ (fun K' hK => ?_); (focus (go_simp; done)))); unfold opF; go_simp; (refine hK _ _ ?_); clear hK K') | (refine listF_no (b' := true) rfl rfl (by decide) ?_ ?_ ?_; (focus (go_simp; done)); (focus rfl)) | (refine listF_no (b' := false) rfl rfl (by decide) ?_ ?_ ?_; (focus (go_simp; done)); (focus rfl)) | (refine listF_nu rfl rfl (by decide) ?_ ?_; (focus (go_simp; done))) | (refine listF_nil ?_) | (refine region_F ?_) | (refine cond_F true ?_ ?_; (focus (go_simp; done)); simp only [if_true]) | (refine cond_F false ?_ ?_; (focus (go_simp; done)); simp only [Bool.false_eq_true, if_false]) | (with_reducible go_step))
          have hxz := kX.1
          have x0 := kX.cell 0 rfl
          have x1' := kX.cell 1 rfl
          have x2' := kX.cell 2 rfl
          have x3' := kX.cell 3 rfl
          have x4' := kX.cell 4 rfl
          have hBz : Below w1.heap.size w1 wJ := hB.trans (kLow.mono hB.size)
          have HBz : Hid (Below w.heap.size w wJ) := hid (HB1.out.trans (hBz.mono HB1.out.size))
          refine regionQ_F (Below wJ.heap.size wJ) (by kernel_rfl) (by kernel_rfl) (Below.refl _ _).drew ?_
          rcases Bool.eq_false_or_eq_true (inb q.jobs[k].progress 0 W.jobs[k].fin) with hb1 | hb1
          ·
            rcases Bool.eq_false_or_eq_true (inb q.jobs[k].since 0 1000000) with hb2 | hb2
            ·
              rcases Bool.eq_false_or_eq_true (inb q.jobs[k].charge 0 1000000000) with hb3 | hb3
              ·
                rcases Bool.eq_false_or_eq_true (inb q.jobs[k].why 0 2) with hb4 | hb4
                ·
                  rcases Bool.eq_false_or_eq_true (inb q.jobs[k].ended (-1) 1000000) with hb5 | hb5
                  ·
                    rcases beq_or q.jobs[k].why 0 with hb6 | hb6
                    · rcases beq_or q.jobs[k].progress W.jobs[k].fin with hb7 | hb7
                      ·
                        have Hbad := hid (HNO.out (by unfold stOk; simp [hb1, hb2, hb3, hb4, hb5, hb6, hb7]))
                        repeat (first | (refine listQ_step (v := ?_) rfl ?_ ?_; rotate_left; (focus (intro wq hwq; obtain ⟨hcq, hfq⟩ := bcell hwq; go_simp; (first | rfl | (exact ⟨rfl, rfl⟩) | (first | exact ret_in hwq | exact ret_most hwq))))) | (refine listQ_yes (v := ?_) rfl rfl (by decide) ?_ ?_ ?_; rotate_left; (focus (go_simp; done)); (focus (intro wq hwq; obtain ⟨hcq, hfq⟩ := bcell hwq; go_simp; (first | rfl | (exact ⟨rfl, rfl⟩) | (first | exact ret_in hwq | exact ret_most hwq))))) | (refine listQ_no (b' := true) rfl rfl (by decide) ?_ ?_ ?_; (focus (go_simp; done)); (focus rfl)) | (refine listQ_no (b' := false) rfl rfl (by decide) ?_ ?_ ?_; (focus (go_simp; done)); (focus rfl)) | (refine listQ_nu rfl rfl (by decide) ?_ ?_; (focus (go_simp; done))) | (refine listQ_nil ?_))
                        intro w6 hw6
                        repeat (first | ((first | (refine listF_step rfl (fun K' hK => ?_)) | (refine listF_yes rfl rfl (by decide) ?_ (fun K' hK => ?_); (focus (go_simp; done)))); unfold opF; go_simp; (refine hK _ _ ?_); clear hK K') | (refine listF_no (b' := true) rfl rfl (by decide) ?_ ?_ ?_; (focus (go_simp; done)); (focus rfl)) | (refine listF_no (b' := false) rfl rfl (by decide) ?_ ?_ ?_; (focus (go_simp; done)); (focus rfl)) | (refine listF_nu rfl rfl (by decide) ?_ ?_; (focus (go_simp; done))) | (refine listF_nil ?_) | (refine region_F ?_) | (refine cond_F true ?_ ?_; (focus (go_simp; done)); simp only [if_true]) | (refine cond_F false ?_ ?_; (focus (go_simp; done)); simp only [Bool.false_eq_true, if_false]) | (with_reducible go_step))
                        refine ret_F (.int .i64 7) (res1_F Try.results56 (by decide) (by go_simp)) ⟨by rw [Hbad.out], ?_⟩
                        exact HBz.out.trans (hw6.mono HBz.out.size)
                      ·
                        have Hok := hid (show stOk W.jobs[k] q.jobs[k] = true by unfold stOk; simp [hb1, hb2, hb3, hb4, hb5, hb6, hb7])
                        repeat (first | (refine listQ_step (v := ?_) rfl ?_ ?_; rotate_left; (focus (intro wq hwq; obtain ⟨hcq, hfq⟩ := bcell hwq; go_simp; (first | rfl | (exact ⟨rfl, rfl⟩) | (first | exact ret_in hwq | exact ret_most hwq))))) | (refine listQ_yes (v := ?_) rfl rfl (by decide) ?_ ?_ ?_; rotate_left; (focus (go_simp; done)); (focus (intro wq hwq; obtain ⟨hcq, hfq⟩ := bcell hwq; go_simp; (first | rfl | (exact ⟨rfl, rfl⟩) | (first | exact ret_in hwq | exact ret_most hwq))))) | (refine listQ_no (b' := true) rfl rfl (by decide) ?_ ?_ ?_; (focus (go_simp; done)); (focus rfl)) | (refine listQ_no (b' := false) rfl rfl (by decide) ?_ ?_ ?_; (focus (go_simp; done)); (focus rfl)) | (refine listQ_nu rfl rfl (by decide) ?_ ?_; (focus (go_simp; done))) | (refine listQ_nil ?_))
                        intro w6 hw6
                        repeat (first | ((first | (refine listF_step rfl (fun K' hK => ?_)) | (refine listF_yes rfl rfl (by decide) ?_ (fun K' hK => ?_); (focus (go_simp; done)))); unfold opF; go_simp; (refine hK _ _ ?_); clear hK K') | (refine listF_no (b' := true) rfl rfl (by decide) ?_ ?_ ?_; (focus (go_simp; done)); (focus rfl)) | (refine listF_no (b' := false) rfl rfl (by decide) ?_ ?_ ?_; (focus (go_simp; done)); (focus rfl)) | (refine listF_nu rfl rfl (by decide) ?_ ?_; (focus (go_simp; done))) | (refine listF_nil ?_) | (refine region_F ?_) | (refine cond_F true ?_ ?_; (focus (go_simp; done)); simp only [if_true]) | (refine cond_F false ?_ ?_; (focus (go_simp; done)); simp only [Bool.false_eq_true, if_false]) | (with_reducible go_step))
                        refine ⟨_, _, rfl, ?_, k + 1, rfl, by omega, by first | (go_simp; done) | exact sl2, by first | (go_simp; done) | exact sl3, by go_simp, hBz.trans (hw6.mono hBz.size), hid (fun i h h' hi => by rcases Nat.lt_or_ge i k with h1 | h1; exact hok.out i h h' h1; obtain rfl : i = k := (by omega); exact Hok.out)⟩
                        omega
                    ·
                      have Hok := hid (show stOk W.jobs[k] q.jobs[k] = true by unfold stOk; simp [hb1, hb2, hb3, hb4, hb5, hb6])
                      repeat (first | (refine listQ_step (v := ?_) rfl ?_ ?_; rotate_left; (focus (intro wq hwq; obtain ⟨hcq, hfq⟩ := bcell hwq; go_simp; (first | rfl | (exact ⟨rfl, rfl⟩) | (first | exact ret_in hwq | exact ret_most hwq))))) | (refine listQ_yes (v := ?_) rfl rfl (by decide) ?_ ?_ ?_; rotate_left; (focus (go_simp; done)); (focus (intro wq hwq; obtain ⟨hcq, hfq⟩ := bcell hwq; go_simp; (first | rfl | (exact ⟨rfl, rfl⟩) | (first | exact ret_in hwq | exact ret_most hwq))))) | (refine listQ_no (b' := true) rfl rfl (by decide) ?_ ?_ ?_; (focus (go_simp; done)); (focus rfl)) | (refine listQ_no (b' := false) rfl rfl (by decide) ?_ ?_ ?_; (focus (go_simp; done)); (focus rfl)) | (refine listQ_nu rfl rfl (by decide) ?_ ?_; (focus (go_simp; done))) | (refine listQ_nil ?_))
                      intro w6 hw6
                      repeat (first | ((first | (refine listF_step rfl (fun K' hK => ?_)) | (refine listF_yes rfl rfl (by decide) ?_ (fun K' hK => ?_); (focus (go_simp; done)))); unfold opF; go_simp; (refine hK _ _ ?_); clear hK K') | (refine listF_no (b' := true) rfl rfl (by decide) ?_ ?_ ?_; (focus (go_simp; done)); (focus rfl)) | (refine listF_no (b' := false) rfl rfl (by decide) ?_ ?_ ?_; (focus (go_simp; done)); (focus rfl)) | (refine listF_nu rfl rfl (by decide) ?_ ?_; (focus (go_simp; done))) | (refine listF_nil ?_) | (refine region_F ?_) | (refine cond_F true ?_ ?_; (focus (go_simp; done)); simp only [if_true]) | (refine cond_F false ?_ ?_; (focus (go_simp; done)); simp only [Bool.false_eq_true, if_false]) | (with_reducible go_step))
                      refine ⟨_, _, rfl, ?_, k + 1, rfl, by omega, by first | (go_simp; done) | exact sl2, by first | (go_simp; done) | exact sl3, by go_simp, hBz.trans (hw6.mono hBz.size), hid (fun i h h' hi => by rcases Nat.lt_or_ge i k with h1 | h1; exact hok.out i h h' h1; obtain rfl : i = k := (by omega); exact Hok.out)⟩
                      omega
                  ·
                    have Hbad := hid (HNO.out (by unfold stOk; simp [hb1, hb2, hb3, hb4, hb5]))
                    repeat (first | (refine listQ_step (v := ?_) rfl ?_ ?_; rotate_left; (focus (intro wq hwq; obtain ⟨hcq, hfq⟩ := bcell hwq; go_simp; (first | rfl | (exact ⟨rfl, rfl⟩) | (first | exact ret_in hwq | exact ret_most hwq))))) | (refine listQ_yes (v := ?_) rfl rfl (by decide) ?_ ?_ ?_; rotate_left; (focus (go_simp; done)); (focus (intro wq hwq; obtain ⟨hcq, hfq⟩ := bcell hwq; go_simp; (first | rfl | (exact ⟨rfl, rfl⟩) | (first | exact ret_in hwq | exact ret_most hwq))))) | (refine listQ_no (b' := true) rfl rfl (by decide) ?_ ?_ ?_; (focus (go_simp; done)); (focus rfl)) | (refine listQ_no (b' := false) rfl rfl (by decide) ?_ ?_ ?_; (focus (go_simp; done)); (focus rfl)) | (refine listQ_nu rfl rfl (by decide) ?_ ?_; (focus (go_simp; done))) | (refine listQ_nil ?_))
                    intro w6 hw6
                    repeat (first | ((first | (refine listF_step rfl (fun K' hK => ?_)) | (refine listF_yes rfl rfl (by decide) ?_ (fun K' hK => ?_); (focus (go_simp; done)))); unfold opF; go_simp; (refine hK _ _ ?_); clear hK K') | (refine listF_no (b' := true) rfl rfl (by decide) ?_ ?_ ?_; (focus (go_simp; done)); (focus rfl)) | (refine listF_no (b' := false) rfl rfl (by decide) ?_ ?_ ?_; (focus (go_simp; done)); (focus rfl)) | (refine listF_nu rfl rfl (by decide) ?_ ?_; (focus (go_simp; done))) | (refine listF_nil ?_) | (refine region_F ?_) | (refine cond_F true ?_ ?_; (focus (go_simp; done)); simp only [if_true]) | (refine cond_F false ?_ ?_; (focus (go_simp; done)); simp only [Bool.false_eq_true, if_false]) | (with_reducible go_step))
                    refine ret_F (.int .i64 7) (res1_F Try.results56 (by decide) (by go_simp)) ⟨by rw [Hbad.out], ?_⟩
                    exact HBz.out.trans (hw6.mono HBz.out.size)
                ·
                  have Hbad := hid (HNO.out (by unfold stOk; simp [hb1, hb2, hb3, hb4]))
                  repeat (first | (refine listQ_step (v := ?_) rfl ?_ ?_; rotate_left; (focus (intro wq hwq; obtain ⟨hcq, hfq⟩ := bcell hwq; go_simp; (first | rfl | (exact ⟨rfl, rfl⟩) | (first | exact ret_in hwq | exact ret_most hwq))))) | (refine listQ_yes (v := ?_) rfl rfl (by decide) ?_ ?_ ?_; rotate_left; (focus (go_simp; done)); (focus (intro wq hwq; obtain ⟨hcq, hfq⟩ := bcell hwq; go_simp; (first | rfl | (exact ⟨rfl, rfl⟩) | (first | exact ret_in hwq | exact ret_most hwq))))) | (refine listQ_no (b' := true) rfl rfl (by decide) ?_ ?_ ?_; (focus (go_simp; done)); (focus rfl)) | (refine listQ_no (b' := false) rfl rfl (by decide) ?_ ?_ ?_; (focus (go_simp; done)); (focus rfl)) | (refine listQ_nu rfl rfl (by decide) ?_ ?_; (focus (go_simp; done))) | (refine listQ_nil ?_))
                  intro w6 hw6
                  repeat (first | ((first | (refine listF_step rfl (fun K' hK => ?_)) | (refine listF_yes rfl rfl (by decide) ?_ (fun K' hK => ?_); (focus (go_simp; done)))); unfold opF; go_simp; (refine hK _ _ ?_); clear hK K') | (refine listF_no (b' := true) rfl rfl (by decide) ?_ ?_ ?_; (focus (go_simp; done)); (focus rfl)) | (refine listF_no (b' := false) rfl rfl (by decide) ?_ ?_ ?_; (focus (go_simp; done)); (focus rfl)) | (refine listF_nu rfl rfl (by decide) ?_ ?_; (focus (go_simp; done))) | (refine listF_nil ?_) | (refine region_F ?_) | (refine cond_F true ?_ ?_; (focus (go_simp; done)); simp only [if_true]) | (refine cond_F false ?_ ?_; (focus (go_simp; done)); simp only [Bool.false_eq_true, if_false]) | (with_reducible go_step))
                  refine ret_F (.int .i64 7) (res1_F Try.results56 (by decide) (by go_simp)) ⟨by rw [Hbad.out], ?_⟩
                  exact HBz.out.trans (hw6.mono HBz.out.size)
              ·
                have Hbad := hid (HNO.out (by unfold stOk; simp [hb1, hb2, hb3]))
                repeat (first | (refine listQ_step (v := ?_) rfl ?_ ?_; rotate_left; (focus (intro wq hwq; obtain ⟨hcq, hfq⟩ := bcell hwq; go_simp; (first | rfl | (exact ⟨rfl, rfl⟩) | (first | exact ret_in hwq | exact ret_most hwq))))) | (refine listQ_yes (v := ?_) rfl rfl (by decide) ?_ ?_ ?_; rotate_left; (focus (go_simp; done)); (focus (intro wq hwq; obtain ⟨hcq, hfq⟩ := bcell hwq; go_simp; (first | rfl | (exact ⟨rfl, rfl⟩) | (first | exact ret_in hwq | exact ret_most hwq))))) | (refine listQ_no (b' := true) rfl rfl (by decide) ?_ ?_ ?_; (focus (go_simp; done)); (focus rfl)) | (refine listQ_no (b' := false) rfl rfl (by decide) ?_ ?_ ?_; (focus (go_simp; done)); (focus rfl)) | (refine listQ_nu rfl rfl (by decide) ?_ ?_; (focus (go_simp; done))) | (refine listQ_nil ?_))
                intro w6 hw6
                repeat (first | ((first | (refine listF_step rfl (fun K' hK => ?_)) | (refine listF_yes rfl rfl (by decide) ?_ (fun K' hK => ?_); (focus (go_simp; done)))); unfold opF; go_simp; (refine hK _ _ ?_); clear hK K') | (refine listF_no (b' := true) rfl rfl (by decide) ?_ ?_ ?_; (focus (go_simp; done)); (focus rfl)) | (refine listF_no (b' := false) rfl rfl (by decide) ?_ ?_ ?_; (focus (go_simp; done)); (focus rfl)) | (refine listF_nu rfl rfl (by decide) ?_ ?_; (focus (go_simp; done))) | (refine listF_nil ?_) | (refine region_F ?_) | (refine cond_F true ?_ ?_; (focus (go_simp; done)); simp only [if_true]) | (refine cond_F false ?_ ?_; (focus (go_simp; done)); simp only [Bool.false_eq_true, if_false]) | (with_reducible go_step))
                refine ret_F (.int .i64 7) (res1_F Try.results56 (by decide) (by go_simp)) ⟨by rw [Hbad.out], ?_⟩
                exact HBz.out.trans (hw6.mono HBz.out.size)
            ·
              have Hbad := hid (HNO.out (by unfold stOk; simp [hb1, hb2]))
              repeat (first | (refine listQ_step (v := ?_) rfl ?_ ?_; rotate_left; (focus (intro wq hwq; obtain ⟨hcq, hfq⟩ := bcell hwq; go_simp; (first | rfl | (exact ⟨rfl, rfl⟩) | (first | exact ret_in hwq | exact ret_most hwq))))) | (refine listQ_yes (v := ?_) rfl rfl (by decide) ?_ ?_ ?_; rotate_left; (focus (go_simp; done)); (focus (intro wq hwq; obtain ⟨hcq, hfq⟩ := bcell hwq; go_simp; (first | rfl | (exact ⟨rfl, rfl⟩) | (first | exact ret_in hwq | exact ret_most hwq))))) | (refine listQ_no (b' := true) rfl rfl (by decide) ?_ ?_ ?_; (focus (go_simp; done)); (focus rfl)) | (refine listQ_no (b' := false) rfl rfl (by decide) ?_ ?_ ?_; (focus (go_simp; done)); (focus rfl)) | (refine listQ_nu rfl rfl (by decide) ?_ ?_; (focus (go_simp; done))) | (refine listQ_nil ?_))
              intro w6 hw6
              repeat (first | ((first | (refine listF_step rfl (fun K' hK => ?_)) | (refine listF_yes rfl rfl (by decide) ?_ (fun K' hK => ?_); (focus (go_simp; done)))); unfold opF; go_simp; (refine hK _ _ ?_); clear hK K') | (refine listF_no (b' := true) rfl rfl (by decide) ?_ ?_ ?_; (focus (go_simp; done)); (focus rfl)) | (refine listF_no (b' := false) rfl rfl (by decide) ?_ ?_ ?_; (focus (go_simp; done)); (focus rfl)) | (refine listF_nu rfl rfl (by decide) ?_ ?_; (focus (go_simp; done))) | (refine listF_nil ?_) | (refine region_F ?_) | (refine cond_F true ?_ ?_; (focus (go_simp; done)); simp only [if_true]) | (refine cond_F false ?_ ?_; (focus (go_simp; done)); simp only [Bool.false_eq_true, if_false]) | (with_reducible go_step))
              refine ret_F (.int .i64 7) (res1_F Try.results56 (by decide) (by go_simp)) ⟨by rw [Hbad.out], ?_⟩
              exact HBz.out.trans (hw6.mono HBz.out.size)
          ·
            have Hbad := hid (HNO.out (by unfold stOk; simp [hb1]))
            repeat (first | (refine listQ_step (v := ?_) rfl ?_ ?_; rotate_left; (focus (intro wq hwq; obtain ⟨hcq, hfq⟩ := bcell hwq; go_simp; (first | rfl | (exact ⟨rfl, rfl⟩) | (first | exact ret_in hwq | exact ret_most hwq))))) | (refine listQ_yes (v := ?_) rfl rfl (by decide) ?_ ?_ ?_; rotate_left; (focus (go_simp; done)); (focus (intro wq hwq; obtain ⟨hcq, hfq⟩ := bcell hwq; go_simp; (first | rfl | (exact ⟨rfl, rfl⟩) | (first | exact ret_in hwq | exact ret_most hwq))))) | (refine listQ_no (b' := true) rfl rfl (by decide) ?_ ?_ ?_; (focus (go_simp; done)); (focus rfl)) | (refine listQ_no (b' := false) rfl rfl (by decide) ?_ ?_ ?_; (focus (go_simp; done)); (focus rfl)) | (refine listQ_nu rfl rfl (by decide) ?_ ?_; (focus (go_simp; done))) | (refine listQ_nil ?_))
            intro w6 hw6
            repeat (first | ((first | (refine listF_step rfl (fun K' hK => ?_)) | (refine listF_yes rfl rfl (by decide) ?_ (fun K' hK => ?_); (focus (go_simp; done)))); unfold opF; go_simp; (refine hK _ _ ?_); clear hK K') | (refine listF_no (b' := true) rfl rfl (by decide) ?_ ?_ ?_; (focus (go_simp; done)); (focus rfl)) | (refine listF_no (b' := false) rfl rfl (by decide) ?_ ?_ ?_; (focus (go_simp; done)); (focus rfl)) | (refine listF_nu rfl rfl (by decide) ?_ ?_; (focus (go_simp; done))) | (refine listF_nil ?_) | (refine region_F ?_) | (refine cond_F true ?_ ?_; (focus (go_simp; done)); simp only [if_true]) | (refine cond_F false ?_ ?_; (focus (go_simp; done)); simp only [Bool.false_eq_true, if_false]) | (with_reducible go_step))
            refine ret_F (.int .i64 7) (res1_F Try.results56 (by decide) (by go_simp)) ⟨by rw [Hbad.out], ?_⟩
            exact HBz.out.trans (hw6.mono HBz.out.size)
        · rintro LJ sJ wJ hL hd ⟨kLow, kSz, hs2, hs3, hs5, hv0, hv1, hv2, hv3, hv4, hv5, hv6, hv7, hv8, hv9, hv10, hv13, kX11, kO11⟩ K hK
          clear hd
          rw [if_pos (by rfl)]
          unfold opF
          go_simp
          exact hK _ _ ⟨kLow, (by first | omega | (simp; done) | (simp; omega)), (by simpa [upd, updS] using hs2), (by simpa [upd, updS] using hs3), (by simpa [upd, updS] using hs5), (by simp [upd, updS]), (by simpa [upd, updS] using hv1), (by simpa [upd, updS] using hv2), (by simpa [upd, updS] using hv3), (by simpa [upd, updS] using hv4), (by simpa [upd, updS] using hv5), (by simpa [upd, updS] using hv6), (by simpa [upd, updS] using hv7), (by simpa [upd, updS] using hv8), (by simpa [upd, updS] using hv9), (by simpa [upd, updS] using hv10), (by simpa [upd, updS] using hv13), (by simp only [upd, updS]; exact fun h => (kX11 h)), (by simpa [upd] using kO11)⟩
        · rintro LJ sJ wJ hL hd ⟨kLow, kSz, hs2, hs3, hs5, hv0, hv1, hv2, hv3, hv4, hv5, hv6, hv7, hv8, hv9, hv10, hv13, kX11, kO11⟩ K hK
          have gv0 := hv0 (hd ⟨0, .data⟩ (by simp) rfl)
          clear hd
          rw [if_pos (by rfl)]
          unfold opF
          obtain ⟨hcq, hfq⟩ := bcell kLow
          go_simp
          exact hK _ _ ⟨kLow, (by first | omega | (simp; done) | (simp; omega)), (by simpa [upd, updS] using hs2), (by simpa [upd, updS] using hs3), (by simpa [upd, updS] using hs5), (by simpa [upd, updS] using hv0), (by simp [upd, updS]), (by simpa [upd, updS] using hv2), (by simpa [upd, updS] using hv3), (by simpa [upd, updS] using hv4), (by simpa [upd, updS] using hv5), (by simpa [upd, updS] using hv6), (by simpa [upd, updS] using hv7), (by simpa [upd, updS] using hv8), (by simpa [upd, updS] using hv9), (by simpa [upd, updS] using hv10), (by simpa [upd, updS] using hv13), (by simp only [upd, updS]; exact fun h => (kX11 h)), (by simpa [upd] using kO11)⟩
        · rintro LJ sJ wJ hL hd ⟨kLow, kSz, hs2, hs3, hs5, hv0, hv1, hv2, hv3, hv4, hv5, hv6, hv7, hv8, hv9, hv10, hv13, kX11, kO11⟩ K hK
          clear hd
          rw [if_pos (by rfl)]
          unfold opF
          go_simp
          exact hK _ _ ⟨kLow, (by first | omega | (simp; done) | (simp; omega)), (by simpa [upd, updS] using hs2), (by simpa [upd, updS] using hs3), (by simpa [upd, updS] using hs5), (by simpa [upd, updS] using hv0), (by simpa [upd, updS] using hv1), (by simp [upd, updS]), (by simpa [upd, updS] using hv3), (by simpa [upd, updS] using hv4), (by simpa [upd, updS] using hv5), (by simpa [upd, updS] using hv6), (by simpa [upd, updS] using hv7), (by simpa [upd, updS] using hv8), (by simpa [upd, updS] using hv9), (by simpa [upd, updS] using hv10), (by simpa [upd, updS] using hv13), (by simp only [upd, updS]; exact fun h => (kX11 h)), (by simpa [upd] using kO11)⟩
        · rintro LJ sJ wJ hL hd ⟨kLow, kSz, hs2, hs3, hs5, hv0, hv1, hv2, hv3, hv4, hv5, hv6, hv7, hv8, hv9, hv10, hv13, kX11, kO11⟩ K hK
          have gv1 := hv1 (hd ⟨1, .data⟩ (by simp) rfl)
          have gv2 := hv2 (hd ⟨2, .data⟩ (by simp) rfl)
          clear hd
          rw [if_pos (by rfl)]
          unfold opF
          go_simp
          exact hK _ _ ⟨kLow, (by first | omega | (simp; done) | (simp; omega)), (by simpa [upd, updS] using hs2), (by simpa [upd, updS] using hs3), (by simpa [upd, updS] using hs5), (by simpa [upd, updS] using hv0), (by simpa [upd, updS] using hv1), (by simpa [upd, updS] using hv2), (by simp [upd, updS]), (by simpa [upd, updS] using hv4), (by simpa [upd, updS] using hv5), (by simpa [upd, updS] using hv6), (by simpa [upd, updS] using hv7), (by simpa [upd, updS] using hv8), (by simpa [upd, updS] using hv9), (by simpa [upd, updS] using hv10), (by simpa [upd, updS] using hv13), (by simp only [upd, updS]; exact fun h => (kX11 h)), (by simpa [upd] using kO11)⟩
        · rintro LJ sJ wJ hL hd ⟨kLow, kSz, hs2, hs3, hs5, hv0, hv1, hv2, hv3, hv4, hv5, hv6, hv7, hv8, hv9, hv10, hv13, kX11, kO11⟩ K hK
          have gv3 := hv3 (hd ⟨3, .data⟩ (by simp) rfl)
          clear hd
          rw [if_pos (by rfl)]
          unfold opF
          obtain ⟨hcq, hfq⟩ := bcell kLow
          go_simp
          exact hK _ _ ⟨kLow, (by first | omega | (simp; done) | (simp; omega)), (by simpa [upd, updS] using hs2), (by simpa [upd, updS] using hs3), (by simpa [upd, updS] using hs5), (by simpa [upd, updS] using hv0), (by simpa [upd, updS] using hv1), (by simpa [upd, updS] using hv2), (by simpa [upd, updS] using hv3), (by simp [upd, updS]), (by simpa [upd, updS] using hv5), (by simpa [upd, updS] using hv6), (by simpa [upd, updS] using hv7), (by simpa [upd, updS] using hv8), (by simpa [upd, updS] using hv9), (by simpa [upd, updS] using hv10), (by simpa [upd, updS] using hv13), (by simp only [upd, updS]; exact fun h => (kX11 h)), (by simpa [upd] using kO11)⟩
        · rintro LJ sJ wJ hL hd ⟨kLow, kSz, hs2, hs3, hs5, hv0, hv1, hv2, hv3, hv4, hv5, hv6, hv7, hv8, hv9, hv10, hv13, kX11, kO11⟩ K hK
          clear hd
          rw [if_pos (by rfl)]
          unfold opF
          go_simp
          exact hK _ _ ⟨kLow, (by first | omega | (simp; done) | (simp; omega)), (by simpa [upd, updS] using hs2), (by simpa [upd, updS] using hs3), (by simpa [upd, updS] using hs5), (by simpa [upd, updS] using hv0), (by simpa [upd, updS] using hv1), (by simpa [upd, updS] using hv2), (by simpa [upd, updS] using hv3), (by simpa [upd, updS] using hv4), (by simp [upd, updS]), (by simpa [upd, updS] using hv6), (by simpa [upd, updS] using hv7), (by simpa [upd, updS] using hv8), (by simpa [upd, updS] using hv9), (by simpa [upd, updS] using hv10), (by simpa [upd, updS] using hv13), (by simp only [upd, updS]; exact fun h => (kX11 h)), (by simpa [upd] using kO11)⟩
        · rintro LJ sJ wJ hL hd ⟨kLow, kSz, hs2, hs3, hs5, hv0, hv1, hv2, hv3, hv4, hv5, hv6, hv7, hv8, hv9, hv10, hv13, kX11, kO11⟩ K hK
          have gv5 := hv5 (hd ⟨5, .data⟩ (by simp) rfl)
          clear hd
          rw [if_pos (by rfl)]
          unfold opF
          obtain ⟨hcq, hfq⟩ := bcell kLow
          go_simp
          exact hK _ _ ⟨kLow, (by first | omega | (simp; done) | (simp; omega)), (by simpa [upd, updS] using hs2), (by simpa [upd, updS] using hs3), (by simpa [upd, updS] using hs5), (by simpa [upd, updS] using hv0), (by simpa [upd, updS] using hv1), (by simpa [upd, updS] using hv2), (by simpa [upd, updS] using hv3), (by simpa [upd, updS] using hv4), (by simpa [upd, updS] using hv5), (by simp [upd, updS]), (by simpa [upd, updS] using hv7), (by simpa [upd, updS] using hv8), (by simpa [upd, updS] using hv9), (by simpa [upd, updS] using hv10), (by simpa [upd, updS] using hv13), (by simp only [upd, updS]; exact fun h => (kX11 h)), (by simpa [upd] using kO11)⟩
        · rintro LJ sJ wJ hL hd ⟨kLow, kSz, hs2, hs3, hs5, hv0, hv1, hv2, hv3, hv4, hv5, hv6, hv7, hv8, hv9, hv10, hv13, kX11, kO11⟩ K hK
          clear hd
          rw [if_pos (by rfl)]
          unfold opF
          go_simp
          exact hK _ _ ⟨kLow, (by first | omega | (simp; done) | (simp; omega)), (by simpa [upd, updS] using hs2), (by simpa [upd, updS] using hs3), (by simpa [upd, updS] using hs5), (by simpa [upd, updS] using hv0), (by simpa [upd, updS] using hv1), (by simpa [upd, updS] using hv2), (by simpa [upd, updS] using hv3), (by simpa [upd, updS] using hv4), (by simpa [upd, updS] using hv5), (by simpa [upd, updS] using hv6), (by simp [upd, updS]), (by simpa [upd, updS] using hv8), (by simpa [upd, updS] using hv9), (by simpa [upd, updS] using hv10), (by simpa [upd, updS] using hv13), (by simp only [upd, updS]; exact fun h => (kX11 h)), (by simpa [upd] using kO11)⟩
        · rintro LJ sJ wJ hL hd ⟨kLow, kSz, hs2, hs3, hs5, hv0, hv1, hv2, hv3, hv4, hv5, hv6, hv7, hv8, hv9, hv10, hv13, kX11, kO11⟩ K hK
          have gv6 := hv6 (hd ⟨6, .data⟩ (by simp) rfl)
          have gv7 := hv7 (hd ⟨7, .data⟩ (by simp) rfl)
          clear hd
          rw [if_pos (by rfl)]
          unfold opF
          go_simp
          exact hK _ _ ⟨kLow, (by first | omega | (simp; done) | (simp; omega)), (by simpa [upd, updS] using hs2), (by simpa [upd, updS] using hs3), (by simpa [upd, updS] using hs5), (by simpa [upd, updS] using hv0), (by simpa [upd, updS] using hv1), (by simpa [upd, updS] using hv2), (by simpa [upd, updS] using hv3), (by simpa [upd, updS] using hv4), (by simpa [upd, updS] using hv5), (by simpa [upd, updS] using hv6), (by simpa [upd, updS] using hv7), (by simp [upd, updS]), (by simpa [upd, updS] using hv9), (by simpa [upd, updS] using hv10), (by simpa [upd, updS] using hv13), (by simp only [upd, updS]; exact fun h => (kX11 h)), (by simpa [upd] using kO11)⟩
        · rintro LJ sJ wJ hL hd ⟨kLow, kSz, hs2, hs3, hs5, hv0, hv1, hv2, hv3, hv4, hv5, hv6, hv7, hv8, hv9, hv10, hv13, kX11, kO11⟩ K hK
          have gv8 := hv8 (hd ⟨8, .data⟩ (by simp) rfl)
          clear hd
          rw [if_pos (by rfl)]
          unfold opF
          obtain ⟨hcq, hfq⟩ := bcell kLow
          go_simp
          exact hK _ _ ⟨kLow, (by first | omega | (simp; done) | (simp; omega)), (by simpa [upd, updS] using hs2), (by simpa [upd, updS] using hs3), (by simpa [upd, updS] using hs5), (by simpa [upd, updS] using hv0), (by simpa [upd, updS] using hv1), (by simpa [upd, updS] using hv2), (by simpa [upd, updS] using hv3), (by simpa [upd, updS] using hv4), (by simpa [upd, updS] using hv5), (by simpa [upd, updS] using hv6), (by simpa [upd, updS] using hv7), (by simpa [upd, updS] using hv8), (by simp [upd, updS]), (by simpa [upd, updS] using hv10), (by simpa [upd, updS] using hv13), (by simp only [upd, updS]; exact fun h => (kX11 h)), (by simpa [upd] using kO11)⟩
        · rintro LJ sJ wJ hL hd ⟨kLow, kSz, hs2, hs3, hs5, hv0, hv1, hv2, hv3, hv4, hv5, hv6, hv7, hv8, hv9, hv10, hv13, kX11, kO11⟩ K hK
          have gv9 := hv9 (hd ⟨9, .data⟩ (by simp) rfl)
          clear hd
          rw [if_pos (by rfl)]
          unfold opF
          go_simp
          refine (rend_below W.jobs[k] _).mono ?_
          rintro e wN ⟨rfl, hbN⟩
          have hsN := hbN.size
          exact ⟨_, rfl, hK _ _ ⟨(kLow.trans (hbN.mono kSz)), (by first | omega | (simp; done) | (simp; omega)), (by simpa [upd, updS] using hs2), (by simpa [upd, updS] using hs3), (by simpa [upd, updS] using hs5), (by simpa [upd, updS] using hv0), (by simpa [upd, updS] using hv1), (by simpa [upd, updS] using hv2), (by simpa [upd, updS] using hv3), (by simpa [upd, updS] using hv4), (by simpa [upd, updS] using hv5), (by simpa [upd, updS] using hv6), (by simpa [upd, updS] using hv7), (by simpa [upd, updS] using hv8), (by simpa [upd, updS] using hv9), (by simp [upd, updS]), (by simpa [upd, updS] using hv13), (by simp only [upd, updS]; exact fun h => (kX11 h).at hbN), (by simpa [upd] using kO11)⟩⟩
        · rintro LJ sJ wJ hL hd ⟨kLow, kSz, hs2, hs3, hs5, hv0, hv1, hv2, hv3, hv4, hv5, hv6, hv7, hv8, hv9, hv10, hv13, kX11, kO11⟩ K hK
          clear hd
          rw [if_pos (by rfl)]
          unfold opF
          go_simp
          exact hK _ _ ⟨(kLow.alloc (by omega) _), (by first | omega | (simp; done) | (simp; omega)), (by simpa [upd, updS] using hs2), (by simpa [upd, updS] using hs3), (by simpa [upd, updS] using hs5), (by simpa [upd, updS] using hv0), (by simpa [upd, updS] using hv1), (by simpa [upd, updS] using hv2), (by simpa [upd, updS] using hv3), (by simpa [upd, updS] using hv4), (by simpa [upd, updS] using hv5), (by simpa [upd, updS] using hv6), (by simpa [upd, updS] using hv7), (by simpa [upd, updS] using hv8), (by simpa [upd, updS] using hv9), (by simpa [upd, updS] using hv10), (by simpa [upd, updS] using hv13), (by simp only [upd, updS]; exact fun _ => BoxJ.new kSz (by first | rfl | (rw [if_neg (by decide)]; cases hh : LJ 12 with | false => rfl | true => exact absurd (kO11 hh) (by rw [hL]; decide))) rfl), (by simp [upd])⟩
        · rintro LJ sJ wJ hL hd ⟨kLow, kSz, hs2, hs3, hs5, hv0, hv1, hv2, hv3, hv4, hv5, hv6, hv7, hv8, hv9, hv10, hv13, kX11, kO11⟩ K hK
          have gv4 := hv4 (hd ⟨4, .data⟩ (by simp) rfl)
          have ga11 := hd ⟨11, .data⟩ (by simp) rfl
          clear hd
          rw [if_pos (by rfl)]
          unfold opF
          have kbx := kX11 ga11
          rw [hL] at kbx
          obtain ⟨X, hX, hXN, kbc⟩ := kbx
          simp only [Bool.false_eq_true, if_false] at kbc
          have cx0 := kbc.cell 0 rfl
          have cx1 := kbc.cell 1 rfl
          have cx2 := kbc.cell 2 rfl
          have cx3 := kbc.cell 3 rfl
          have cx4 := kbc.cell 4 rfl
          have cxz := kbc.2.2
          go_simp
          exact hK undef _ ⟨(((((kLow.setCell (by first | omega | (simp; omega)) _).setCell (by first | omega | (simp; omega)) _).setCell (by first | omega | (simp; omega)) _).setCell (by first | omega | (simp; omega)) _).setCell (by first | omega | (simp; omega)) _), (by first | omega | (simp; done) | (simp; omega)), (by simpa [upd, updS] using hs2), (by simpa [upd, updS] using hs3), (by simpa [upd, updS] using hs5), (by simpa [upd, updS] using hv0), (by simpa [upd, updS] using hv1), (by simpa [upd, updS] using hv2), (by simpa [upd, updS] using hv3), (by simpa [upd, updS] using hv4), (by simpa [upd, updS] using hv5), (by simpa [upd, updS] using hv6), (by simpa [upd, updS] using hv7), (by simpa [upd, updS] using hv8), (by simpa [upd, updS] using hv9), (by simpa [upd, updS] using hv10), (by simpa [upd, updS] using hv13), (by simp only [upd, updS]; exact fun _ => ⟨X, hX, hXN, (((((kbc.set (i := 0) (u := .int .i64 q.jobs[k].progress)).set (i := 1) (u := .int .i64 q.jobs[k].since)).set (i := 2) (u := .int .i64 q.jobs[k].charge)).set (i := 3) (u := .int .i64 q.jobs[k].why)).set (i := 4) (u := .int .i64 q.jobs[k].ended))⟩), (by simp [upd]; exact ga11)⟩
        · rintro LJ sJ wJ hL hd ⟨kLow, kSz, hs2, hs3, hs5, hv0, hv1, hv2, hv3, hv4, hv5, hv6, hv7, hv8, hv9, hv10, hv13, kX11, kO11⟩ K hK
          have gv10 := hv10 (hd ⟨10, .data⟩ (by simp) rfl)
          clear hd
          rw [if_pos (by rfl)]
          unfold opF
          go_simp
          exact hK _ _ ⟨kLow, (by first | omega | (simp; done) | (simp; omega)), (by simpa [upd, updS] using hs2), (by simpa [upd, updS] using hs3), (by simpa [upd, updS] using hs5), (by simpa [upd, updS] using hv0), (by simpa [upd, updS] using hv1), (by simpa [upd, updS] using hv2), (by simpa [upd, updS] using hv3), (by simpa [upd, updS] using hv4), (by simpa [upd, updS] using hv5), (by simpa [upd, updS] using hv6), (by simpa [upd, updS] using hv7), (by simpa [upd, updS] using hv8), (by simpa [upd, updS] using hv9), (by simpa [upd, updS] using hv10), (by simp [upd, updS]), (by simp only [upd, updS]; exact fun h => (kX11 h)), (by simpa [upd] using kO11)⟩
      · have hkl : k = q.jobs.length := by omega
        subst hkl
        have HQE : Hid (quErr W q = if waits q.jobs = false then 9 else 0) := by
          show quErr W q = _
          unfold quErr
          rw [if_neg (by simp [Hlen.out]), if_neg (by simp [Hnow.out]), if_neg]
          rintro ⟨i, hi, hb⟩
          have hi' : i < W.jobs.length := by have := Hlen.out; omega
          rw [Work.job_eq hi', Qu.st_eq hi, hok.out i hi hi' hi] at hb
          cases hb
        have b0 := k1'.cell 0 rfl
        have HBr := hid (Below.trans HB1.out (hB.mono HB1.out.size) : Below w.heap.size w wr)
        have hlm : q.jobs.length ≤ 9223372036854775807 := by have := Hlen.out; omega
        clear hok HNO hlt hk
        repeat (first | ((first | (refine listF_step rfl (fun K' hK => ?_)) | (refine listF_yes rfl rfl (by decide) ?_ (fun K' hK => ?_); (focus (go_simp; done)))); unfold opF; go_simp; (refine hK _ _ ?_); clear hK K') | (refine listF_no (b' := true) rfl rfl (by decide) ?_ ?_ ?_; (focus (go_simp; done)); (focus rfl)) | (refine listF_no (b' := false) rfl rfl (by decide) ?_ ?_ ?_; (focus (go_simp; done)); (focus rfl)) | (refine listF_nu rfl rfl (by decide) ?_ ?_; (focus (go_simp; done))) | (refine listF_nil ?_) | (refine region_F ?_) | (refine cond_F true ?_ ?_; (focus (go_simp; done)); simp only [if_true]) | (refine cond_F false ?_ ?_; (focus (go_simp; done)); simp only [Bool.false_eq_true, if_false]) | (with_reducible go_step))
        rcases Bool.eq_false_or_eq_true (waits q.jobs) with hw | hw
        · (refine listF_step rfl (fun K' hK => ?_); unfold opF; go_simp; refine (rwaits_any q.now aq cq q.jobs _ hlm (Rd.at Hq.out HBr.out)).mono ?_; rintro e w3 ⟨rfl, hb3⟩; refine ⟨_, rfl, hK _ _ ?_⟩; clear hK K')
          repeat (first | ((first | (refine listF_step rfl (fun K' hK => ?_)) | (refine listF_yes rfl rfl (by decide) ?_ (fun K' hK => ?_); (focus (go_simp; done)))); unfold opF; go_simp; (refine hK _ _ ?_); clear hK K') | (refine listF_no (b' := true) rfl rfl (by decide) ?_ ?_ ?_; (focus (go_simp; done)); (focus rfl)) | (refine listF_no (b' := false) rfl rfl (by decide) ?_ ?_ ?_; (focus (go_simp; done)); (focus rfl)) | (refine listF_nu rfl rfl (by decide) ?_ ?_; (focus (go_simp; done))) | (refine listF_nil ?_) | (refine region_F ?_) | (refine cond_F true ?_ ?_; (focus (go_simp; done)); simp only [if_true]) | (refine cond_F false ?_ ?_; (focus (go_simp; done)); simp only [Bool.false_eq_true, if_false]) | (with_reducible go_step))
          refine ret_F (.int .i64 0) (res1_F Try.results56 (by decide) (by go_simp)) ⟨by rw [HQE.out, hw]; rfl, HBr.out.trans (hb3.mono HBr.out.size)⟩
        · (refine listF_step rfl (fun K' hK => ?_); unfold opF; go_simp; refine (rwaits_any q.now aq cq q.jobs _ hlm (Rd.at Hq.out HBr.out)).mono ?_; rintro e w3 ⟨rfl, hb3⟩; refine ⟨_, rfl, hK _ _ ?_⟩; clear hK K')
          repeat (first | ((first | (refine listF_step rfl (fun K' hK => ?_)) | (refine listF_yes rfl rfl (by decide) ?_ (fun K' hK => ?_); (focus (go_simp; done)))); unfold opF; go_simp; (refine hK _ _ ?_); clear hK K') | (refine listF_no (b' := true) rfl rfl (by decide) ?_ ?_ ?_; (focus (go_simp; done)); (focus rfl)) | (refine listF_no (b' := false) rfl rfl (by decide) ?_ ?_ ?_; (focus (go_simp; done)); (focus rfl)) | (refine listF_nu rfl rfl (by decide) ?_ ?_; (focus (go_simp; done))) | (refine listF_nil ?_) | (refine region_F ?_) | (refine cond_F true ?_ ?_; (focus (go_simp; done)); simp only [if_true]) | (refine cond_F false ?_ ?_; (focus (go_simp; done)); simp only [Bool.false_eq_true, if_false]) | (with_reducible go_step))
          refine ret_F (.int .i64 9) (res1_F Try.results56 (by decide) (by go_simp)) ⟨by rw [HQE.out, hw]; rfl, HBr.out.trans (hb3.mono HBr.out.size)⟩
    · have hq2 : quErr W q = 7 := by unfold quErr; rw [if_neg (by simp [Hlen.out]), if_pos hnow]
      refine regionQ_F (Below w1.heap.size w1) (by kernel_rfl) (by kernel_rfl) (Below.refl _ _).drew ?_
      repeat (first | (refine listQ_step (v := ?_) rfl ?_ ?_; rotate_left; (focus (intro wq hwq; obtain ⟨hcq, hfq⟩ := bcell hwq; go_simp; (first | rfl | (exact ⟨rfl, rfl⟩) | (first | exact ret_in hwq | exact ret_most hwq))))) | (refine listQ_yes (v := ?_) rfl rfl (by decide) ?_ ?_ ?_; rotate_left; (focus (go_simp; done)); (focus (intro wq hwq; obtain ⟨hcq, hfq⟩ := bcell hwq; go_simp; (first | rfl | (exact ⟨rfl, rfl⟩) | (first | exact ret_in hwq | exact ret_most hwq))))) | (refine listQ_no (b' := true) rfl rfl (by decide) ?_ ?_ ?_; (focus (go_simp; done)); (focus rfl)) | (refine listQ_no (b' := false) rfl rfl (by decide) ?_ ?_ ?_; (focus (go_simp; done)); (focus rfl)) | (refine listQ_nu rfl rfl (by decide) ?_ ?_; (focus (go_simp; done))) | (refine listQ_nil ?_))
      intro w2 hw2
      have Hq2 := hid hq2; clear hq2
      repeat (first | ((first | (refine listF_step rfl (fun K' hK => ?_)) | (refine listF_yes rfl rfl (by decide) ?_ (fun K' hK => ?_); (focus (go_simp; done)))); unfold opF; go_simp; (refine hK _ _ ?_); clear hK K') | (refine listF_no (b' := true) rfl rfl (by decide) ?_ ?_ ?_; (focus (go_simp; done)); (focus rfl)) | (refine listF_no (b' := false) rfl rfl (by decide) ?_ ?_ ?_; (focus (go_simp; done)); (focus rfl)) | (refine listF_nu rfl rfl (by decide) ?_ ?_; (focus (go_simp; done))) | (refine listF_nil ?_) | (refine region_F ?_) | (refine cond_F true ?_ ?_; (focus (go_simp; done)); simp only [if_true]) | (refine cond_F false ?_ ?_; (focus (go_simp; done)); simp only [Bool.false_eq_true, if_false]) | (with_reducible go_step))
      refine ret_F (.int .i64 7) (res1_F Try.results56 (by decide) (by go_simp)) ⟨by rw [Hq2.out], HB1.out.trans (hw2.mono HB1.out.size)⟩
  · have hl1 : ((q.jobs.length : Int) != (W.jobs.length : Int)) = true := by simp; omega
    have Hq2 := hid (show quErr W q = 2 by unfold quErr; rw [if_pos hlen])
    clear hlen
    repeat (first | ((first | (refine listF_step rfl (fun K' hK => ?_)) | (refine listF_yes rfl rfl (by decide) ?_ (fun K' hK => ?_); (focus (go_simp; done)))); unfold opF; go_simp; (refine hK _ _ ?_); clear hK K') | (refine listF_no (b' := true) rfl rfl (by decide) ?_ ?_ ?_; (focus (go_simp; done)); (focus rfl)) | (refine listF_no (b' := false) rfl rfl (by decide) ?_ ?_ ?_; (focus (go_simp; done)); (focus rfl)) | (refine listF_nu rfl rfl (by decide) ?_ ?_; (focus (go_simp; done))) | (refine listF_nil ?_) | (refine region_F ?_) | (refine cond_F true ?_ ?_; (focus (go_simp; done)); simp only [if_true]) | (refine cond_F false ?_ ?_; (focus (go_simp; done)); simp only [Bool.false_eq_true, if_false]) | (with_reducible go_step))
    refine ret_F (.int .i64 2) (res1_F Try.results56 (by decide) (by go_simp)) ⟨by rw [Hq2.out], (by repeat (first | (with_reducible exact Below.refl _ _) | (with_reducible refine bdrewN ?_ _) | (with_reducible refine Below.drew ?_) | (with_reducible refine Below.setCell ?_ (by first | omega | (simp; done) | (simp; omega)) _) | (with_reducible refine Below.alloc ?_ (by first | omega | (simp; done) | (simp; omega)) _)))⟩

end Go.Proofs.Ytbjgebbfachgfaa
