/- Next, QueueAt: the reference's. -/
import Derived.Test.YtbjgebbfachgfaacW36
import Derived.Test.YtbjgebbfachgfaacW34
set_option linter.unusedVariables false
set_option linter.unusedSimpArgs false
set_option linter.unusedSectionVars false
set_option linter.all false
namespace Go.Proofs.Ytbjgebbfachgfaa
open Go.RowKit

theorem qok_of_err {W : Work} {q : Qu} (h : quErr W q = 0) : QOk W q ∧ waits q.jobs = true := by
  unfold quErr at h
  by_cases h1 : q.jobs.length ≠ W.jobs.length
  · rw [if_pos h1] at h; cases h
  · rw [if_neg h1] at h
    by_cases h2 : inb q.now 0 1000000 = false
    · rw [if_pos h2] at h; cases h
    · rw [if_neg h2] at h
      by_cases h3 : ∃ i, i < q.jobs.length ∧ stOk (W.job i) (q.st i) = false
      · rw [if_pos h3] at h; cases h
      · rw [if_neg h3] at h
        by_cases h4 : waits q.jobs = false
        · rw [if_pos h4] at h; cases h
        · have h2' := (inb_iff _ _ _).1 (by simpa using h2 : inb q.now 0 1000000 = true)
          refine ⟨⟨by omega, h2'.1, h2'.2, fun i hi hi' => ?_⟩, by simpa using h4⟩
          cases hs : stOk W.jobs[i] q.jobs[i] with
          | true => rfl
          | false => exact absurd ⟨i, hi, by rw [Work.job_eq hi', Qu.st_eq hi]; exact hs⟩ h3

def RNxRes (W : Work) (q : Qu) (w : World) (e : Ending) (w' : World) : Prop := ∃ a c, e = .returned (.tuple #[.agg #[.int .i64 (nextRes W q).1.kind, .int .i64 (nextRes W q).1.job, .int .i64 (nextRes W q).1.from0, .int .i64 (nextRes W q).1.until0], .agg #[.int .i64 (nextRes W q).2.1.now, .slice a (nextRes W q).2.1.jobs.length c], .int .i64 (nextRes W q).2.2]) ∧
      RdSts w' a (nextRes W q).2.1.jobs ∧ Below w.heap.size w w'

set_option maxRecDepth 100000 in
set_option maxHeartbeats 8000000 in
theorem rNext_any (W : Work) (q : Qu) (aj af aq : Option Addr) (cj cf cq : Nat) (w : World) (hW : WorkIn w W aj af) (hq : RdSts w aq q.jobs) :
    Calls Try.prog 23 #[.agg #[.int .i64 W.rules.slice, .int .i64 W.rules.load, .int .i64 W.rules.dump, .int .i64 W.rules.patience, .int .i64 W.rules.rate, .slice aj W.jobs.length cj, .slice af W.faults.length cf], .agg #[.int .i64 q.now, .slice aq q.jobs.length cq]] w (RNxRes W q w) := by
  have HW := hid hW
  have Hq := hid hq
  clear hW hq
  refine enter_F Try.func23 rfl Try.ntmps23 (by simp) ?_
  intro s hs
  have sl0 : s 0 = .agg #[.int .i64 W.rules.slice, .int .i64 W.rules.load, .int .i64 W.rules.dump, .int .i64 W.rules.patience, .int .i64 W.rules.rate, .slice aj W.jobs.length cj, .slice af W.faults.length cf] := hs 0 (by simp)
  have sl1 : s 1 = .agg #[.int .i64 q.now, .slice aq q.jobs.length cq] := hs 1 (by simp)
  clear hs
  repeat (first | ((first | (refine listF_step rfl (fun K' hK => ?_)) | (refine listF_yes rfl rfl (by decide) ?_ (fun K' hK => ?_); (focus (go_simp; done)))); unfold opF; go_simp; (refine hK _ _ ?_); clear hK K') | (refine listF_no (b' := true) rfl rfl (by decide) ?_ ?_ ?_; (focus (go_simp; done)); (focus rfl)) | (refine listF_no (b' := false) rfl rfl (by decide) ?_ ?_ ?_; (focus (go_simp; done)); (focus rfl)) | (refine listF_nu rfl rfl (by decide) ?_ ?_; (focus (go_simp; done))) | (refine listF_nil ?_) | (refine region_F ?_) | (refine cond_F true ?_ ?_; (focus (go_simp; done)); simp only [if_true]) | (refine cond_F false ?_ ?_; (focus (go_simp; done)); simp only [Bool.false_eq_true, if_false]) | (with_reducible go_step))
  (refine listF_step rfl (fun K' hK => ?_); unfold opF; go_simp; refine (rcheck_any W aj af cj cf _ (HW.out.at (by repeat (first | (with_reducible exact Below.refl _ w) | (with_reducible refine bdrewN ?_ _) | (with_reducible refine Below.drew ?_) | (with_reducible refine Below.setCell ?_ (by first | omega | (simp; done) | (simp; omega)) _) | (with_reducible refine Below.alloc ?_ (by first | omega | (simp; done) | (simp; omega)) _))))).mono ?_; rintro e w2 ⟨rfl, hb2⟩; refine ⟨_, rfl, hK _ _ ?_⟩; clear hK K')
  have k0 : Cells w2 w.heap.size #[.int .i64 W.rules.slice, .int .i64 W.rules.load, .int .i64 W.rules.dump, .int .i64 W.rules.patience, .int .i64 W.rules.rate, .slice aj W.jobs.length cj, .slice af W.faults.length cf].toList := ((((Cells.new rfl).up _).up _).up _).at hb2
  have k1 : Cells w2 (w.heap.size + 1) #[.int .i64 q.now, .slice aq q.jobs.length cq].toList := (((Cells.new (by first | omega | (simp; done) | (simp; omega))).up _).up _).at hb2
  have k4 : Cells w2 (w.heap.size + 1 + 1) [.int .i64 0, .int .i64 0, .int .i64 0, .int .i64 0] := ((Cells.new (cs := #[.int .i64 0, .int .i64 0, .int .i64 0, .int .i64 0]) (by first | omega | (simp; done) | (simp; omega))).up _).at hb2
  have k5 : Cells w2 (w.heap.size + 1 + 1 + 1) [.int .i64 0, .slice none 0 0] := (Cells.new (cs := #[.int .i64 0, .slice none 0 0]) (by first | omega | (simp; done) | (simp; omega))).at hb2
  have HB2 := hid (Below.trans (by repeat (first | (with_reducible exact Below.refl _ w) | (with_reducible refine bdrewN ?_ _) | (with_reducible refine Below.drew ?_) | (with_reducible refine Below.setCell ?_ (by first | omega | (simp; done) | (simp; omega)) _) | (with_reducible refine Below.alloc ?_ (by first | omega | (simp; done) | (simp; omega)) _))) (hb2.mono (by first | omega | (simp; done) | (simp; omega))) : Below w.heap.size w w2)
  clear hb2
  have c00 := k0.cell 0 rfl
  have c01 := k0.cell 1 rfl
  have c02 := k0.cell 2 rfl
  have c03 := k0.cell 3 rfl
  have c04 := k0.cell 4 rfl
  have c05 := k0.cell 5 rfl
  have c06 := k0.cell 6 rfl
  have c10 := k1.cell 0 rfl
  have c11 := k1.cell 1 rfl
  have q0 := k0.1
  have q1 := k1.1
  have q4 := k4.1
  have q5 := k5.1
  have d0 := k4.cell 0 rfl
  have d1 := k4.cell 1 rfl
  have d2 := k4.cell 2 rfl
  have d3 := k4.cell 3 rfl
  have dz := k4.2.2
  have f0 := k5.cell 0 rfl
  have f1 := k5.cell 1 rfl
  have fz := k5.2.2
  by_cases he : W.err = 0
  · have he1 : ((check W).2.2 == 0) = true := by unfold Work.err at he; simp [he]
    have HK := hid (wok_of_err he)
    have HNE := hid (show nextErr W q = quErr W q by unfold nextErr; rw [if_pos he])
    clear he
    repeat (first | ((first | (refine listF_step rfl (fun K' hK => ?_)) | (refine listF_yes rfl rfl (by decide) ?_ (fun K' hK => ?_); (focus (go_simp; done)))); unfold opF; go_simp; (refine hK _ _ ?_); clear hK K') | (refine listF_no (b' := true) rfl rfl (by decide) ?_ ?_ ?_; (focus (go_simp; done)); (focus rfl)) | (refine listF_no (b' := false) rfl rfl (by decide) ?_ ?_ ?_; (focus (go_simp; done)); (focus rfl)) | (refine listF_nu rfl rfl (by decide) ?_ ?_; (focus (go_simp; done))) | (refine listF_nil ?_) | (refine region_F ?_) | (refine cond_F true ?_ ?_; (focus (go_simp; done)); simp only [if_true]) | (refine cond_F false ?_ ?_; (focus (go_simp; done)); simp only [Bool.false_eq_true, if_false]) | (with_reducible go_step))
    (refine listF_step rfl (fun K' hK => ?_); unfold opF; go_simp; refine (rQueue_any W q aj af aq cj cf cq _ (HW.out.at HB2.out) (Rd.at Hq.out HB2.out)).mono ?_; rintro e w3 ⟨rfl, hb3⟩; refine ⟨_, rfl, hK _ _ ?_⟩; clear hK K')
    obtain ⟨hc3, hf3⟩ := bcell hb3
    have hs3 := hb3.size
    have HB3 := hid (HB2.out.trans (hb3.mono HB2.out.size) : Below w.heap.size w w3)
    have r0 : w.heap.size < w3.heap.size := by omega
    have r1 : w.heap.size + 1 < w3.heap.size := by omega
    have r4 : w.heap.size + 1 + 1 < w3.heap.size := by omega
    have r5 : w.heap.size + 1 + 1 + 1 < w3.heap.size := by omega
    by_cases hqe : quErr W q = 0
    · have hq1 : (quErr W q != 0) = false := by simp [hqe]
      obtain ⟨hQ, hwt⟩ := qok_of_err hqe
      have HQ := hid hQ
      have Hr := hid (show nextRes W q = ((nextStep W q).1, (nextStep W q).2, 0) by unfold nextRes; rw [HNE.out, hqe]; rfl)
      obtain ⟨ix, hix, _⟩ := wait_ex hwt
      have hne : 0 < q.jobs.length := by omega
      clear hqe hQ hwt
      repeat (first | ((first | (refine listF_step rfl (fun K' hK => ?_)) | (refine listF_yes rfl rfl (by decide) ?_ (fun K' hK => ?_); (focus (go_simp; done)))); unfold opF; go_simp; (refine hK _ _ ?_); clear hK K') | (refine listF_no (b' := true) rfl rfl (by decide) ?_ ?_ ?_; (focus (go_simp; done)); (focus rfl)) | (refine listF_no (b' := false) rfl rfl (by decide) ?_ ?_ ?_; (focus (go_simp; done)); (focus rfl)) | (refine listF_nu rfl rfl (by decide) ?_ ?_; (focus (go_simp; done))) | (refine listF_nil ?_) | (refine region_F ?_) | (refine cond_F true ?_ ?_; (focus (go_simp; done)); simp only [if_true]) | (refine cond_F false ?_ ?_; (focus (go_simp; done)); simp only [Bool.false_eq_true, if_false]) | (with_reducible go_step))
      (refine listF_step rfl (fun K' hK => ?_); unfold opF; go_simp; refine (rnext_any W q aj af aq cj cf cq _ (HW.out.at HB3.out) (Rd.at Hq.out HB3.out) HK.out HQ.out hne).mono ?_; rintro e w5 ⟨ga, ca, rfl, hga, hqa, hb5⟩; refine ⟨_, rfl, hK _ _ ?_⟩; clear hK K')
      generalize nextStep W q = ns at *
      obtain ⟨sp, qn⟩ := ns
      repeat (first | ((first | (refine listF_step rfl (fun K' hK => ?_)) | (refine listF_yes rfl rfl (by decide) ?_ (fun K' hK => ?_); (focus (go_simp; done)))); unfold opF; go_simp; (refine hK _ _ ?_); clear hK K') | (refine listF_no (b' := true) rfl rfl (by decide) ?_ ?_ ?_; (focus (go_simp; done)); (focus rfl)) | (refine listF_no (b' := false) rfl rfl (by decide) ?_ ?_ ?_; (focus (go_simp; done)); (focus rfl)) | (refine listF_nu rfl rfl (by decide) ?_ ?_; (focus (go_simp; done))) | (refine listF_nil ?_) | (refine region_F ?_) | (refine cond_F true ?_ ?_; (focus (go_simp; done)); simp only [if_true]) | (refine cond_F false ?_ ?_; (focus (go_simp; done)); simp only [Bool.false_eq_true, if_false]) | (with_reducible go_step))
      refine wp_absw ?_
      intro wd hwd
      have hb5d : Below w5.heap.size w5 wd := by rw [hwd]; exact (by repeat (first | (with_reducible exact Below.refl _ w5) | (with_reducible refine bdrewN ?_ _) | (with_reducible refine Below.drew ?_) | (with_reducible refine Below.setCell ?_ (by first | omega | (simp; done) | (simp; omega)) _) | (with_reducible refine Below.alloc ?_ (by first | omega | (simp; done) | (simp; omega)) _)))
      have kS : Cells wd w5.heap.size [.int .i64 sp.kind, .int .i64 sp.job, .int .i64 sp.from0, .int .i64 sp.until0] := by rw [hwd]; exact Cells.up (Cells.new (cs := #[.int .i64 sp.kind, .int .i64 sp.job, .int .i64 sp.from0, .int .i64 sp.until0]) rfl) _
      have kU : Cells wd (w5.heap.size + 1) [.int .i64 qn.now, .slice (some ⟨ga, 0, none⟩) qn.jobs.length ca] := by rw [hwd]; exact Cells.new (cs := #[.int .i64 qn.now, .slice (some ⟨ga, 0, none⟩) qn.jobs.length ca]) (by first | omega | (simp; done) | (simp; omega))
      have k4' := ((k4.at hb3).at hb5).at hb5d
      have k5' := ((k5.at hb3).at hb5).at hb5d
      have hqd := Rd.at hqa hb5d
      have HBd := hid ((HB3.out.trans (hb5.mono HB3.out.size)).trans (hb5d.mono (by have := hb5.size; omega)) : Below w.heap.size w wd)
      have hs5 := hb5.size
      clear hwd hb5d hb5 hqa c00 c01 c02 c03 c04 c05 c06 c10 c11 q0 q1 q4 q5 d0 d1 d2 d3 dz f0 f1 fz hc3 hf3 k0 k1 k4 k5
      (refine wp_abs ?_; intro s' hs'; have gl4 := congrFun hs' 4; simp only [updS_some, updS_none, Nat.reduceEqDiff, ↓reduceIte] at gl4; (try rw [sl4] at gl4); have gl5 := congrFun hs' 5; simp only [updS_some, updS_none, Nat.reduceEqDiff, ↓reduceIte] at gl5; (try rw [sl5] at gl5); have gl10 := congrFun hs' 10; simp only [updS_some, updS_none, Nat.reduceEqDiff, ↓reduceIte] at gl10; (try rw [sl10] at gl10); have gl11 := congrFun hs' 11; simp only [updS_some, updS_none, Nat.reduceEqDiff, ↓reduceIte] at gl11; (try rw [sl11] at gl11); clear hs'; (try clear sl4); (try clear sl5); (try clear sl10); (try clear sl11); have sl4 := gl4; clear gl4; have sl5 := gl5; clear gl5; have sl10 := gl10; clear gl10; have sl11 := gl11; clear gl11)
      have cS0 := kS.cell 0 rfl
      have cS1 := kS.cell 1 rfl
      have cS2 := kS.cell 2 rfl
      have cS3 := kS.cell 3 rfl
      have cU0 := kU.cell 0 rfl
      have cU1 := kU.cell 1 rfl
      have jS := kS.1
      have jU := kU.1
      have m1 : ¬ w5.heap.size = w.heap.size + 1 + 1 := by omega
      have m2 : ¬ w5.heap.size = w.heap.size + 1 + 1 + 1 := by omega
      have m3 : ¬ w5.heap.size = w.heap.size + 1 := by omega
      refine regionR_F [(w.heap.size + 1 + 1), (w.heap.size + 1 + 1 + 1)] [[.int .i64 0, .int .i64 0, .int .i64 0, .int .i64 0], [.int .i64 0, .slice none 0 0]] [5, 6] [.q [], .q [], .st 5, .st 6, .q []] [?v1_0, ?v1_1, fun _ => undef, fun _ => undef, ?v1_4] [fun _ => [], fun _ => [], ?c1_2, ?c1_3, fun _ => []] (by kernel_rfl) (by kernel_rfl) (by kernel_rfl) (by kernel_rfl) (by kernel_rfl) (by first | exact List.nodup_nil | exact List.nodup_singleton _ | (simp; done) | (simp; omega)) (bc_cons (by repeat (first | (with_reducible exact k4') | (with_reducible refine Cells.drew ?_) | (with_reducible refine Cells.up ?_ _) | (with_reducible refine Cells.setFar ?_ (by omega)))) (bc_cons (by repeat (first | (with_reducible exact k5') | (with_reducible refine Cells.drew ?_) | (with_reducible refine Cells.up ?_ _) | (with_reducible refine Cells.setFar ?_ (by omega)))) bc_nil)) ?walk1 ?dep1
      case' walk1 =>
        refine walkR_q (by rfl) (fun X hX wq hwq hrq => ?_) ?_
        · obtain ⟨hcq, hfq⟩ := hwq.b2
          clear hrq
          go_simp
          (first | rfl | exact ⟨rfl, rfl⟩)
        refine walkR_q (by rfl) (fun X hX wq hwq hrq => ?_) ?_
        · obtain ⟨hcq, hfq⟩ := hwq.b2
          clear hrq
          go_simp
          (first | rfl | exact ⟨rfl, rfl⟩)
        refine walkR_st (by rfl) (fun X hX wq hwq hkq => ?_) ?_
        · rw [show X 5 = (w.heap.size + 1 + 1) from hX.at0 0 _ rfl] at hkq ⊢
          replace hkq : Cells wq (w.heap.size + 1 + 1) [.int .i64 0, .int .i64 0, .int .i64 0, .int .i64 0] := hkq
          have hks := hkq.1
          have hkz := hkq.2.2
          have hk0 := hkq.cell 0 rfl
          have hk1 := hkq.cell 1 rfl
          have hk2 := hkq.cell 2 rfl
          have hk3 := hkq.cell 3 rfl
          go_simp
          (first | ((with_reducible refine writeB_mk (Cells.set hkq) ?_ ?_); (focus (repeat (first | (with_reducible exact Only.refl _ _) | (with_reducible refine Only.set ?_)))); rfl) | ((with_reducible refine writeB_mk (Cells.set (Cells.set hkq)) ?_ ?_); (focus (repeat (first | (with_reducible exact Only.refl _ _) | (with_reducible refine Only.set ?_)))); rfl) | ((with_reducible refine writeB_mk (Cells.set (Cells.set (Cells.set hkq))) ?_ ?_); (focus (repeat (first | (with_reducible exact Only.refl _ _) | (with_reducible refine Only.set ?_)))); rfl) | ((with_reducible refine writeB_mk (Cells.set (Cells.set (Cells.set (Cells.set hkq)))) ?_ ?_); (focus (repeat (first | (with_reducible exact Only.refl _ _) | (with_reducible refine Only.set ?_)))); rfl) | ((with_reducible refine writeB_mk (Cells.set (Cells.set (Cells.set (Cells.set (Cells.set hkq))))) ?_ ?_); (focus (repeat (first | (with_reducible exact Only.refl _ _) | (with_reducible refine Only.set ?_)))); rfl) | ((with_reducible refine writeB_mk (Cells.set (Cells.set (Cells.set (Cells.set (Cells.set (Cells.set hkq)))))) ?_ ?_); (focus (repeat (first | (with_reducible exact Only.refl _ _) | (with_reducible refine Only.set ?_)))); rfl) | ((with_reducible refine writeB_mk (Cells.set (Cells.set (Cells.set (Cells.set (Cells.set (Cells.set (Cells.set hkq))))))) ?_ ?_); (focus (repeat (first | (with_reducible exact Only.refl _ _) | (with_reducible refine Only.set ?_)))); rfl) | ((with_reducible refine writeB_mk (Cells.set (Cells.set (Cells.set (Cells.set (Cells.set (Cells.set (Cells.set (Cells.set hkq)))))))) ?_ ?_); (focus (repeat (first | (with_reducible exact Only.refl _ _) | (with_reducible refine Only.set ?_)))); rfl))
        refine walkR_st (by rfl) (fun X hX wq hwq hkq => ?_) ?_
        · rw [show X 6 = (w.heap.size + 1 + 1 + 1) from hX.at0 1 _ rfl] at hkq ⊢
          replace hkq : Cells wq (w.heap.size + 1 + 1 + 1) [.int .i64 0, .slice none 0 0] := hkq
          have hks := hkq.1
          have hkz := hkq.2.2
          have hk0 := hkq.cell 0 rfl
          have hk1 := hkq.cell 1 rfl
          go_simp
          (first | ((with_reducible refine writeB_mk (Cells.set hkq) ?_ ?_); (focus (repeat (first | (with_reducible exact Only.refl _ _) | (with_reducible refine Only.set ?_)))); rfl) | ((with_reducible refine writeB_mk (Cells.set (Cells.set hkq)) ?_ ?_); (focus (repeat (first | (with_reducible exact Only.refl _ _) | (with_reducible refine Only.set ?_)))); rfl) | ((with_reducible refine writeB_mk (Cells.set (Cells.set (Cells.set hkq))) ?_ ?_); (focus (repeat (first | (with_reducible exact Only.refl _ _) | (with_reducible refine Only.set ?_)))); rfl) | ((with_reducible refine writeB_mk (Cells.set (Cells.set (Cells.set (Cells.set hkq)))) ?_ ?_); (focus (repeat (first | (with_reducible exact Only.refl _ _) | (with_reducible refine Only.set ?_)))); rfl) | ((with_reducible refine writeB_mk (Cells.set (Cells.set (Cells.set (Cells.set (Cells.set hkq))))) ?_ ?_); (focus (repeat (first | (with_reducible exact Only.refl _ _) | (with_reducible refine Only.set ?_)))); rfl) | ((with_reducible refine writeB_mk (Cells.set (Cells.set (Cells.set (Cells.set (Cells.set (Cells.set hkq)))))) ?_ ?_); (focus (repeat (first | (with_reducible exact Only.refl _ _) | (with_reducible refine Only.set ?_)))); rfl) | ((with_reducible refine writeB_mk (Cells.set (Cells.set (Cells.set (Cells.set (Cells.set (Cells.set (Cells.set hkq))))))) ?_ ?_); (focus (repeat (first | (with_reducible exact Only.refl _ _) | (with_reducible refine Only.set ?_)))); rfl) | ((with_reducible refine writeB_mk (Cells.set (Cells.set (Cells.set (Cells.set (Cells.set (Cells.set (Cells.set (Cells.set hkq)))))))) ?_ ?_); (focus (repeat (first | (with_reducible exact Only.refl _ _) | (with_reducible refine Only.set ?_)))); rfl))
        refine walkR_q (by rfl) (fun X hX wq hwq hrq => ?_) ?_
        · obtain ⟨hcq, hfq⟩ := hwq.b2
          clear hrq
          go_simp
          (first | rfl | exact ⟨rfl, rfl⟩)
        refine walkR_nil (fun X hX wz hwz hcz => ?_)
        have kz0 := hcz 5 (by simp)
        rw [show X 5 = (w.heap.size + 1 + 1) from hX.at0 0 _ rfl] at kz0
        simp only [updC_some, updC_none, Nat.reduceEqDiff, ↓reduceIte] at kz0
        have kz1 := hcz 6 (by simp)
        rw [show X 6 = (w.heap.size + 1 + 1 + 1) from hX.at0 1 _ rfl] at kz1
        simp only [updC_some, updC_none, Nat.reduceEqDiff, ↓reduceIte] at kz1
        clear hX hcz
        (try clear X)
      case dep1 =>
        refine depR_cons (fun X X' h => ?_) ?_
        · (first | exact ⟨rfl, rfl⟩)
        refine depR_cons (fun X X' h => ?_) ?_
        · (first | exact ⟨rfl, rfl⟩)
        refine depR_cons (fun X X' h => ?_) ?_
        · (first | exact ⟨rfl, rfl⟩)
        refine depR_cons (fun X X' h => ?_) ?_
        · (first | exact ⟨rfl, rfl⟩)
        refine depR_cons (fun X X' h => ?_) ?_
        · (first | exact ⟨rfl, rfl⟩)
        exact depR_nil
      repeat (first | ((first | (refine listF_step rfl (fun K' hK => ?_)) | (refine listF_yes rfl rfl (by decide) ?_ (fun K' hK => ?_); (focus (go_simp; done)))); unfold opF; go_simp; (refine hK _ _ ?_); clear hK K') | (refine listF_no (b' := true) rfl rfl (by decide) ?_ ?_ ?_; (focus (go_simp; done)); (focus rfl)) | (refine listF_no (b' := false) rfl rfl (by decide) ?_ ?_ ?_; (focus (go_simp; done)); (focus rfl)) | (refine listF_nu rfl rfl (by decide) ?_ ?_; (focus (go_simp; done))) | (refine listF_nil ?_) | (refine region_F ?_) | (refine cond_F true ?_ ?_; (focus (go_simp; done)); simp only [if_true]) | (refine cond_F false ?_ ?_; (focus (go_simp; done)); simp only [Bool.false_eq_true, if_false]) | (with_reducible go_step))
      refine ret_F (.tuple #[.agg #[.int .i64 sp.kind, .int .i64 sp.job, .int .i64 sp.from0, .int .i64 sp.until0], .agg #[.int .i64 qn.now, .slice (some ⟨ga, 0, none⟩) qn.jobs.length ca], .int .i64 0]) (res_cct (ad := ⟨w.heap.size + 1 + 1, 0, none⟩) (ad2 := ⟨w.heap.size + 1 + 1 + 1, 0, none⟩) Try.results23 ((getD_F (by simp)).trans (by go_simp)) ((getD_F (by simp)).trans (by go_simp)) (load_spell (kz0.cell 0 rfl) (kz0.cell 1 rfl) (kz0.cell 2 rfl) (kz0.cell 3 rfl)) (load_qu (kz1.cell 0 rfl) (kz1.cell 1 rfl)) ((getD_F (by simp)).trans (by go_simp))) ?_
      refine ⟨some ⟨ga, 0, none⟩, ca, by rw [Hr.out], ?_, HBd.out.trans (hwz.low (N := w.heap.size) (by omega) (by simp; omega))⟩
      rw [Hr.out]
      exact hqd.old hwz (fun b hb => by cases hb; simp; omega)
    · have hq1 : (quErr W q != 0) = true := by simp [hqe]
      have Hr := hid (show nextRes W q = (Spell.zero, Qu.zero, quErr W q) by unfold nextRes; rw [HNE.out, if_neg hqe])
      clear hqe
      repeat (first | ((first | (refine listF_step rfl (fun K' hK => ?_)) | (refine listF_yes rfl rfl (by decide) ?_ (fun K' hK => ?_); (focus (go_simp; done)))); unfold opF; go_simp; (refine hK _ _ ?_); clear hK K') | (refine listF_no (b' := true) rfl rfl (by decide) ?_ ?_ ?_; (focus (go_simp; done)); (focus rfl)) | (refine listF_no (b' := false) rfl rfl (by decide) ?_ ?_ ?_; (focus (go_simp; done)); (focus rfl)) | (refine listF_nu rfl rfl (by decide) ?_ ?_; (focus (go_simp; done))) | (refine listF_nil ?_) | (refine region_F ?_) | (refine cond_F true ?_ ?_; (focus (go_simp; done)); simp only [if_true]) | (refine cond_F false ?_ ?_; (focus (go_simp; done)); simp only [Bool.false_eq_true, if_false]) | (with_reducible go_step))
      refine ret_F (.tuple #[.agg #[.int .i64 0, .int .i64 0, .int .i64 0, .int .i64 0], .agg #[.int .i64 0, .slice none 0 0], .int .i64 (quErr W q)]) (res_cct (ad := ⟨w.heap.size + 1 + 1, 0, none⟩) (ad2 := ⟨w.heap.size + 1 + 1 + 1, 0, none⟩) Try.results23 ((getD_F (by simp)).trans (by go_simp)) ((getD_F (by simp)).trans (by go_simp)) (load_spell (by go_simp) (by go_simp) (by go_simp) (by go_simp)) (load_qu (by go_simp) (by go_simp)) ((getD_F (by simp)).trans (by go_simp))) ?_
      refine ⟨none, 0, by rw [Hr.out]; rfl, by rw [Hr.out]; exact .inl rfl, (by repeat (first | (with_reducible exact HB3.out) | (with_reducible refine bdrewN ?_ _) | (with_reducible refine Below.drew ?_) | (with_reducible refine Below.setCell ?_ (by first | omega | (simp; done) | (simp; omega)) _) | (with_reducible refine Below.alloc ?_ (by first | omega | (simp; done) | (simp; omega)) _)))⟩
  · have he1 : ((check W).2.2 == 0) = false := by unfold Work.err at he; simp [he]
    have he2 : ((check W).2.2 != 0) = true := by unfold Work.err at he; simp [he]
    have Hr := hid (show nextRes W q = (Spell.zero, Qu.zero, (check W).2.2) by unfold nextRes nextErr; rw [if_neg he]; exact if_neg he)
    clear he
    repeat (first | ((first | (refine listF_step rfl (fun K' hK => ?_)) | (refine listF_yes rfl rfl (by decide) ?_ (fun K' hK => ?_); (focus (go_simp; done)))); unfold opF; go_simp; (refine hK _ _ ?_); clear hK K') | (refine listF_no (b' := true) rfl rfl (by decide) ?_ ?_ ?_; (focus (go_simp; done)); (focus rfl)) | (refine listF_no (b' := false) rfl rfl (by decide) ?_ ?_ ?_; (focus (go_simp; done)); (focus rfl)) | (refine listF_nu rfl rfl (by decide) ?_ ?_; (focus (go_simp; done))) | (refine listF_nil ?_) | (refine region_F ?_) | (refine cond_F true ?_ ?_; (focus (go_simp; done)); simp only [if_true]) | (refine cond_F false ?_ ?_; (focus (go_simp; done)); simp only [Bool.false_eq_true, if_false]) | (with_reducible go_step))
    refine ret_F (.tuple #[.agg #[.int .i64 0, .int .i64 0, .int .i64 0, .int .i64 0], .agg #[.int .i64 0, .slice none 0 0], .int .i64 (check W).2.2]) (res_cct (ad := ⟨w.heap.size + 1 + 1, 0, none⟩) (ad2 := ⟨w.heap.size + 1 + 1 + 1, 0, none⟩) Try.results23 ((getD_F (by simp)).trans (by go_simp)) ((getD_F (by simp)).trans (by go_simp)) (load_spell (by go_simp) (by go_simp) (by go_simp) (by go_simp)) (load_qu (by go_simp) (by go_simp)) ((getD_F (by simp)).trans (by go_simp))) ?_
    refine ⟨none, 0, by rw [Hr.out]; rfl, by rw [Hr.out]; exact .inl rfl, (by repeat (first | (with_reducible exact HB2.out) | (with_reducible refine bdrewN ?_ _) | (with_reducible refine Below.drew ?_) | (with_reducible refine Below.setCell ?_ (by first | omega | (simp; done) | (simp; omega)) _) | (with_reducible refine Below.alloc ?_ (by first | omega | (simp; done) | (simp; omega)) _)))⟩

def AtRes (W : Work) (till : Int) (w : World) (e : Ending) (w' : World) : Prop := ∃ a c, e = .returned (.agg #[.int .i64 (day W till).2.now, .slice a (day W till).2.jobs.length c]) ∧ RdSts w' a (day W till).2.jobs ∧ Below w.heap.size w w'

set_option maxRecDepth 100000 in
set_option maxHeartbeats 8000000 in
theorem rQueueAt_any (W : Work) (till : Int) (aj af : Option Addr) (cj cf : Nat) (w : World) (hW : WorkIn w W aj af) :
    Calls Try.prog 51 #[.agg #[.int .i64 W.rules.slice, .int .i64 W.rules.load, .int .i64 W.rules.dump, .int .i64 W.rules.patience, .int .i64 W.rules.rate, .slice aj W.jobs.length cj, .slice af W.faults.length cf], .int .i64 till] w (AtRes W till w) := by
  have HW := hid hW
  clear hW
  refine enter_F Try.func51 rfl Try.ntmps51 (by simp) ?_
  intro s hs
  have sl0 : s 0 = .agg #[.int .i64 W.rules.slice, .int .i64 W.rules.load, .int .i64 W.rules.dump, .int .i64 W.rules.patience, .int .i64 W.rules.rate, .slice aj W.jobs.length cj, .slice af W.faults.length cf] := hs 0 (by simp)
  have sl1 : s 1 = .int .i64 till := hs 1 (by simp)
  clear hs
  repeat (first | ((first | (refine listF_step rfl (fun K' hK => ?_)) | (refine listF_yes rfl rfl (by decide) ?_ (fun K' hK => ?_); (focus (go_simp; done)))); unfold opF; go_simp; (refine hK _ _ ?_); clear hK K') | (refine listF_no (b' := true) rfl rfl (by decide) ?_ ?_ ?_; (focus (go_simp; done)); (focus rfl)) | (refine listF_no (b' := false) rfl rfl (by decide) ?_ ?_ ?_; (focus (go_simp; done)); (focus rfl)) | (refine listF_nu rfl rfl (by decide) ?_ ?_; (focus (go_simp; done))) | (refine listF_nil ?_) | (refine region_F ?_) | (refine cond_F true ?_ ?_; (focus (go_simp; done)); simp only [if_true]) | (refine cond_F false ?_ ?_; (focus (go_simp; done)); simp only [Bool.false_eq_true, if_false]) | (with_reducible go_step))
  (refine listF_step rfl (fun K' hK => ?_); unfold opF; go_simp; refine (rDay_any W till aj af cj cf _ (HW.out.at (by repeat (first | (with_reducible exact Below.refl _ w) | (with_reducible refine bdrewN ?_ _) | (with_reducible refine Below.drew ?_) | (with_reducible refine Below.setCell ?_ (by first | omega | (simp; done) | (simp; omega)) _) | (with_reducible refine Below.alloc ?_ (by first | omega | (simp; done) | (simp; omega)) _))))).mono ?_; rintro e w2 ⟨a, c, a', c', rfl, hl, hq, hb2, hfa, hfq⟩; refine ⟨_, rfl, hK _ _ ?_⟩; clear hK K')
  have k4 : Cells w2 (w.heap.size + 1) [.int .i64 0, .slice none 0 0] := (Cells.new (cs := #[.int .i64 0, .slice none 0 0]) (by first | omega | (simp; done) | (simp; omega))).at hb2
  have HB2 := hid (Below.trans (by repeat (first | (with_reducible exact Below.refl _ w) | (with_reducible refine bdrewN ?_ _) | (with_reducible refine Below.drew ?_) | (with_reducible refine Below.setCell ?_ (by first | omega | (simp; done) | (simp; omega)) _) | (with_reducible refine Below.alloc ?_ (by first | omega | (simp; done) | (simp; omega)) _))) (hb2.mono (by first | omega | (simp; done) | (simp; omega))) : Below w.heap.size w w2)
  have hne : ∀ b, a' = some b → b.block ≠ w.heap.size + 1 := fun b hb => by have := hfq b hb; simp at this; omega
  have Hne := hid hne
  clear hne hfq hfa hl hb2
  have d0 := k4.cell 0 rfl
  have d1 := k4.cell 1 rfl
  have dz := k4.2.2
  have ds := k4.1
  repeat (first | ((first | (refine listF_step rfl (fun K' hK => ?_)) | (refine listF_yes rfl rfl (by decide) ?_ (fun K' hK => ?_); (focus (go_simp; done)))); unfold opF; go_simp; (refine hK _ _ ?_); clear hK K') | (refine listF_no (b' := true) rfl rfl (by decide) ?_ ?_ ?_; (focus (go_simp; done)); (focus rfl)) | (refine listF_no (b' := false) rfl rfl (by decide) ?_ ?_ ?_; (focus (go_simp; done)); (focus rfl)) | (refine listF_nu rfl rfl (by decide) ?_ ?_; (focus (go_simp; done))) | (refine listF_nil ?_) | (refine region_F ?_) | (refine cond_F true ?_ ?_; (focus (go_simp; done)); simp only [if_true]) | (refine cond_F false ?_ ?_; (focus (go_simp; done)); simp only [Bool.false_eq_true, if_false]) | (with_reducible go_step))
  refine ret_F (.agg #[.int .i64 (day W till).2.now, .slice a' (day W till).2.jobs.length c']) (res_c (ad := ⟨w.heap.size + 1, 0, none⟩) Try.results51 ((getD_F (by simp)).trans (by go_simp)) (load_qu (by go_simp) (by go_simp))) ?_
  refine ⟨a', c', rfl, ?_, (by repeat (first | (with_reducible exact HB2.out) | (with_reducible refine bdrewN ?_ _) | (with_reducible refine Below.drew ?_) | (with_reducible refine Below.setCell ?_ (by first | omega | (simp; done) | (simp; omega)) _) | (with_reducible refine Below.alloc ?_ (by first | omega | (simp; done) | (simp; omega)) _)))⟩
  exact Rd.at ((Rd.setFar hq Hne.out).setFar Hne.out) ((Below.refl _ _).alloc (Nat.le_refl _) _)

end Go.Proofs.Ytbjgebbfachgfaa
