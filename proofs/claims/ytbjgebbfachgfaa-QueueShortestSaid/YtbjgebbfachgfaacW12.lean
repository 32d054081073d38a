/- before: the reference's. -/
import Derived.BigRegion
import Derived.Deep.DeepCutAuto
import Derived.Test.YtbjgebbfachgfaacJ4
set_option linter.unusedVariables false
set_option linter.unusedSimpArgs false
set_option linter.unusedSectionVars false
set_option linter.all false
namespace Go.Proofs.Ytbjgebbfachgfaa
open Go.RowKit

set_option maxRecDepth 100000 in
set_option maxHeartbeats 4000000 in
theorem rbefore_any (W : Work) (q : Qu) (aj af aq : Option Addr) (cj cf cq : Nat) (a b : Nat) (w : World) (hW : WorkIn w W aj af) (hq : RdSts w aq q.jobs) (hK : WOk W) (hQ : QOk W q) (ha : a < q.jobs.length) (hb : b < q.jobs.length) :
    Calls Try.prog 80 #[.agg #[.int .i64 W.rules.slice, .int .i64 W.rules.load, .int .i64 W.rules.dump, .int .i64 W.rules.patience, .int .i64 W.rules.rate, .slice aj W.jobs.length cj, .slice af W.faults.length cf], .agg #[.int .i64 q.now, .slice aq q.jobs.length cq], .int .i64 (a : Int), .int .i64 (b : Int)] w fun e w' => e = .returned (.bool (before W q a b)) ∧ Below w.heap.size w w' := by
  have HB0 := hid (((Below.refl _ w).alloc (Nat.le_refl _) (.cells #[.int .i64 W.rules.slice, .int .i64 W.rules.load, .int .i64 W.rules.dump, .int .i64 W.rules.patience, .int .i64 W.rules.rate, .slice aj W.jobs.length cj, .slice af W.faults.length cf] 27)).alloc (by simp) (.cells #[.int .i64 q.now, .slice aq q.jobs.length cq] 33))
  have HW := hid hW; clear hW
  have Hq := hid hq; clear hq
  have HQ := hid hQ; clear hQ
  have Mk : Hid (∀ w', Below (w.heap.size + 2) ((w.alloc (.cells #[.int .i64 W.rules.slice, .int .i64 W.rules.load, .int .i64 W.rules.dump, .int .i64 W.rules.patience, .int .i64 W.rules.rate, .slice aj W.jobs.length cj, .slice af W.faults.length cf] 27)).alloc (.cells #[.int .i64 q.now, .slice aq q.jobs.length cq] 33)) w' → w'.cell? ⟨w.heap.size, 0, none⟩ = some (.int .i64 W.rules.slice) ∧ w'.cell? ⟨w.heap.size, 1, none⟩ = some (.int .i64 W.rules.load) ∧ w'.cell? ⟨w.heap.size, 2, none⟩ = some (.int .i64 W.rules.dump) ∧
      w'.cell? ⟨w.heap.size, 3, none⟩ = some (.int .i64 W.rules.patience) ∧ w'.cell? ⟨w.heap.size, 4, none⟩ = some (.int .i64 W.rules.rate) ∧ w'.cell? ⟨w.heap.size, 5, none⟩ = some (.slice aj W.jobs.length cj) ∧
      w'.cell? ⟨w.heap.size, 6, none⟩ = some (.slice af W.faults.length cf) ∧ w'.cell? ⟨w.heap.size + 1, 0, none⟩ = some (.int .i64 q.now) ∧ w'.cell? ⟨w.heap.size + 1, 1, none⟩ = some (.slice aq q.jobs.length cq) ∧
      Below (w.heap.size + 2) ((w.alloc (.cells #[.int .i64 W.rules.slice, .int .i64 W.rules.load, .int .i64 W.rules.dump, .int .i64 W.rules.patience, .int .i64 W.rules.rate, .slice aj W.jobs.length cj, .slice af W.faults.length cf] 27)).alloc (.cells #[.int .i64 q.now, .slice aq q.jobs.length cq] 33)) w' ∧ w.heap.size + 2 ≤ w'.heap.size) := by
    intro w' hB
    obtain ⟨hc, hf⟩ := bcell hB
    have hs := hB.size
    refine ⟨?_, ?_, ?_, ?_, ?_, ?_, ?_, ?_, ?_, hB, by simpa using hs⟩ <;> go_simp
  have Bl : Hid (∀ w', w'.cell? ⟨w.heap.size, 0, none⟩ = some (.int .i64 W.rules.slice) ∧ w'.cell? ⟨w.heap.size, 1, none⟩ = some (.int .i64 W.rules.load) ∧ w'.cell? ⟨w.heap.size, 2, none⟩ = some (.int .i64 W.rules.dump) ∧
      w'.cell? ⟨w.heap.size, 3, none⟩ = some (.int .i64 W.rules.patience) ∧ w'.cell? ⟨w.heap.size, 4, none⟩ = some (.int .i64 W.rules.rate) ∧ w'.cell? ⟨w.heap.size, 5, none⟩ = some (.slice aj W.jobs.length cj) ∧
      w'.cell? ⟨w.heap.size, 6, none⟩ = some (.slice af W.faults.length cf) ∧ w'.cell? ⟨w.heap.size + 1, 0, none⟩ = some (.int .i64 q.now) ∧ w'.cell? ⟨w.heap.size + 1, 1, none⟩ = some (.slice aq q.jobs.length cq) ∧
      Below (w.heap.size + 2) ((w.alloc (.cells #[.int .i64 W.rules.slice, .int .i64 W.rules.load, .int .i64 W.rules.dump, .int .i64 W.rules.patience, .int .i64 W.rules.rate, .slice aj W.jobs.length cj, .slice af W.faults.length cf] 27)).alloc (.cells #[.int .i64 q.now, .slice aq q.jobs.length cq] 33)) w' ∧ w.heap.size + 2 ≤ w'.heap.size → Below (w.heap.size + 2) ((w.alloc (.cells #[.int .i64 W.rules.slice, .int .i64 W.rules.load, .int .i64 W.rules.dump, .int .i64 W.rules.patience, .int .i64 W.rules.rate, .slice aj W.jobs.length cj, .slice af W.faults.length cf] 27)).alloc (.cells #[.int .i64 q.now, .slice aq q.jobs.length cq] 33)) w') := fun w' h => h.2.2.2.2.2.2.2.2.2.1
  have Sz : Hid (∀ w', w'.cell? ⟨w.heap.size, 0, none⟩ = some (.int .i64 W.rules.slice) ∧ w'.cell? ⟨w.heap.size, 1, none⟩ = some (.int .i64 W.rules.load) ∧ w'.cell? ⟨w.heap.size, 2, none⟩ = some (.int .i64 W.rules.dump) ∧
      w'.cell? ⟨w.heap.size, 3, none⟩ = some (.int .i64 W.rules.patience) ∧ w'.cell? ⟨w.heap.size, 4, none⟩ = some (.int .i64 W.rules.rate) ∧ w'.cell? ⟨w.heap.size, 5, none⟩ = some (.slice aj W.jobs.length cj) ∧
      w'.cell? ⟨w.heap.size, 6, none⟩ = some (.slice af W.faults.length cf) ∧ w'.cell? ⟨w.heap.size + 1, 0, none⟩ = some (.int .i64 q.now) ∧ w'.cell? ⟨w.heap.size + 1, 1, none⟩ = some (.slice aq q.jobs.length cq) ∧
      Below (w.heap.size + 2) ((w.alloc (.cells #[.int .i64 W.rules.slice, .int .i64 W.rules.load, .int .i64 W.rules.dump, .int .i64 W.rules.patience, .int .i64 W.rules.rate, .slice aj W.jobs.length cj, .slice af W.faults.length cf] 27)).alloc (.cells #[.int .i64 q.now, .slice aq q.jobs.length cq] 33)) w' ∧ w.heap.size + 2 ≤ w'.heap.size → w.heap.size + 2 ≤ w'.heap.size) := fun w' h => h.2.2.2.2.2.2.2.2.2.2
  go_enter Try.func80, Try.ntmps80
  go_wp2_with fail
  go_region_held3 (fun w' => w'.cell? ⟨w.heap.size, 0, none⟩ = some (.int .i64 W.rules.slice) ∧ w'.cell? ⟨w.heap.size, 1, none⟩ = some (.int .i64 W.rules.load) ∧ w'.cell? ⟨w.heap.size, 2, none⟩ = some (.int .i64 W.rules.dump) ∧
      w'.cell? ⟨w.heap.size, 3, none⟩ = some (.int .i64 W.rules.patience) ∧ w'.cell? ⟨w.heap.size, 4, none⟩ = some (.int .i64 W.rules.rate) ∧ w'.cell? ⟨w.heap.size, 5, none⟩ = some (.slice aj W.jobs.length cj) ∧
      w'.cell? ⟨w.heap.size, 6, none⟩ = some (.slice af W.faults.length cf) ∧ w'.cell? ⟨w.heap.size + 1, 0, none⟩ = some (.int .i64 q.now) ∧ w'.cell? ⟨w.heap.size + 1, 1, none⟩ = some (.slice aq q.jobs.length cq) ∧
      Below (w.heap.size + 2) ((w.alloc (.cells #[.int .i64 W.rules.slice, .int .i64 W.rules.load, .int .i64 W.rules.dump, .int .i64 W.rules.patience, .int .i64 W.rules.rate, .slice aj W.jobs.length cj, .slice af W.faults.length cf] 27)).alloc (.cells #[.int .i64 q.now, .slice aq q.jobs.length cq] 33)) w' ∧ w.heap.size + 2 ≤ w'.heap.size)
    (first | (refine ⟨?_, ?_, ?_, ?_, ?_, ?_, ?_, ?_, ?_, (Below.refl _ _).drew, ?_⟩ <;> (go_simp; done)) | exact Mk.out _ ((Bl.out _ (by assumption)).trans ((by assumption : Below _ _ _).mono (Sz.out _ (by assumption)))))
    (first | (go_at_call_of 41 (Value.int IntKind.i64 (a : Int)); refine (roverdue_any W q aj af aq cj cf cq a _ (HW.out.at (HB0.out.trans ((Bl.out _ (by assumption)).mono (by omega)))) (Rd.at Hq.out (HB0.out.trans ((Bl.out _ (by assumption)).mono (by omega)))) HQ.out ha).mono ?_; rintro e w2 ⟨rfl, hb2⟩) | (go_at_call_of 41 (Value.int IntKind.i64 (b : Int)); refine (roverdue_any W q aj af aq cj cf cq b _ (HW.out.at (HB0.out.trans ((Bl.out _ (by assumption)).mono (by omega)))) (Rd.at Hq.out (HB0.out.trans ((Bl.out _ (by assumption)).mono (by omega)))) HQ.out hb).mono ?_; rintro e w2 ⟨rfl, hb2⟩))
  have hBw : Below (w.heap.size + 2) ((w.alloc (.cells #[.int .i64 W.rules.slice, .int .i64 W.rules.load, .int .i64 W.rules.dump, .int .i64 W.rules.patience, .int .i64 W.rules.rate, .slice aj W.jobs.length cj, .slice af W.faults.length cf] 27)).alloc (.cells #[.int .i64 q.now, .slice aq q.jobs.length cq] 33)) w2 := Bl.out _ (by assumption)
  have hsz : w.heap.size + 2 ≤ w2.heap.size := Sz.out _ (by assumption)
  clear Mk Bl Sz
  have HBw := hid (HB0.out.trans (hBw.mono (by omega)))
  obtain ⟨hc2, hf2⟩ := bcell hBw
  have ha' : a < W.jobs.length := by have := HQ.out.len; omega
  have hb' : b < W.jobs.length := by have := HQ.out.len; omega
  obtain ⟨n, off, rfl, hn, d1, d2, d3, d4⟩ := RdJobs.ne HW.out.jobs ha'
  obtain ⟨_, g1, g2, g3, g4⟩ := RdJobs.get HW.out.jobs hb'
  obtain ⟨n2, off2, rfl, hn2, e1, e2, e3, e4, e5⟩ := RdSts.ne Hq.out ha
  obtain ⟨_, f1, f2, f3, f4, f5⟩ := RdSts.get Hq.out hb
  have k1 : n < w.heap.size + 2 := by omega
  have k2 : n2 < w.heap.size + 2 := by omega
  have k3 : w.heap.size < w2.heap.size := by omega
  have k4 : w.heap.size + 1 < w2.heap.size := by omega
  have k5 : n < w2.heap.size := by omega
  have k6 : n2 < w2.heap.size := by omega
  have x1 : (a : Int) < (q.jobs.length : Int) := by omega
  have x2 : (a : Int) < (W.jobs.length : Int) := by omega
  have x3 : (b : Int) < (q.jobs.length : Int) := by omega
  have x4 : (b : Int) < (W.jobs.length : Int) := by omega
  have hbe : before W q a b = (if overdue W q a != overdue W q b then overdue W q a else if overdue W q a = false ∧ W.jobs[a].claim - q.jobs[a].progress ≠ W.jobs[b].claim - q.jobs[b].progress then decide (W.jobs[a].claim - q.jobs[a].progress < W.jobs[b].claim - q.jobs[b].progress) else decide (q.jobs[a].since < q.jobs[b].since)) := by
    unfold before; rw [Qu.st_eq ha, Qu.st_eq hb, Work.job_eq ha', Work.job_eq hb']
  have Hbe := hid hbe; clear hbe
  have y1 : IntKind.i64.wrap (W.jobs[a].claim - q.jobs[a].progress) = W.jobs[a].claim - q.jobs[a].progress := by
    have hj := HQ.out.b ha ha'; have hk := hK.jb ha'; have hf := Job.fin_bd (hK.job a ha'); exact IntWalk.i64_in _ (by omega)
  have y2 : IntKind.i64.wrap (W.jobs[b].claim - q.jobs[b].progress) = W.jobs[b].claim - q.jobs[b].progress := by
    have hj := HQ.out.b hb hb'; have hk := hK.jb hb'; have hf := Job.fin_bd (hK.job b hb'); exact IntWalk.i64_in _ (by omega)
  generalize overdue W q a = oa at *
  generalize overdue W q b = ob at *
  go_wp2_with fail
  go_region
  all_goals
    cases oa <;> cases ob
    · rcases beq_or (W.jobs[a].claim - q.jobs[a].progress) (W.jobs[b].claim - q.jobs[b].progress) with t1 | t1
      · have t2 : (W.jobs[a].claim - q.jobs[a].progress != W.jobs[b].claim - q.jobs[b].progress) = false := by simp at t1; simp [t1]
        go_wp2_with fail
        go_quiet (fail)
        go_wp2_with fail
        go_ret
        refine ⟨ret_bool ?_, ?_⟩
        · rw [Hbe.out]; simp at t1; simp [t1]
        · exact (by repeat (first | (with_reducible exact HBw.out) | (with_reducible refine bdrewN ?_ _) | (with_reducible refine Below.drew ?_) | (with_reducible refine Below.setCell ?_ (by first | omega | (simp; done) | (simp; omega)) _) | (with_reducible refine Below.alloc ?_ (by first | omega | (simp; done) | (simp; omega)) _)))
      · have t2 : (W.jobs[a].claim - q.jobs[a].progress != W.jobs[b].claim - q.jobs[b].progress) = true := by simp at t1; simp [t1]
        go_wp2_with fail
        go_quiet (fail)
        go_wp2_with fail
        go_ret
        refine ⟨ret_bool ?_, ?_⟩
        · rw [Hbe.out]; simp at t1; simp [t1]
        · exact (by repeat (first | (with_reducible exact HBw.out) | (with_reducible refine bdrewN ?_ _) | (with_reducible refine Below.drew ?_) | (with_reducible refine Below.setCell ?_ (by first | omega | (simp; done) | (simp; omega)) _) | (with_reducible refine Below.alloc ?_ (by first | omega | (simp; done) | (simp; omega)) _)))
    · go_wp2_with fail
      go_ret
      refine ⟨ret_bool ?_, ?_⟩
      · rw [Hbe.out]; simp
      · exact (by repeat (first | (with_reducible exact HBw.out) | (with_reducible refine bdrewN ?_ _) | (with_reducible refine Below.drew ?_) | (with_reducible refine Below.setCell ?_ (by first | omega | (simp; done) | (simp; omega)) _) | (with_reducible refine Below.alloc ?_ (by first | omega | (simp; done) | (simp; omega)) _)))
    · go_wp2_with fail
      go_ret
      refine ⟨ret_bool ?_, ?_⟩
      · rw [Hbe.out]; simp
      · exact (by repeat (first | (with_reducible exact HBw.out) | (with_reducible refine bdrewN ?_ _) | (with_reducible refine Below.drew ?_) | (with_reducible refine Below.setCell ?_ (by first | omega | (simp; done) | (simp; omega)) _) | (with_reducible refine Below.alloc ?_ (by first | omega | (simp; done) | (simp; omega)) _)))
    · go_wp2_with fail
      go_quiet (fail)
      go_wp2_with fail
      go_ret
      refine ⟨ret_bool ?_, ?_⟩
      · rw [Hbe.out]; simp
      · exact (by repeat (first | (with_reducible exact HBw.out) | (with_reducible refine bdrewN ?_ _) | (with_reducible refine Below.drew ?_) | (with_reducible refine Below.setCell ?_ (by first | omega | (simp; done) | (simp; omega)) _) | (with_reducible refine Below.alloc ?_ (by first | omega | (simp; done) | (simp; omega)) _)))

end Go.Proofs.Ytbjgebbfachgfaa
