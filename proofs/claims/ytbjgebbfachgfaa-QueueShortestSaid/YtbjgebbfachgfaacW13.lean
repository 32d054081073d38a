/- taken: the reference's. -/
import Derived.Test.YtbjgebbfachgfaacW12
set_option linter.unusedVariables false
set_option linter.unusedSimpArgs false
set_option linter.unusedSectionVars false
set_option linter.all false
namespace Go.Proofs.Ytbjgebbfachgfaa
open Go.RowKit

theorem taken_range (W : Work) (q : Qu) : ∀ k, takenUpto W q k = -1 ∨ ∃ m : Nat, m < k ∧ takenUpto W q k = (m : Int)
  | 0 => .inl rfl
  | k + 1 => by
    unfold takenUpto
    split
    · exact .inr ⟨k, by omega, rfl⟩
    · rcases taken_range W q k with h | ⟨m, hm, h⟩
      · exact .inl h
      · exact .inr ⟨m, by omega, h⟩
theorem cand_eq {W : Work} {q : Qu} {k : Nat} (hk : k < q.jobs.length) (hk' : k < W.jobs.length) : cand W q k = (q.jobs[k].why == 0 && decide (W.jobs[k].arrive ≤ q.now)) := by
  unfold cand; rw [Qu.st_eq hk, Work.job_eq hk']
theorem taken_no {W : Work} {q : Qu} {k : Nat} (h : cand W q k = false) : takenUpto W q (k + 1) = takenUpto W q k := by
  show (if cand W q k && _ then _ else _) = _; rw [h]; rfl
theorem taken_first {W : Work} {q : Qu} {k : Nat} (h : cand W q k = true) (ht : takenUpto W q k = -1) : takenUpto W q (k + 1) = (k : Int) := by
  show (if cand W q k && _ then _ else _) = _; rw [h, ht]; rfl
theorem taken_next {W : Work} {q : Qu} {k m : Nat} (h : cand W q k = true) (ht : takenUpto W q k = (m : Int)) : takenUpto W q (k + 1) = if before W q k m then (k : Int) else (m : Int) := by
  show (if cand W q k && (decide (takenUpto W q k < 0) || before W q k (takenUpto W q k).toNat) then _ else _) = _
  rw [h, ht]
  have : decide ((m : Int) < 0) = false := decide_eq_false (by omega)
  rw [this, Int.toNat_natCast]; simp

set_option maxRecDepth 100000 in
set_option maxHeartbeats 4000000 in
theorem rtaken_any (W : Work) (q : Qu) (aj af aq : Option Addr) (cj cf cq : Nat) (w : World) (hW : WorkIn w W aj af) (hq : RdSts w aq q.jobs) (hK : WOk W) (hQ : QOk W q) :
    Calls Try.prog 69 #[.agg #[.int .i64 W.rules.slice, .int .i64 W.rules.load, .int .i64 W.rules.dump, .int .i64 W.rules.patience, .int .i64 W.rules.rate, .slice aj W.jobs.length cj, .slice af W.faults.length cf], .agg #[.int .i64 q.now, .slice aq q.jobs.length cq]] w fun e w' => e = .returned (.int .i64 (takenUpto W q q.jobs.length)) ∧ Below w.heap.size w w' := by
  have HB0 := hid (((Below.refl _ w).alloc (Nat.le_refl _) (.cells #[.int .i64 W.rules.slice, .int .i64 W.rules.load, .int .i64 W.rules.dump, .int .i64 W.rules.patience, .int .i64 W.rules.rate, .slice aj W.jobs.length cj, .slice af W.faults.length cf] 27)).alloc (by simp) (.cells #[.int .i64 q.now, .slice aq q.jobs.length cq] 33))
  have hlen := hQ.len
  have hle : q.jobs.length ≤ 12 := by have := hK.jl; omega
  have hle2 : q.jobs.length ≤ W.jobs.length := by omega
  clear hlen
  have HW := hid hW; clear hW
  have Hq := hid hq; clear hq
  have HQ := hid hQ; clear hQ
  go_enter Try.func69, Try.ntmps69
  go_wp2_with fail
  go_loopw [5, 6] (fun t i wr => ∃ k : Nat, ∃ n : Int, k ≤ q.jobs.length ∧ i = .int .i64 k ∧ t = .int .i64 n ∧ Hid (n = takenUpto W q k) ∧ Below (w.heap.size + 2) ((w.alloc (.cells #[.int .i64 W.rules.slice, .int .i64 W.rules.load, .int .i64 W.rules.dump, .int .i64 W.rules.patience, .int .i64 W.rules.rate, .slice aj W.jobs.length cj, .slice af W.faults.length cf] 27)).alloc (.cells #[.int .i64 q.now, .slice aq q.jobs.length cq] 33)) wr) (fun _ i _ => q.jobs.length - (intOf i).toNat)
  case atStart => exact ⟨0, -1, Nat.zero_le _, rfl, rfl, hid rfl, Below.refl _ _⟩
  case round =>
    obtain ⟨k, n, hk, rfl, rfl, hn, hB⟩ := hrel
    have hsz : w.heap.size + 2 ≤ wr.heap.size := by have := hB.size; simpa using this
    have HBw := hid (HB0.out.trans (hB.mono (by omega)))
    obtain ⟨hc, hf⟩ := bcell hB
    by_cases hlt : k < q.jobs.length
    · have hlt' : k < W.jobs.length := by omega
      obtain ⟨b1, off, rfl, hb1, d1, d2, d3, d4⟩ := RdJobs.ne HW.out.jobs hlt'
      obtain ⟨b2, off2, rfl, hb2, e1, e2, e3, e4, e5⟩ := RdSts.ne Hq.out hlt
      have k1 : b1 < w.heap.size + 2 := by omega
      have k2 : b2 < w.heap.size + 2 := by omega
      have x1 : (k : Int) < (q.jobs.length : Int) := by omega
      have x2 : (k : Int) < (W.jobs.length : Int) := by omega
      have Hce := hid (cand_eq (W := W) (q := q) hlt hlt')
      rcases beq_or q.jobs[k].why 0 with t1 | t1
      · rcases dec_or (W.jobs[k].arrive ≤ q.now) with t2 | t2
        · have Hc : Hid (cand W q k = true) := by show cand W q k = true; rw [Hce.out, t1, t2]; rfl
          rcases taken_range W q k with hr | ⟨m, hm, hr⟩
          · obtain rfl : n = -1 := by rw [hn.out, hr]
            have Hr := hid hr; clear hr
            go_wp2_with fail
            go_quiet (fail)
            go_wp2_with fail
            go_roundw
            case rel => exact ⟨k + 1, (k : Int), by omega, by go_num, rfl, hid (taken_first Hc.out Hr.out).symm, bdrewN hB _⟩
            case measure => simp [intOf]; omega
          · obtain rfl : n = (m : Int) := by rw [hn.out, hr]
            have Hr := hid hr; clear hr
            have hm0 : decide ((m : Int) < 0) = false := decide_eq_false (by omega)
            have hml : m < q.jobs.length := by omega
            have Mk : Hid (∀ w', Below wr.heap.size wr w' → w'.cell? ⟨w.heap.size, 0, none⟩ = some (.int .i64 W.rules.slice) ∧ w'.cell? ⟨w.heap.size, 1, none⟩ = some (.int .i64 W.rules.load) ∧ w'.cell? ⟨w.heap.size, 2, none⟩ = some (.int .i64 W.rules.dump) ∧ w'.cell? ⟨w.heap.size, 3, none⟩ = some (.int .i64 W.rules.patience) ∧ w'.cell? ⟨w.heap.size, 4, none⟩ = some (.int .i64 W.rules.rate) ∧ w'.cell? ⟨w.heap.size, 5, none⟩ = some (.slice (some ⟨b1, off, none⟩) W.jobs.length cj) ∧ w'.cell? ⟨w.heap.size, 6, none⟩ = some (.slice af W.faults.length cf) ∧ w'.cell? ⟨w.heap.size + 1, 0, none⟩ = some (.int .i64 q.now) ∧ w'.cell? ⟨w.heap.size + 1, 1, none⟩ = some (.slice (some ⟨b2, off2, none⟩) q.jobs.length cq) ∧ w'.cell? ⟨b1, off + k * 4 + 1, none⟩ = some (.int .i64 W.jobs[k].arrive) ∧ w'.cell? ⟨b2, off2 + k * 5 + 3, none⟩ = some (.int .i64 q.jobs[k].why) ∧ Below wr.heap.size wr w') := by
              intro w' hB'
              obtain ⟨hc', hf'⟩ := bcell hB'
              have z1 : w.heap.size < wr.heap.size := by omega
              have z2 : w.heap.size + 1 < wr.heap.size := by omega
              have z3 : b1 < wr.heap.size := by omega
              have z4 : b2 < wr.heap.size := by omega
              refine ⟨?_, ?_, ?_, ?_, ?_, ?_, ?_, ?_, ?_, ?_, ?_, hB'⟩ <;> go_simp
            have Bl : Hid (∀ w', w'.cell? ⟨w.heap.size, 0, none⟩ = some (.int .i64 W.rules.slice) ∧ w'.cell? ⟨w.heap.size, 1, none⟩ = some (.int .i64 W.rules.load) ∧ w'.cell? ⟨w.heap.size, 2, none⟩ = some (.int .i64 W.rules.dump) ∧ w'.cell? ⟨w.heap.size, 3, none⟩ = some (.int .i64 W.rules.patience) ∧ w'.cell? ⟨w.heap.size, 4, none⟩ = some (.int .i64 W.rules.rate) ∧ w'.cell? ⟨w.heap.size, 5, none⟩ = some (.slice (some ⟨b1, off, none⟩) W.jobs.length cj) ∧ w'.cell? ⟨w.heap.size, 6, none⟩ = some (.slice af W.faults.length cf) ∧ w'.cell? ⟨w.heap.size + 1, 0, none⟩ = some (.int .i64 q.now) ∧ w'.cell? ⟨w.heap.size + 1, 1, none⟩ = some (.slice (some ⟨b2, off2, none⟩) q.jobs.length cq) ∧ w'.cell? ⟨b1, off + k * 4 + 1, none⟩ = some (.int .i64 W.jobs[k].arrive) ∧ w'.cell? ⟨b2, off2 + k * 5 + 3, none⟩ = some (.int .i64 q.jobs[k].why) ∧ Below wr.heap.size wr w' → Below wr.heap.size wr w') := fun w' h => h.2.2.2.2.2.2.2.2.2.2.2
            have hWin : Hid (∀ w', Below wr.heap.size wr w' → WorkIn w' W (some ⟨b1, off, none⟩) af ∧ RdSts w' (some ⟨b2, off2, none⟩) q.jobs) := by
              intro w' hB'
              have := HBw.out.trans (hB'.mono (by have := HBw.out.size; omega))
              exact ⟨HW.out.at this, Rd.at Hq.out this⟩
            go_wp2_with fail
            go_region_held3 (fun w' => w'.cell? ⟨w.heap.size, 0, none⟩ = some (.int .i64 W.rules.slice) ∧ w'.cell? ⟨w.heap.size, 1, none⟩ = some (.int .i64 W.rules.load) ∧ w'.cell? ⟨w.heap.size, 2, none⟩ = some (.int .i64 W.rules.dump) ∧ w'.cell? ⟨w.heap.size, 3, none⟩ = some (.int .i64 W.rules.patience) ∧ w'.cell? ⟨w.heap.size, 4, none⟩ = some (.int .i64 W.rules.rate) ∧ w'.cell? ⟨w.heap.size, 5, none⟩ = some (.slice (some ⟨b1, off, none⟩) W.jobs.length cj) ∧ w'.cell? ⟨w.heap.size, 6, none⟩ = some (.slice af W.faults.length cf) ∧ w'.cell? ⟨w.heap.size + 1, 0, none⟩ = some (.int .i64 q.now) ∧ w'.cell? ⟨w.heap.size + 1, 1, none⟩ = some (.slice (some ⟨b2, off2, none⟩) q.jobs.length cq) ∧ w'.cell? ⟨b1, off + k * 4 + 1, none⟩ = some (.int .i64 W.jobs[k].arrive) ∧ w'.cell? ⟨b2, off2 + k * 5 + 3, none⟩ = some (.int .i64 q.jobs[k].why) ∧ Below wr.heap.size wr w')
              (first | exact Mk.out _ ((Below.refl _ _).drew) | (go_simp; done) | exact Mk.out _ ((Bl.out _ (by assumption)).trans ((by assumption : Below _ _ _).mono (Bl.out _ (by assumption)).size)))
              (first | (go_at_call_of 80 (Value.int IntKind.i64 (k : Int)); refine (rbefore_any W q _ af _ cj cf cq k m _ (hWin.out _ (Bl.out _ (by assumption))).1 (hWin.out _ (Bl.out _ (by assumption))).2 hK HQ.out hlt hml).mono ?_; rintro e w2 ⟨rfl, hb2⟩))
            have hB2 : Below wr.heap.size wr w2 := Bl.out _ (by assumption)
            have HB2 := hid (hB.trans (hB2.mono hsz))
            clear hB2 Mk Bl hWin hb2
            generalize hbf : before W q k m = c
            have Hbf := hid hbf; clear hbf
            cases c
            · go_wp2_with fail
              go_roundw
              case rel => exact ⟨k + 1, (m : Int), by omega, by go_num, rfl, hid (by rw [taken_next Hc.out Hr.out, Hbf.out]; rfl), HB2.out⟩
              case measure => simp [intOf]; omega
            · go_wp2_with fail
              go_roundw
              case rel => exact ⟨k + 1, (k : Int), by omega, by go_num, rfl, hid (by rw [taken_next Hc.out Hr.out, Hbf.out]; rfl), HB2.out⟩
              case measure => simp [intOf]; omega
        · have Hc : Hid (cand W q k = false) := by show cand W q k = false; rw [Hce.out, t1, t2]; rfl
          go_wp2_with fail
          go_quiet (fail)
          go_wp2_with fail
          go_roundw
          case rel => exact ⟨k + 1, n, by omega, by go_num, rfl, hid (by rw [taken_no Hc.out]; exact hn.out), bdrewN hB _⟩
          case measure => simp [intOf]; omega
      · have Hc : Hid (cand W q k = false) := by show cand W q k = false; rw [Hce.out, t1]; rfl
        go_wp2_with fail
        go_quiet (fail)
        go_wp2_with fail
        go_roundw
        case rel => exact ⟨k + 1, n, by omega, by go_num, rfl, hid (by rw [taken_no Hc.out]; exact hn.out), bdrewN hB _⟩
        case measure => simp [intOf]; omega
    · have hkl : k = q.jobs.length := by omega
      have Hkl := hid hkl; clear hkl
      go_wp2_with fail
      go_ret
      exact ⟨ret_int (by rw [hn.out, Hkl.out]), HBw.out⟩

end Go.Proofs.Ytbjgebbfachgfaa
