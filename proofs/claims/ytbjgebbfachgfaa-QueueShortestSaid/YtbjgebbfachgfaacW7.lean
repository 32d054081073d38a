/- Check: the reference's. -/
import Derived.Test.YtbjgebbfachgfaacJ1
set_option linter.unusedVariables false
set_option linter.unusedSimpArgs false
set_option linter.unusedSectionVars false
set_option linter.all false
namespace Go.Proofs.Ytbjgebbfachgfaa
open Go.RowKit

structure WorkIn (w : World) (W : Work) (aj af : Option Addr) : Prop where
  jobs : RdJobs w aj W.jobs
  faults : RdFaults w af W.faults
  jl : W.jobs.length ≤ 9223372036854775807
  fl : W.faults.length ≤ 9223372036854775807
  nm : ∀ i (h : i < W.jobs.length), W.jobs[i].name.size ≤ 9223372036854775807
theorem WorkIn.at {w w' : World} {W : Work} {aj af : Option Addr} (h : WorkIn w W aj af) (hb : Below w.heap.size w w') : WorkIn w' W aj af :=
  ⟨Rd.at h.jobs hb, Rd.at h.faults hb, h.jl, h.fl, h.nm⟩

set_option maxRecDepth 100000 in
set_option maxHeartbeats 2000000 in
theorem rcheck_any (W : Work) (aj af : Option Addr) (cj cf : Nat) (w : World) (hW : WorkIn w W aj af) :
    Calls Try.prog 17 #[.agg #[.int .i64 W.rules.slice, .int .i64 W.rules.load, .int .i64 W.rules.dump, .int .i64 W.rules.patience, .int .i64 W.rules.rate, .slice aj W.jobs.length cj, .slice af W.faults.length cf]] w fun e w' => e = .returned (.tuple #[.int .i64 (check W).1, .int .i64 (check W).2.1, .int .i64 (check W).2.2]) ∧ Below w.heap.size w w' := by
  have hjl := hW.jl
  have hfl := hW.fl
  have HW := hid hW
  clear hW
  by_cases hr : W.rules.ok = true
  · have hr' : Rules.ok ⟨W.rules.slice, W.rules.load, W.rules.dump, W.rules.patience, W.rules.rate⟩ = true := hr
    by_cases hl : 12 < W.jobs.length ∨ 20 < W.faults.length
    · have Hfin := hid (check_long hr hl)
      have Hr := hid hr; clear hr
      by_cases h1 : 12 < W.jobs.length
      all_goals
        (try have h2 : 20 < W.faults.length := by omega)
        clear hl
        go_enter Try.func17, Try.ntmps17
        go_wp2_with (go_at_call 42; refine (rrules_any _ _ _ _ _ _).mono ?_; rintro e w' ⟨rfl, rfl⟩)
        go_ret3
        exact ⟨by rw [Hfin.out]; rfl, ((Below.refl _ w).alloc (Nat.le_refl _) _).alloc (by simp) _⟩
    · have h1 : W.jobs.length ≤ 12 := by omega
      have h2 : W.faults.length ≤ 20 := by omega
      clear hl
      have Hr := hid hr; clear hr
      go_enter Try.func17, Try.ntmps17
      go_wp2_with (go_at_call 42; refine (rrules_any _ _ _ _ _ _).mono ?_; rintro e w' ⟨rfl, rfl⟩)
      clear hr'
      go_loopw [5, 6] (fun i _ wr => ∃ k : Nat, k ≤ W.jobs.length ∧ i = .int .i64 k ∧ Hid (∀ j, j < k → jobErr W.jobs j = 0) ∧ Below (w.heap.size + 1) (w.alloc (.cells #[.int .i64 W.rules.slice, .int .i64 W.rules.load, .int .i64 W.rules.dump, .int .i64 W.rules.patience, .int .i64 W.rules.rate, .slice aj W.jobs.length cj, .slice af W.faults.length cf] 27)) wr) (fun i _ _ => W.jobs.length - (intOf i).toNat)
      case atStart => exact ⟨0, Nat.zero_le _, rfl, hid (by intro j hj; omega), (Below.refl _ _).alloc (by simp) _⟩
      case round =>
        obtain ⟨wo, rfl⟩ : ∃ wo : World, wo = wr := ⟨_, rfl⟩
        obtain ⟨k, hk, rfl, hw, hB⟩ := hrel
        have hB0 : Below w.heap.size w wo := (below_alloc1 _ _).trans (hB.mono (by omega))
        have hsz : w.heap.size < wo.heap.size := by have := hB.size; simp at this; omega
        obtain ⟨hc, hf⟩ := bcell hB
        by_cases hlt : k < W.jobs.length
        · obtain ⟨b, off, rfl, hb, d1, d2, d3, d4⟩ := RdJobs.ne HW.out.jobs hlt
          have hbo : b < wo.heap.size := by omega
          have hnm := HW.out.nm k hlt
          rcases Bool.eq_false_or_eq_true (nameOk W.jobs[k].name) with hn | hn
          · go_wp2_with (go_at_call 47; refine (r1name_any _ _ hnm).mono ?_; rintro e w2 ⟨rfl, hb2⟩; obtain ⟨hc2, hf2⟩ := bcell hb2)
            have hB2 : Below w.heap.size w w2 := hB0.trans (hb2.mono hB0.size)
            have hsz2 : w.heap.size < w2.heap.size := by have := hb2.size; omega
            have hb' : b < w2.heap.size := by have := hb2.size; omega
            go_loopw [6] (fun i wr => ∃ j : Nat, j ≤ k ∧ i = .int .i64 j ∧ Hid (∀ t (h : t < W.jobs.length), t < j → (W.jobs[t].name.toList == W.jobs[k].name.toList) = false) ∧ Below w2.heap.size w2 wr) (fun i _ => k - (intOf i).toNat)
            case atStart => exact ⟨0, Nat.zero_le _, rfl, hid (by intro t _ hj; omega), Below.refl _ _⟩
            case round =>
              obtain ⟨j, hj, rfl, hn2, hB3⟩ := hrel
              obtain ⟨hc3, hf3⟩ := bcell hB3
              have hsz3 : w2.heap.size ≤ wr.heap.size := hB3.size
              have hB4 : Below w.heap.size w wr := hB2.trans (hB3.mono hB2.size)
              by_cases hjk : j < k
              · have hjl : j < W.jobs.length := by omega
                obtain ⟨_, e1, e2, e3, e4⟩ := RdJobs.get HW.out.jobs hjl
                rcases Bool.eq_false_or_eq_true (W.jobs[j].name.toList == W.jobs[k].name.toList) with he | he
                · have Hfin := hid (check_job Hr.out h1 h2 hlt hw.out (jobErr_twice hlt hn hjk he) (by decide))
                  go_wp2_with fail
                  go_quiet (fail)
                  go_wp2
                  go_ret3
                  exact ⟨by rw [Hfin.out]; rfl, bdrewN hB4 _⟩
                · go_wp2_with fail
                  go_quiet (fail)
                  go_wp2
                  go_roundw
                  case rel =>
                    refine ⟨j + 1, by omega, by go_num, hid ?_, bdrewN hB3 _⟩
                    intro t htl ht
                    by_cases htj : t < j
                    · exact hn2.out t htl htj
                    · obtain rfl : t = j := by omega
                      exact he
                  case measure => simp [intOf]; omega
              · have hn3 : ∀ t (_ : t < k), (W.jobs[t].name.toList == W.jobs[k].name.toList) = false := fun t ht => hn2.out t (by omega) (by omega)
                have Hn3 := hid hn3; clear hn3
                rcases Bool.eq_false_or_eq_true W.jobs[k].numOk with hm | hm
                · have hm' : Job.numOk ⟨W.jobs[k].name, W.jobs[k].arrive, W.jobs[k].claim, W.jobs[k].needs⟩ = true := hm
                  go_wp2_with (go_at_call 48; refine (rnumbers_any _ _ _ _ _).mono ?_; rintro e w' ⟨rfl, rfl⟩)
                  go_roundw
                  case rel =>
                    refine ⟨k + 1, by omega, by go_num, hid ?_, ?_⟩
                    · intro t ht
                      by_cases htj : t < k
                      · exact hw.out t htj
                      · obtain rfl : t = k := by omega
                        exact jobErr_ok hlt hn Hn3.out hm
                    · exact ((hB.trans (hb2.mono (by omega))).trans (hB3.mono hsz2)).alloc (by omega) _
                  case measure => simp [intOf]; omega
                · have hm' : Job.numOk ⟨W.jobs[k].name, W.jobs[k].arrive, W.jobs[k].claim, W.jobs[k].needs⟩ = false := hm
                  have Hfin := hid (check_job Hr.out h1 h2 hlt hw.out (jobErr_range hlt hn Hn3.out hm) (by decide))
                  go_wp2_with (go_at_call 48; refine (rnumbers_any _ _ _ _ _).mono ?_; rintro e w' ⟨rfl, rfl⟩)
                  go_ret3
                  exact ⟨by rw [Hfin.out]; rfl, hB4.alloc (hB4.size) _⟩
          · have Hfin := hid (check_job Hr.out h1 h2 hlt hw.out (jobErr_form hlt hn) (by decide))
            go_wp2_with (go_at_call 47; refine (r1name_any _ _ hnm).mono ?_; rintro e w2 ⟨rfl, hb2⟩; obtain ⟨hc2, hf2⟩ := bcell hb2)
            go_ret3
            exact ⟨by rw [Hfin.out]; rfl, hB0.trans (hb2.mono hB0.size)⟩
        · have hj : ∀ i, i < W.jobs.length → jobErr W.jobs i = 0 := fun i hi => hw.out i (by omega)
          have Hj := hid hj; clear hj hw
          go_wp2_with fail
          go_loopw [7] (fun i wr => ∃ k : Nat, k ≤ W.faults.length ∧ i = .int .i64 k ∧ Hid (∀ j, j < k → fltErr W.faults j = 0) ∧ Below wo.heap.size wo wr) (fun i _ => W.faults.length - (intOf i).toNat)
          case atStart => exact ⟨0, Nat.zero_le _, rfl, hid (by intro j hj; omega), Below.refl _ _⟩
          case round =>
            clear hlt
            obtain ⟨k1, hk1, rfl, hw, hB3⟩ := hrel
            obtain ⟨hc3, hf3⟩ := bcell hB3
            have hB4 : Below w.heap.size w wr := hB0.trans (hB3.mono hB0.size)
            have hsz3 : wo.heap.size ≤ wr.heap.size := hB3.size
            have hsz4 : w.heap.size < wr.heap.size := by omega
            by_cases hlt : k1 < W.faults.length
            · obtain ⟨b, off, rfl, hb, d1, d2⟩ := RdFaults.ne HW.out.faults hlt
              have hbo : b < wo.heap.size := by omega
              have hbr : b < wr.heap.size := by omega
              rcases Bool.eq_false_or_eq_true (inb W.faults[k1].at0 0 5000) with ha | ha
              · rcases Bool.eq_false_or_eq_true (inb W.faults[k1].rep 1 5000) with hp | hp
                · by_cases hk0 : 0 < k1
                  · obtain ⟨m, rfl⟩ : ∃ m, k1 = m + 1 := ⟨k1 - 1, by omega⟩
                    have hml : m < W.faults.length := by omega
                    obtain ⟨_, e1, e2⟩ := RdFaults.get HW.out.faults hml
                    have hz := fltErr_zero hml (hw.out m (by omega))
                    obtain ⟨⟨z1, z2⟩, ⟨z3, z4⟩, _⟩ := hz
                    have s1 : IntKind.i64.wrap (m : Int) = m := IntWalk.i64_in _ (by omega)
                    have s2 : IntKind.i64.wrap (W.faults[m].at0 + W.faults[m].rep) = W.faults[m].at0 + W.faults[m].rep := IntWalk.i64_in _ (by omega)
                    rcases dec_or (W.faults[m + 1].at0 < W.faults[m].at0 + W.faults[m].rep) with hd | hd
                    · have Hfin := hid (check_flt Hr.out h1 h2 Hj.out hlt hw.out (fltErr_arg hlt ha hp (by omega) (by simpa using hd)) (by decide))
                      go_wp2_with (go_at_call 49; refine (refin_any _ _ _ _).mono ?_; rintro e w' ⟨rfl, rfl⟩)
                      go_quiet (fail)
                      go_wp2
                      go_ret3
                      exact ⟨by rw [Hfin.out]; rfl, bdrewN (hB4.alloc (by omega) _) _⟩
                    · have hok := hid (fltErr_ok hlt ha hp (fun _ => by simpa using hd))
                      go_wp2_with (go_at_call 49; refine (refin_any _ _ _ _).mono ?_; rintro e w' ⟨rfl, rfl⟩)
                      go_quiet (fail)
                      go_wp2
                      go_roundw
                      case rel =>
                        refine ⟨m + 1 + 1, by omega, by go_num, hid ?_, bdrewN (hB3.alloc (by omega) _) _⟩
                        intro j hj
                        by_cases hjk : j < m + 1
                        · exact hw.out j hjk
                        · obtain rfl : j = m + 1 := by omega
                          exact hok.out
                      case measure => simp [intOf]; omega
                  · have hk0' : decide (0 < k1) = false := decide_eq_false hk0
                    have hok := hid (fltErr_ok hlt ha hp (fun h => absurd h hk0))
                    go_wp2_with (go_at_call 49; refine (refin_any _ _ _ _).mono ?_; rintro e w' ⟨rfl, rfl⟩)
                    go_quiet (fail)
                    go_wp2
                    go_roundw
                    case rel =>
                      refine ⟨k1 + 1, by omega, by go_num, hid ?_, bdrewN (hB3.alloc (by omega) _) _⟩
                      intro j hj
                      obtain rfl : j = k1 := by omega
                      exact hok.out
                    case measure => simp [intOf]; omega
                · have Hfin := hid (check_flt Hr.out h1 h2 Hj.out hlt hw.out (fltErr_range hlt (.inr hp)) (by decide))
                  go_wp2_with (go_at_call 49; refine (refin_any _ _ _ _).mono ?_; rintro e w' ⟨rfl, rfl⟩)
                  go_ret3
                  exact ⟨by rw [Hfin.out]; rfl, hB4.alloc (by omega) _⟩
              · have Hfin := hid (check_flt Hr.out h1 h2 Hj.out hlt hw.out (fltErr_range hlt (.inl ha)) (by decide))
                go_wp2_with (go_at_call 49; refine (refin_any _ _ _ _).mono ?_; rintro e w' ⟨rfl, rfl⟩)
                go_ret3
                exact ⟨by rw [Hfin.out]; rfl, hB4.alloc (by omega) _⟩
            · have Hfin := hid (check_ok Hr.out h1 h2 Hj.out (fun i hi => hw.out i (by omega)))
              go_wp2_with fail
              go_ret3
              exact ⟨by rw [Hfin.out]; rfl, hB4⟩
  · have hr' : Rules.ok ⟨W.rules.slice, W.rules.load, W.rules.dump, W.rules.patience, W.rules.rate⟩ = false := by simpa using hr
    have Hfin := hid (check_rules hr')
    clear hr
    go_enter Try.func17, Try.ntmps17
    go_wp2_with (go_at_call 42; refine (rrules_any _ _ _ _ _ _).mono ?_; rintro e w' ⟨rfl, rfl⟩)
    go_ret3
    exact ⟨by rw [Hfin.out]; rfl, ((Below.refl _ w).alloc (Nat.le_refl _) _).alloc (by simp) _⟩

end Go.Proofs.Ytbjgebbfachgfaa
