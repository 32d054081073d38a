/- Check: the program's, whose names lie in a map. -/
import Derived.Maps.Own
import Derived.StringKeys
import Derived.Maps.Views
import Derived.Test.YtbjgebbfachgfaacW7
set_option linter.unusedVariables false
set_option linter.unusedSimpArgs false
set_option linter.unusedSectionVars false
set_option linter.all false
namespace Go.Proofs.Ytbjgebbfachgfaa
open Go.RowKit Go.Maps Go.WideMaps

theorem plainElem_bool_inv {H : Type} {P : Program} {e : TypeId} (he : P.underlying e = some .bool) {v : Value} {z : DataW H × List MemPlace} (h : plainElem P e v = some z) : ∃ x, v = .bool x ∧ z = (.lit (.bool x), []) := by
  unfold plainElem at h
  rw [he] at h
  cases v <;> simp at h
  exact ⟨_, rfl, h.symm⟩

theorem keyLaw : Keyed Try.prog 9 := string_keyed Try.underlying9
theorem zeroBool (w : World) : (zeroValue 4).run Try.prog w = .ok (.bool false) w := by kernel_rfl

/-- block b holds the names of the jobs l -/
def NamesMap (w : World) (b : Nat) (l : List Job) : Prop :=
  ∃ D : DataW Unit, w.ownsMap Try.prog 9 (plainElem Try.prog 4) b l.length D ∧ IsMap D ∧
    ∀ s : ByteArray, D.atKey (.string s.data.toList) (.lit (.bool false)) = .lit (.bool (l.any fun j => j.name.toList == s.toList))

theorem NamesMap.made (w : World) : NamesMap (w.alloc (.map #[] 0)) w.heap.size [] :=
  ⟨_, World.ownsMap_made _ _ _ _, ⟨_, rfl⟩, fun _ => rfl⟩
theorem NamesMap.lt {w : World} {b : Nat} {l : List Job} (h : NamesMap w b l) : b < w.heap.size := by
  obtain ⟨D, h, _⟩ := h; exact h.lt
theorem NamesMap.at {w w' : World} {b : Nat} {l : List Job} (h : NamesMap w b l) {B : Nat} (hb : Below B w w') (hB : b < B) : NamesMap w' b l := by
  obtain ⟨D, ⟨es, clock, hh, F, hs, hD⟩, hm, ha⟩ := h
  exact ⟨D, ⟨es, clock, (hb.block b hB).trans hh, F, hs, hD⟩, hm, ha⟩
theorem NamesMap.look {w : World} {b : Nat} {l : List Job} (h : NamesMap w b l) (s : ByteArray) (hs : s.size ≤ 9223372036854775807) :
    (Instr.lookup 82 (.map (some b)) (.string s) false).run Try.prog w = .ok (.bool (l.any fun j => j.name.toList == s.toList)) w := by
  obtain ⟨D, ho, _, ha⟩ := h
  obtain ⟨v, ps, hrun, hv⟩ := ho.lookup keyLaw Try.underlying82 (zeroBool w) (plainElem_bool Try.underlying4 false) (keyOf_string_mk Try.underlying9 (s := s) (by unfold maxLen; omega))
  rw [ha s] at hv
  obtain ⟨x, rfl, hx⟩ := plainElem_bool_inv Try.underlying4 hv
  have : (l.any fun j => j.name.toList == s.toList) = x := by simp at hx; exact hx.1
  rw [hrun, this]

theorem WorkIn.name {w : World} {W : Work} {aj af : Option Addr} (h : WorkIn w W aj af) {k : Nat} (hk : k < W.jobs.length) : W.jobs[k].name.size ≤ 9223372036854775807 := h.nm k hk

theorem NamesMap.put {D : DataW Unit} {w : World} {b : Nat} {l : List Job} (j : Job) (hm : IsMap D) (ha : ∀ s : ByteArray, D.atKey (.string s.data.toList) (.lit (.bool false)) = .lit (.bool (l.any fun j => j.name.toList == s.toList)))
    (ho : w.ownsMap Try.prog 9 (plainElem Try.prog 4) b (l.length + 1) (D.put (.string j.name.data.toList) (.lit (.bool true)))) : NamesMap w b (l ++ [j]) := by
  refine ⟨_, by simpa using ho, ?_, ?_⟩
  · obtain ⟨es, rfl⟩ := hm
    exact ⟨_, rfl⟩
  · intro s
    by_cases he : s.data.toList = j.name.data.toList
    · rw [he, atKey_put_same hm (by trivial)]
      rw [List.any_append]
      have : (j.name.toList == s.toList) = true := by rw [ByteArray.toList_eq, ByteArray.toList_eq, he]; simp
      simp [this]
    · rw [atKey_put_other (by simpa using he), ha s, List.any_append]
      have : (j.name.toList == s.toList) = false := by
        rw [ByteArray.toList_eq, ByteArray.toList_eq]; simp; exact fun h => he (by rw [h])
      simp [this]


set_option maxRecDepth 100000 in
set_option maxHeartbeats 2000000 in
theorem qcheck_any (W : Work) (aj af : Option Addr) (cj cf : Nat) (w : World) (hW : WorkIn w W aj af) :
    Calls Try.prog 16 #[.agg #[.int .i64 W.rules.slice, .int .i64 W.rules.load, .int .i64 W.rules.dump, .int .i64 W.rules.patience, .int .i64 W.rules.rate, .slice aj W.jobs.length cj, .slice af W.faults.length cf]] w fun e w' => e = .returned (.tuple #[.int .i64 (check W).1, .int .i64 (check W).2.1, .int .i64 (check W).2.2]) ∧ Below w.heap.size w w' := by
  have hmm := @run_makeMap Try.prog
  have hjl := hW.jl
  have hfl := hW.fl
  have HW := hid hW
  clear hW
  by_cases hr : W.rules.ok = true
  · have hr' : Rules.ok ⟨W.rules.slice, W.rules.load, W.rules.dump, W.rules.patience, W.rules.rate⟩ = true := hr
    by_cases hl : 12 < W.jobs.length ∨ 20 < W.faults.length
    · have Hfin := hid (check_long hr hl)
      have Hr := hid hr; clear hr
      by_cases h1 : 12 < W.jobs.length
      all_goals
        (try have h2 : 20 < W.faults.length := by omega)
        clear hl
        go_enter Try.func16, Try.ntmps16
        go_wp2_with (go_at_call 43; refine (qodd_any _ _ _ _ _ _).mono ?_; rintro e w' ⟨rfl, rfl⟩)
        go_ret3
        exact ⟨by rw [Hfin.out]; rfl, ((Below.refl _ w).alloc (Nat.le_refl _) _).alloc (by simp) _⟩
    · have h1 : W.jobs.length ≤ 12 := by omega
      have h2 : W.faults.length ≤ 20 := by omega
      clear hl
      have Hr := hid hr; clear hr
      go_enter Try.func16, Try.ntmps16
      go_wp2_with (go_at_call 43; refine (qodd_any _ _ _ _ _ _).mono ?_; rintro e w' ⟨rfl, rfl⟩)
      clear hr'
      go_loopw [30] (fun i wr => ∃ k : Nat, k ≤ W.jobs.length ∧ i = .int .i64 k ∧ Hid (∀ j, j < k → jobErr W.jobs j = 0) ∧ Hid (NamesMap wr (w.heap.size + 1 + 1) (W.jobs.take k)) ∧ Below (w.heap.size + 1) (w.alloc (.cells #[.int .i64 W.rules.slice, .int .i64 W.rules.load, .int .i64 W.rules.dump, .int .i64 W.rules.patience, .int .i64 W.rules.rate, .slice aj W.jobs.length cj, .slice af W.faults.length cf] 27)) wr) (fun i _ => W.jobs.length - (intOf i).toNat)
      case atStart => exact ⟨0, Nat.zero_le _, rfl, hid (by intro j hj; omega), hid (by have := NamesMap.made ((w.alloc (.cells #[.int .i64 W.rules.slice, .int .i64 W.rules.load, .int .i64 W.rules.dump, .int .i64 W.rules.patience, .int .i64 W.rules.rate, .slice aj W.jobs.length cj, .slice af W.faults.length cf] 27)).alloc (.cells #[.int .i64 W.rules.slice, .int .i64 W.rules.load, .int .i64 W.rules.dump, .int .i64 W.rules.patience, .int .i64 W.rules.rate] 23)); simpa using this), ((Below.refl _ _).alloc (by simp) _).alloc (by simp) _⟩
      case round =>
        obtain ⟨wo, rfl⟩ : ∃ wo : World, wo = wr := ⟨_, rfl⟩
        obtain ⟨k, hk, rfl, hw, hN, hB⟩ := hrel
        have hB0 : Below w.heap.size w wo := (below_alloc1 _ _).trans (hB.mono (by omega))
        have hNl := hN.out.lt
        have hsz : w.heap.size < wo.heap.size := by omega
        obtain ⟨hc, hf⟩ := bcell hB
        by_cases hlt : k < W.jobs.length
        · obtain ⟨b, off, rfl, hb, d1, d2, d3, d4⟩ := RdJobs.ne HW.out.jobs hlt
          have hbo : b < wo.heap.size := by omega
          have hnm := HW.out.nm k hlt
          rcases Bool.eq_false_or_eq_true (nameOk W.jobs[k].name) with hn | hn
          · rcases Bool.eq_false_or_eq_true ((W.jobs.take k).any fun j => j.name.toList == W.jobs[k].name.toList) with ha | ha
            · have Hfin := hid (check_job Hr.out h1 h2 hlt hw.out (jobErr_twice' hlt hn ha) (by decide))
              go_wp2_with fail
              refine (lname_any _ _ hnm).mono ?_
              rintro e w2 ⟨rfl, hb2⟩
              have hB2 := ((Below.refl wo.heap.size wo).alloc (Nat.le_refl _) (.cells #[.string W.jobs[k].name, .int .i64 W.jobs[k].arrive, .int .i64 W.jobs[k].claim, .int .i64 W.jobs[k].needs] 56)).trans (hb2.mono (by simp))
              have look := (hN.out.at hB2 hNl).look W.jobs[k].name hnm
              rw [ha] at look
              obtain ⟨hc2, hf2⟩ := bcell hb2
              go_wp2_with fail
              go_ret3
              exact ⟨by rw [Hfin.out]; rfl, hB0.trans (hB2.mono hB0.size)⟩
            · go_wp2_with fail
              refine (lname_any _ _ hnm).mono ?_
              rintro e w2 ⟨rfl, hb2⟩
              have hB2 := ((Below.refl wo.heap.size wo).alloc (Nat.le_refl _) (.cells #[.string W.jobs[k].name, .int .i64 W.jobs[k].arrive, .int .i64 W.jobs[k].claim, .int .i64 W.jobs[k].needs] 56)).trans (hb2.mono (by simp))
              have look := (hN.out.at hB2 hNl).look W.jobs[k].name hnm
              rw [ha] at look
              have hsz2 : wo.heap.size < w2.heap.size := by have := hb2.size; simp at this; omega
              obtain ⟨hc2, hf2⟩ := bcell hb2
              rcases Bool.eq_false_or_eq_true W.jobs[k].numOk with hm | hm
              · have hm' : Job.numOk ⟨W.jobs[k].name, W.jobs[k].arrive, W.jobs[k].claim, W.jobs[k].needs⟩ = true := hm
                have Hok := hid (jobErr_ok' hlt hn ha hm)
                obtain ⟨D, ho, hD, hat⟩ := hN.out.at hB2 hNl
                have Hat := hid hat; clear hat
                have hkey : keyOf Try.prog 9 (.string W.jobs[k].name) = some (.string W.jobs[k].name.data.toList) := keyOf_string_mk Try.underlying9 (by unfold maxLen; omega)
                have hlen : (W.jobs.take k).length < maxLen := by simp; unfold maxLen; omega
                have hlen2 : (W.jobs.take k).length = k := by simp; omega
                have Hlen2 := hid hlen2; clear hlen2
                go_wp2_with (first | (go_at_call 45; refine (qstrange_any _ _ _ _ _).mono ?_; rintro e w' ⟨rfl, rfl⟩) | (at_mapUpdate; refine wpList_mapUpdate_own _ rfl _ _ _ 82 rfl 9 4 keyLaw Try.underlying82 _ (w.heap.size + 1 + 1) (W.jobs.take k).length _ rfl (ho.alloc _) hlen _ _ _ rfl rfl hkey _ [] (plainElem_bool Try.underlying4 true) ?_; intro w3 hown3 hgrow3))
                have hB3 : Below wo.heap.size wo w3 ∨ True := .inr trivial
                go_roundw
                case rel =>
                  refine ⟨k + 1, by omega, by go_num, hid ?_, hid ?_, ?_⟩
                  · intro t ht
                    by_cases htj : t < k
                    · exact hw.out t htj
                    · obtain rfl : t = k := by omega
                      exact Hok.out
                  · rw [List.take_succ_eq_append_getElem hlt]
                    exact NamesMap.put _ hD Hat.out hown3
                  · exact ((hB.trans (hB2.mono (by omega))).alloc (by omega) _).grown hgrow3 (by simp; omega) (fun j hj => by cases hj; omega)
                case measure => simp [intOf]; omega
              · have hm' : Job.numOk ⟨W.jobs[k].name, W.jobs[k].arrive, W.jobs[k].claim, W.jobs[k].needs⟩ = false := hm
                have Hfin := hid (check_job Hr.out h1 h2 hlt hw.out (jobErr_range' hlt hn ha hm) (by decide))
                go_wp2_with (go_at_call 45; refine (qstrange_any _ _ _ _ _).mono ?_; rintro e w' ⟨rfl, rfl⟩)
                go_ret3
                exact ⟨by rw [Hfin.out]; rfl, (hB0.trans (hB2.mono hB0.size)).alloc (by omega) _⟩
          · have Hfin := hid (check_job Hr.out h1 h2 hlt hw.out (jobErr_form hlt hn) (by decide))
            go_wp2_with (go_at_call 44; refine (lname_any _ _ hnm).mono ?_; rintro e w2 ⟨rfl, hb2⟩)
            go_ret3
            exact ⟨by rw [Hfin.out]; rfl, (hB0.alloc hB0.size _).trans (hb2.mono (by have := hB0.size; simp; omega))⟩
        · have hj : ∀ i, i < W.jobs.length → jobErr W.jobs i = 0 := fun i hi => hw.out i (by omega)
          have Hj := hid hj; clear hj hw
          go_wp2_with fail
          go_loopw [8, 58] (fun u i wr => ∃ k : Nat, ∃ n : Int, k ≤ W.faults.length ∧ i = .int .i64 k ∧ u = .int .i64 n ∧ 0 ≤ n ∧ n ≤ 10000 ∧ Hid (n = endBefore W.faults k) ∧ Hid (∀ j, j < k → fltErr W.faults j = 0) ∧ Below wo.heap.size wo wr) (fun _ i _ => W.faults.length - (intOf i).toNat)
          case atStart => exact ⟨0, 0, Nat.zero_le _, rfl, rfl, by omega, by omega, hid rfl, hid (by intro j hj; omega), Below.refl _ _⟩
          case round =>
            clear hlt
            obtain ⟨k1, n, hk1, rfl, rfl, hn1, hn2, hn3, hw, hB3⟩ := hrel
            obtain ⟨hc3, hf3⟩ := bcell hB3
            have hB4 : Below w.heap.size w wr := hB0.trans (hB3.mono hB0.size)
            have hsz3 : wo.heap.size ≤ wr.heap.size := hB3.size
            have hsz4 : w.heap.size < wr.heap.size := by omega
            by_cases hlt : k1 < W.faults.length
            · obtain ⟨b, off, rfl, hb, d1, d2⟩ := RdFaults.ne HW.out.faults hlt
              have hbo : b < wo.heap.size := by omega
              have hbr : b < wr.heap.size := by omega
              rcases Bool.eq_false_or_eq_true (inb W.faults[k1].at0 0 5000) with ha | ha
              · rcases Bool.eq_false_or_eq_true (inb W.faults[k1].rep 1 5000) with hp | hp
                · obtain ⟨z1, z2⟩ := (inb_iff _ _ _).1 ha
                  obtain ⟨z3, z4⟩ := (inb_iff _ _ _).1 hp
                  by_cases hd : W.faults[k1].at0 < n
                  · have Hfin := hid (check_flt Hr.out h1 h2 Hj.out hlt hw.out (fltErr_arg' hlt ha hp (by rw [← hn3.out]; exact hd)) (by decide))
                    go_wp2_with (go_at_call 46; refine (qout_any _ _ _ _).mono ?_; rintro e w' ⟨rfl, rfl⟩)
                    go_ret3
                    exact ⟨by rw [Hfin.out]; rfl, hB4.alloc (by omega) _⟩
                  · have hok := hid (fltErr_ok' hlt ha hp (by rw [← hn3.out]; exact hd))
                    go_wp2_with (go_at_call 46; refine (qout_any _ _ _ _).mono ?_; rintro e w' ⟨rfl, rfl⟩)
                    go_roundw
                    case rel =>
                      refine ⟨k1 + 1, _, by omega, by go_num, rfl, by omega, by omega, hid (endBefore_succ hlt).symm, hid ?_, hB3.alloc (by omega) _⟩
                      intro j hj
                      by_cases hjk : j < k1
                      · exact hw.out j hjk
                      · obtain rfl : j = k1 := by omega
                        exact hok.out
                    case measure => simp [intOf]; omega
                · have Hfin := hid (check_flt Hr.out h1 h2 Hj.out hlt hw.out (fltErr_range hlt (.inr hp)) (by decide))
                  go_wp2_with (go_at_call 46; refine (qout_any _ _ _ _).mono ?_; rintro e w' ⟨rfl, rfl⟩)
                  go_ret3
                  exact ⟨by rw [Hfin.out]; rfl, hB4.alloc (by omega) _⟩
              · have Hfin := hid (check_flt Hr.out h1 h2 Hj.out hlt hw.out (fltErr_range hlt (.inl ha)) (by decide))
                go_wp2_with (go_at_call 46; refine (qout_any _ _ _ _).mono ?_; rintro e w' ⟨rfl, rfl⟩)
                go_ret3
                exact ⟨by rw [Hfin.out]; rfl, hB4.alloc (by omega) _⟩
            · have Hfin := hid (check_ok Hr.out h1 h2 Hj.out (fun i hi => hw.out i (by omega)))
              go_wp2_with fail
              go_ret3
              exact ⟨by rw [Hfin.out]; rfl, hB4⟩
  · have hr' : Rules.ok ⟨W.rules.slice, W.rules.load, W.rules.dump, W.rules.patience, W.rules.rate⟩ = false := by simpa using hr
    have Hfin := hid (check_rules hr')
    clear hr
    go_enter Try.func16, Try.ntmps16
    go_wp2_with (go_at_call 43; refine (qodd_any _ _ _ _ _ _).mono ?_; rintro e w' ⟨rfl, rfl⟩)
    go_ret3
    exact ⟨by rw [Hfin.out]; rfl, ((Below.refl _ w).alloc (Nat.le_refl _) _).alloc (by simp) _⟩

end Go.Proofs.Ytbjgebbfachgfaa
