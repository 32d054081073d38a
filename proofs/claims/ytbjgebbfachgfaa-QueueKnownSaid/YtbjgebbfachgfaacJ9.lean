/- Texts of this proof, joined: Pure5 Pure6 Pure7 Pure8 Pure9 Pure10. -/
import Derived.Test.YtbjgebbfachgfaacW13
import Derived.Test.YtbjgebbfachgfaacJ5
set_option linter.unusedVariables false
set_option linter.unusedSimpArgs false
set_option linter.unusedSectionVars false
set_option linter.all false
/- Plain laws for next. -/
namespace Go.Proofs.Ytbjgebbfachgfaa

def nf (l : List Fault) (now : Int) : Int := match l.find? (fun f => decide (now < f.at0)) with | some f => f.at0 | none => -1
theorem nf_snoc {l : List Fault} {k : Nat} {now n : Int} (hk : k < l.length) (hn0 : n < 0 → (l.take k).find? (fun f => decide (now < f.at0)) = none) (hn : n = nf (l.take k) now) :
    nf (l.take (k + 1)) now = if decide (now < l[k].at0) && decide (n < 0) then l[k].at0 else n := by
  unfold nf at hn ⊢
  rw [List.take_succ_eq_append_getElem hk, List.find?_append]
  by_cases h : n < 0
  · rw [hn0 h] at hn ⊢
    by_cases h2 : now < l[k].at0
    · simp [h, h2]
    · simp [h2, hn]
  · cases hf : (l.take k).find? (fun f => decide (now < f.at0)) with
    | none => rw [hf] at hn; exact absurd (by rw [hn]; decide) h
    | some f =>
      rw [hf] at hn
      have h' : decide (n < 0) = false := decide_eq_false h
      rw [h']; simp [hn]

theorem idle_succ {W : Work} {q : Qu} {k : Nat} (hk : k < q.jobs.length) (hk' : k < W.jobs.length) : idleUpto W q (k + 1) = if q.jobs[k].why == 0 && (decide (idleUpto W q k < 0) || decide (W.jobs[k].arrive < idleUpto W q k)) then W.jobs[k].arrive else idleUpto W q k := by
  show (if (q.st k).why == 0 && _ then _ else _) = _
  rw [Qu.st_eq hk, Work.job_eq hk']

theorem mins_eq {W : Work} {q : Qu} {k : Nat} (hk : k < q.jobs.length) (hk' : k < W.jobs.length) : minutesOf W q k = if W.jobs[k].fin - q.jobs[k].progress < W.rules.slice then W.jobs[k].fin - q.jobs[k].progress else W.rules.slice := by
  unfold minutesOf; rw [Qu.st_eq hk, Work.job_eq hk']


end Go.Proofs.Ytbjgebbfachgfaa
/- Plain laws: what a step does; what a day keeps. -/
namespace Go.Proofs.Ytbjgebbfachgfaa

theorem tk_cand {W : Work} {q : Qu} : ∀ (k m : Nat), takenUpto W q k = (m : Int) → m < k ∧ cand W q m = true
  | 0, m, h => by unfold takenUpto at h; omega
  | k + 1, m, h => by
    simp only [takenUpto] at h
    split at h
    · rename_i hc
      have : k = m := by omega
      subst this
      simp only [Bool.and_eq_true] at hc
      exact ⟨by omega, hc.1⟩
    · have := tk_cand k m h; exact ⟨by omega, this.2⟩
theorem tk_none {W : Work} {q : Qu} : ∀ (k : Nat), takenUpto W q k = -1 → ∀ i, i < k → cand W q i = false
  | 0, _, i, hi => by omega
  | k + 1, h, i, hi => by
    simp only [takenUpto] at h
    split at h
    · omega
    · rename_i hc
      rcases Nat.lt_or_ge i k with hik | hik
      · exact tk_none k h i hik
      · obtain rfl : i = k := by omega
        rw [h] at hc
        cases hcd : cand W q i with
        | false => rfl
        | true => rw [hcd] at hc; simp at hc
theorem wait_ex {l : List St} (h : waits l = true) : ∃ i, ∃ h : i < l.length, l[i].why = 0 := by
  unfold waits at h
  rw [List.any_eq_true] at h
  obtain ⟨x, hx, hw⟩ := h
  obtain ⟨i, hi, rfl⟩ := List.mem_iff_getElem.1 hx
  exact ⟨i, hi, by simpa using hw⟩

theorem run_bd {W : Work} {q : Qu} (hK : WOk W) (hQ : QOk W q) {m : Nat} (hm : m < q.jobs.length) (hw : q.jobs[m].why = 0) :
    1 ≤ minutesOf W q m ∧ minutesOf W q m ≤ 600 ∧ q.jobs[m].progress + minutesOf W q m ≤ (W.job m).fin ∧ q.now + 1 ≤ endOf W q m ∧ endOf W q m ≤ q.now + 660 := by
  have hml : m < W.jobs.length := by have := hQ.len; omega
  obtain ⟨⟨b1, b3⟩, ⟨b4, b5⟩, ⟨b6, b7⟩, _, ⟨b8, b9⟩⟩ := hK.rb
  obtain ⟨f1, f2, f3, f4⟩ := Job.fin_bd (hK.job m hml)
  obtain ⟨⟨g1, g2⟩, _, _, _, _, g7⟩ := hQ.b hm hml
  have g8 := g7 hw
  have e1 : minutesOf W q m = if W.jobs[m].fin - q.jobs[m].progress < W.rules.slice then W.jobs[m].fin - q.jobs[m].progress else W.rules.slice := mins_eq hm hml
  rw [Work.job_eq hml]
  have h1 : 1 ≤ minutesOf W q m ∧ minutesOf W q m ≤ 600 ∧ q.jobs[m].progress + minutesOf W q m ≤ W.jobs[m].fin := by rw [e1]; split <;> omega
  refine ⟨h1.1, h1.2.1, h1.2.2, ?_⟩
  unfold endOf
  split <;> omega

theorem step_spec {W : Work} {q : Qu} (hK : WOk W) (hQ : QOk W q) (hw : waits q.jobs = true) :
    (∃ i, ∃ h : i < W.faults.length, W.repairAt q.now = some W.faults[i] ∧ W.faults[i].at0 ≤ q.now ∧ q.now < W.faults[i].at0 + W.faults[i].rep ∧ nextStep W q = (⟨5, -1, q.now, W.faults[i].at0 + W.faults[i].rep⟩, ⟨W.faults[i].at0 + W.faults[i].rep, q.jobs⟩)) ∨
    (W.repairAt q.now = none ∧ (∀ i (h : i < W.faults.length), W.faults[i].at0 ≤ q.now → W.faults[i].at0 + W.faults[i].rep ≤ q.now) ∧
      ((takenUpto W q q.jobs.length = -1 ∧ q.now < idleUpto W q q.jobs.length ∧ idleUpto W q q.jobs.length ≤ 5000 ∧ (∀ i (h : i < q.jobs.length), q.jobs[i].why = 0 → q.now < (W.job i).arrive ∧ idleUpto W q q.jobs.length ≤ (W.job i).arrive) ∧ (0 ≤ W.nextFault q.now → idleUpto W q q.jobs.length ≤ W.nextFault q.now) ∧ nextStep W q = (⟨6, -1, q.now, idleUpto W q q.jobs.length⟩, ⟨idleUpto W q q.jobs.length, q.jobs⟩)) ∨
       ∃ m, ∃ h : m < q.jobs.length, takenUpto W q q.jobs.length = (m : Int) ∧ q.jobs[m].why = 0 ∧ (W.job m).arrive ≤ q.now ∧ nextStep W q = runStep W q m)) := by
  cases hr : W.repairAt q.now with
  | some f =>
    left
    have hr' := hr
    unfold Work.repairAt at hr'
    rw [List.find?_eq_some_iff_getElem] at hr'
    obtain ⟨h1, i, hi, rfl, _⟩ := hr'
    simp only [Bool.and_eq_true, decide_eq_true_eq] at h1
    exact ⟨i, hi, rfl, h1.1, h1.2, by unfold nextStep; rw [hr]⟩
  | none =>
    right
    have hno : ∀ i (h : i < W.faults.length), W.faults[i].at0 ≤ q.now → W.faults[i].at0 + W.faults[i].rep ≤ q.now := by
      intro i hi ha
      unfold Work.repairAt at hr
      rw [List.find?_eq_none] at hr
      have := hr W.faults[i] (List.getElem_mem hi)
      simp at this
      exact this ha
    refine ⟨rfl, hno, ?_⟩
    rcases taken_range W q q.jobs.length with ht | ⟨m, hm, ht⟩
    · left
      have hnone := tk_none _ ht
      have hlate : ∀ i (h : i < q.jobs.length), q.jobs[i].why = 0 → q.now < (W.job i).arrive := by
        intro i hi hwi
        have := hnone i hi
        unfold cand at this
        rw [Qu.st_eq hi, hwi] at this
        simp at this; exact this
      have hin : ∀ i, (q.st i).why = 0 → 0 ≤ (W.job i).arrive := by
        intro i hwi
        rcases Nat.lt_or_ge i W.jobs.length with h | h
        · rw [Work.job_eq h]; exact (hK.jb h).1.1
        · have : W.job i = Job.zero := by unfold Work.job; rw [List.getD_eq_getElem?_getD, List.getElem?_eq_none h]; rfl
          rw [this]; decide
      obtain ⟨i0, hi0, hw0⟩ := wait_ex hw
      have hlen := hQ.len
      rcases idleUpto_spec W q hin q.jobs.length with ⟨_, h2, _⟩ | ⟨h1, h2, h3, h4⟩
      · exact absurd (by rw [Qu.st_eq hi0]; exact hw0) (h2 i0 hi0)
      · have h5 : idleUpto W q q.jobs.length ≤ 5000 := by
          have := h4 i0 hi0 (by rw [Qu.st_eq hi0]; exact hw0)
          have hl : i0 < W.jobs.length := by omega
          rw [Work.job_eq hl] at this
          have := (hK.jb hl).1.2
          omega
        have h6 : q.now < idleUpto W q q.jobs.length := by
          rcases h2 with ⟨ha, hb⟩ | ⟨i, hi, hwi, hb⟩
          · rcases nextFault_cases hK q.now with ⟨hc, _⟩ | ⟨i, hi, hc, hd, _⟩
            · omega
            · omega
          · rw [← hb]; exact hlate i hi (by rw [← Qu.st_eq hi]; exact hwi)
        refine ⟨ht, h6, h5, fun i hi hwi => ⟨hlate i hi hwi, h4 i hi (by rw [Qu.st_eq hi]; exact hwi)⟩, h3, ?_⟩
        unfold nextStep; rw [hr]; simp [ht]
    · right
      obtain ⟨_, hc⟩ := tk_cand _ _ ht
      unfold cand at hc
      rw [Qu.st_eq hm] at hc
      simp only [Bool.and_eq_true, beq_iff_eq, decide_eq_true_eq] at hc
      refine ⟨m, hm, ht, hc.1, hc.2, ?_⟩
      unfold nextStep; rw [hr]; simp only [ht]; rw [if_neg (by omega), Int.toNat_natCast]

/-- what the queue of a day keeps -/
structure DOk (W : Work) (q : Qu) : Prop where
  len : q.jobs.length = W.jobs.length
  now0 : 0 ≤ q.now
  now1 : q.now ≤ 10000
  st : ∀ i (h : i < q.jobs.length) (_ : i < W.jobs.length), (0 ≤ q.jobs[i].progress ∧ q.jobs[i].progress ≤ (W.job i).fin) ∧ (0 ≤ q.jobs[i].since ∧ q.jobs[i].since ≤ 10000) ∧ (0 ≤ q.jobs[i].charge ∧ q.jobs[i].charge ≤ q.now * 1000) ∧ (0 ≤ q.jobs[i].why ∧ q.jobs[i].why ≤ 2) ∧ (-1 ≤ q.jobs[i].ended ∧ q.jobs[i].ended ≤ 10000) ∧ (q.jobs[i].why = 0 → q.jobs[i].progress < (W.job i).fin)

theorem DOk.q {W : Work} {q : Qu} (h : DOk W q) : QOk W q := by
  refine ⟨h.len, h.now0, by have := h.now1; omega, fun i hi hi' => ?_⟩
  obtain ⟨⟨a1, a2⟩, ⟨b1, b2⟩, ⟨c1, c2⟩, ⟨d1, d2⟩, ⟨e1, e2⟩, f⟩ := h.st i hi hi'
  rw [Work.job_eq hi'] at a2 f
  have := h.now1
  unfold stOk
  simp only [Bool.and_eq_true, inb_iff, Bool.not_eq_true', Bool.and_eq_false_iff, beq_eq_false_iff_ne]
  refine ⟨⟨⟨⟨⟨⟨a1, a2⟩, ⟨b1, by omega⟩⟩, ⟨c1, by omega⟩⟩, ⟨d1, d2⟩⟩, ⟨e1, by omega⟩⟩, ?_⟩
  by_cases hw : q.jobs[i].why = 0
  · exact .inr (by have := f hw; omega)
  · exact .inl hw

theorem dok_begin {W : Work} (hK : WOk W) : DOk W (beginQ W) := by
  refine ⟨by simp [beginQ], by simp [beginQ], by simp [beginQ], fun i hi hi' => ?_⟩
  have e : (beginQ W).jobs[i] = ⟨0, W.jobs[i].arrive, 0, 0, -1⟩ := by simp [beginQ]
  rw [e, Work.job_eq hi']
  obtain ⟨⟨a, b⟩, _⟩ := hK.jb hi'
  have := Job.fin_bd (hK.job i hi')
  refine ⟨⟨by simp, by simp; omega⟩, ⟨by simpa using a, by simp; omega⟩, ⟨by simp, by simp [beginQ]⟩, by simp, by simp, fun _ => by simp; omega⟩

theorem DOk.later {W : Work} {q : Qu} (h : DOk W q) {u : Int} (h1 : q.now ≤ u) (h2 : u ≤ 10000) : DOk W ⟨u, q.jobs⟩ := by
  refine ⟨h.len, by have := h.now0; show 0 ≤ u; omega, h2, fun i hi hi' => ?_⟩
  obtain ⟨a, b, ⟨c1, c2⟩, d, e, f⟩ := h.st i hi hi'
  exact ⟨a, b, ⟨c1, Int.le_trans c2 (show q.now * 1000 ≤ u * 1000 by omega)⟩, d, e, f⟩

/-- what a step does, for the queue of a day -/
theorem step_ok {W : Work} {q : Qu} (hK : WOk W) (hD : DOk W q) (hw : waits q.jobs = true) (hn : q.now < 5000) :
    q.now < (nextStep W q).2.now ∧ DOk W (nextStep W q).2 ∧ (nextStep W q).1.from0 = q.now ∧ (nextStep W q).1.until0 = (nextStep W q).2.now := by
  rcases step_spec hK hD.q hw with ⟨i, hi, _, h1, h2, h3⟩ | ⟨_, _, ⟨_, h1, h2, _, _, h3⟩ | ⟨m, hm, _, hwm, _, h3⟩⟩
  · rw [h3]
    obtain ⟨⟨a, b⟩, ⟨c, d⟩, _⟩ := hK.fb hi
    exact ⟨h2, hD.later (by omega) (by omega), rfl, rfl⟩
  · rw [h3]
    exact ⟨h1, hD.later (by omega) (by omega), rfl, rfl⟩
  · rw [h3]
    obtain ⟨r1, r2, r3, r4, r5⟩ := run_bd hK hD.q hm hwm
    obtain ⟨_, _, _, _, ⟨b8, b9⟩⟩ := hK.rb
    unfold runStep
    split
    · rename_i hf
      rcases nextFault_cases hK q.now with ⟨hc, _⟩ | ⟨i, hi, hc, hd, _⟩
      · omega
      · have := hK.fb hi
        exact ⟨by show q.now < W.nextFault q.now; omega, hD.later (by omega) (by omega), rfl, rfl⟩
    · refine ⟨by show q.now < endOf W q m; omega, ?_, rfl, rfl⟩
      have hD2 := hD.later (u := endOf W q m) (by omega) (by omega)
      refine ⟨by simpa using hD.len, hD2.now0, hD2.now1, fun i hi hi' => ?_⟩
      have hi2 : i < q.jobs.length := by simpa using hi
      by_cases him : i = m
      · subst him
        have e : (q.jobs.set i (stAfter W q i))[i]'(by simpa using hi2) = stAfter W q i := by simp
        show (0 ≤ ((q.jobs.set i (stAfter W q i))[i]'(by simpa using hi2)).progress ∧ _) ∧ _
        rw [e]
        obtain ⟨⟨a1, a2⟩, ⟨b1, b2⟩, ⟨c1, c2⟩, ⟨d1, d2⟩, ⟨e1, e2⟩, f⟩ := hD.st i hi2 hi'
        have hs := Qu.st_eq hi2
        have n0 := hD.now0
        have hmul : (endOf W q i - q.now) * W.rules.rate ≤ (endOf W q i - q.now) * 1000 := Int.mul_le_mul_of_nonneg_left b9 (by omega)
        have hmul0 : 0 ≤ (endOf W q i - q.now) * W.rules.rate := Int.mul_nonneg (by omega) b8
        refine ⟨⟨by show 0 ≤ (q.st i).progress + _; rw [hs]; omega, by show (q.st i).progress + _ ≤ _; rw [hs]; exact r3⟩, ⟨by show 0 ≤ endOf W q i; omega, by show endOf W q i ≤ _; omega⟩,
          ⟨by show 0 ≤ (q.st i).charge + _; rw [hs]; omega, by show (q.st i).charge + _ ≤ endOf W q i * 1000; rw [hs]; omega⟩, ?_, ?_, ?_⟩
        · show 0 ≤ (if doneOf W q i then _ else (q.st i).why) ∧ (if doneOf W q i then _ else (q.st i).why) ≤ 2
          rw [hs]
          split
          · split <;> omega
          · omega
        · show -1 ≤ (if doneOf W q i then _ else (q.st i).ended) ∧ (if doneOf W q i then _ else (q.st i).ended) ≤ 10000
          rw [hs]
          split <;> omega
        · show (if doneOf W q i then _ else (q.st i).why) = 0 → (q.st i).progress + minutesOf W q i < _
          rw [hs]
          cases hdn : doneOf W q i with
          | true => simp only [if_true]; split <;> (intro h; omega)
          | false =>
            intro _
            unfold doneOf at hdn
            rw [hs] at hdn
            have := beq_eq_false_iff_ne.1 hdn
            omega
      · have e : (q.jobs.set m (stAfter W q m))[i]'(by simpa using hi2) = q.jobs[i] := List.getElem_set_ne (fun h => him h.symm) _
        have := hD2.st i hi2 hi'
        show (0 ≤ ((q.jobs.set m (stAfter W q m))[i]'(by simpa using hi2)).progress ∧ _) ∧ _
        rw [e]
        exact this

/- the day, round by round -/
theorem day_stop {W : Work} {till : Int} {q : Qu} (h : (decide (q.now < till) && waits q.jobs) = false) : ∀ n, dayLoop W till n q = ([], q)
  | 0 => rfl
  | n + 1 => by simp only [dayLoop]; rw [if_neg (by rw [h]; simp)]
theorem day_go {W : Work} {till : Int} {q : Qu} (h : (decide (q.now < till) && waits q.jobs) = true) (n : Nat) : dayLoop W till (n + 1) q = ((nextStep W q).1 :: (dayLoop W till n (nextStep W q).2).1, (dayLoop W till n (nextStep W q).2).2) := by
  simp only [dayLoop]; rw [if_pos h]

/-- after some rounds: the list so far, the queue, and how many rounds there may be still -/
structure DayI (W : Work) (till : Int) (n : Nat) (l : List Spell) (q : Qu) : Prop where
  ok : DOk W q
  eq : dayLoop W till till.toNat (beginQ W) = (l ++ (dayLoop W till n q).1, (dayLoop W till n q).2)
  fuel : till - q.now ≤ n
  len : l.length + n ≤ till.toNat
theorem DayI.start {W : Work} {till : Int} (hK : WOk W) : DayI W till till.toNat [] (beginQ W) :=
  ⟨dok_begin hK, by simp, by show till - 0 ≤ _; omega, by simp⟩
theorem DayI.next {W : Work} {till : Int} {n : Nat} {l : List Spell} {q : Qu} (hK : WOk W) (ht : till ≤ 5000) (h : DayI W till n l q) (h1 : q.now < till) (h2 : waits q.jobs = true) :
    ∃ n', n = n' + 1 ∧ DayI W till n' (l ++ [(nextStep W q).1]) (nextStep W q).2 := by
  have hf := h.fuel
  obtain ⟨n', rfl⟩ : ∃ n', n = n' + 1 := ⟨n - 1, by omega⟩
  obtain ⟨s1, s2, _, _⟩ := step_ok hK h.ok h2 (by omega)
  refine ⟨n', rfl, s2, ?_, by omega, by have := h.len; simp; omega⟩
  rw [h.eq, day_go (by simp [h1, h2])]
  simp
theorem DayI.done {W : Work} {till : Int} {n : Nat} {l : List Spell} {q : Qu} (h : DayI W till n l q) (h1 : (decide (q.now < till) && waits q.jobs) = false) : dayLoop W till till.toNat (beginQ W) = (l, q) := by
  rw [h.eq, day_stop h1]; simp

end Go.Proofs.Ytbjgebbfachgfaa
/- Plain laws: the spells of a day. -/
namespace Go.Proofs.Ytbjgebbfachgfaa

theorem loop_spells {W : Work} {till : Int} (hK : WOk W) (ht : till ≤ 5000) : ∀ (n : Nat) (q : Qu), DOk W q → (dayLoop W till n q).1.length ≤ n ∧ ∀ s ∈ (dayLoop W till n q).1, 0 ≤ s.from0 ∧ s.from0 < till ∧ s.from0 < s.until0 ∧ s.until0 ≤ 10000
  | 0, q, _ => by simp [dayLoop]
  | n + 1, q, hD => by
    cases hc : (decide (q.now < till) && waits q.jobs) with
    | false => rw [day_stop hc]; simp
    | true =>
      rw [day_go hc]
      simp only [Bool.and_eq_true, decide_eq_true_eq] at hc
      obtain ⟨s1, s2, s3, s4⟩ := step_ok hK hD hc.2 (by omega)
      obtain ⟨h1, h2⟩ := loop_spells hK ht n _ s2
      refine ⟨by simp; omega, fun s hs => ?_⟩
      simp only [List.mem_cons] at hs
      rcases hs with rfl | hs
      · rw [s3, s4]
        have := hD.now0
        have := s2.now1
        exact ⟨by omega, by omega, by omega, by omega⟩
      · exact h2 s hs
theorem day_ok {W : Work} {till : Int} (h : dayErr W till = 0) : WOk W ∧ W.err = 0 ∧ 0 ≤ till ∧ till ≤ 5000 := by
  unfold dayErr at h
  by_cases he : W.err = 0
  · rw [if_pos he] at h
    by_cases hi : inb till 0 5000 = true
    · exact ⟨wok_of_err he, he, (inb_iff _ _ _).1 hi⟩
    · rw [if_neg hi] at h; cases h
  · rw [if_neg he] at h; exact absurd h he
theorem day_spells {W : Work} {till : Int} (h : dayErr W till = 0) : (day W till).1.length ≤ 5000 ∧ ∀ s ∈ (day W till).1, 0 ≤ s.from0 ∧ s.from0 < till ∧ s.from0 < s.until0 ∧ s.until0 ≤ 10000 := by
  obtain ⟨hK, _, h0, h5⟩ := day_ok h
  have := loop_spells hK h5 till.toNat (beginQ W) (dok_begin hK)
  unfold day
  rw [if_pos h]
  exact ⟨by have := this.1; omega, this.2⟩
theorem loop_dok {W : Work} {till : Int} (hK : WOk W) (ht : till ≤ 5000) : ∀ (n : Nat) (q : Qu), DOk W q → DOk W (dayLoop W till n q).2
  | 0, q, h => h
  | n + 1, q, hD => by
    cases hc : (decide (q.now < till) && waits q.jobs) with
    | false => rw [day_stop hc]; exact hD
    | true =>
      rw [day_go hc]
      simp only [Bool.and_eq_true, decide_eq_true_eq] at hc
      obtain ⟨s1, s2, _, _⟩ := step_ok hK hD hc.2 (by omega)
      exact loop_dok hK ht n _ s2
theorem day_dok {W : Work} {till : Int} (h : dayErr W till = 0) : DOk W (day W till).2 := by
  obtain ⟨hK, _, h0, h5⟩ := day_ok h
  unfold day
  rw [if_pos h]
  exact loop_dok hK h5 _ _ (dok_begin hK)

/-- what Bill returns -/
def billRes (W : Work) (till : Int) : List Int × Tot × Int := if dayErr W till = 0 then (charges (day W till).2, totals (day W till).1, 0) else ([], Tot.zero, dayErr W till)

end Go.Proofs.Ytbjgebbfachgfaa
/- Plain laws: a day up to a lesser minute; what a day's steps keep of each job; who is taken. -/
namespace Go.Proofs.Ytbjgebbfachgfaa

theorem loop_less {W : Work} {till k : Int} (hK : WOk W) (ht : till ≤ 5000) (hk : k ≤ till) : ∀ (n m : Nat) (q : Qu), DOk W q → till - q.now ≤ n → k - q.now ≤ m →
    ∃ r, (dayLoop W till n q).1 = (dayLoop W k m q).1 ++ r ∧ ∀ s rs, r = s :: rs → k ≤ s.from0
  | 0, m, q, _, h1, _ => by
    have hc : (decide (q.now < k) && waits q.jobs) = false := by
      have : ¬ q.now < k := by omega
      simp [this]
    rw [day_stop hc]
    exact ⟨[], by simp [dayLoop], fun s rs h => by cases h⟩
  | n + 1, m, q, hD, h1, h2 => by
    cases hc : (decide (q.now < till) && waits q.jobs) with
    | false =>
      have hc' : (decide (q.now < k) && waits q.jobs) = false := by
        cases hw : waits q.jobs with
        | false => simp
        | true =>
          rw [hw] at hc; simp at hc
          have : ¬ q.now < k := by omega
          simp [this]
      rw [day_stop hc, day_stop hc']
      exact ⟨[], rfl, fun s rs h => by cases h⟩
    | true =>
      rw [day_go hc]
      simp only [Bool.and_eq_true, decide_eq_true_eq] at hc
      obtain ⟨s1, s2, s3, _⟩ := step_ok hK hD hc.2 (by omega)
      by_cases hq : q.now < k
      · obtain ⟨m', rfl⟩ : ∃ m', m = m' + 1 := ⟨m - 1, by omega⟩
        rw [day_go (show (decide (q.now < k) && waits q.jobs) = true by simp [hq, hc.2])]
        obtain ⟨r, e, f⟩ := loop_less hK ht hk n m' _ s2 (by omega) (by omega)
        exact ⟨r, by simp [e], f⟩
      · rw [day_stop (show (decide (q.now < k) && waits q.jobs) = false by simp [hq])]
        refine ⟨_, rfl, fun s rs h => ?_⟩
        simp only [List.cons.injEq] at h
        obtain ⟨rfl, _⟩ := h
        rw [s3]; omega

theorem begin_now (W : Work) : (beginQ W).now = 0 := rfl
/-- Day up to a lesser minute gives the first of the spells -/
theorem day_less {W : Work} {till k : Int} (h : dayErr W till = 0) (h0 : 0 ≤ k) (hk : k ≤ till) :
    dayErr W k = 0 ∧ ∃ r, (day W till).1 = (day W k).1 ++ r ∧ ∀ s rs, r = s :: rs → k ≤ s.from0 := by
  obtain ⟨hK, he, t0, t5⟩ := day_ok h
  have hE : dayErr W k = 0 := by unfold dayErr; rw [if_pos he, if_pos (by rw [inb_iff]; omega)]
  refine ⟨hE, ?_⟩
  unfold day
  rw [if_pos h, if_pos hE]
  exact loop_less hK t5 hk _ _ _ (dok_begin hK) (by rw [begin_now]; omega) (by rw [begin_now]; omega)

/-- the queue of a day goes on -/
theorem DOk.err {W : Work} {q : Qu} (hD : DOk W q) (he : W.err = 0) (hw : waits q.jobs = true) : nextErr W q = 0 := by
  unfold nextErr quErr
  have hQ := hD.q
  rw [if_pos he, if_neg (by simp [hQ.len]), if_neg (by have := hQ.now0; have := hQ.now1; simp [inb]; omega), if_neg, if_neg (by simp [hw])]
  rintro ⟨i, hi, hb⟩
  have hi' : i < W.jobs.length := by rw [← hQ.len]; exact hi
  have := hQ.st i hi hi'
  rw [Work.job_eq hi', Qu.st_eq hi, this] at hb
  cases hb
theorem DOk.res {W : Work} {q : Qu} (hD : DOk W q) (he : W.err = 0) (hw : waits q.jobs = true) : nextRes W q = ((nextStep W q).1, (nextStep W q).2, 0) := by
  unfold nextRes; rw [if_pos (hD.err he hw)]

/-- who is taken is overdue, and waits since as early, if one is overdue -/
theorem tk_due {W : Work} {q : Qu} : ∀ (k m : Nat), takenUpto W q k = (m : Int) → ∀ i, i < k → overdue W q i = true → overdue W q m = true ∧ (q.st m).since ≤ (q.st i).since
  | 0, m, h, i, hi, _ => by omega
  | k + 1, m, h, i, hi, hd => by
    have hcd : ∀ i, overdue W q i = true → cand W q i = true := by
      intro i h; unfold overdue at h; unfold cand; simp only [Bool.and_eq_true] at h ⊢; exact h.1
    simp only [takenUpto] at h
    by_cases hn : takenUpto W q k < 0
    · -- none so far
      have hn1 : takenUpto W q k = -1 := by
        rcases taken_range W q k with h | ⟨m', _, h⟩
        · exact h
        · omega
      have hno := tk_none k hn1
      split at h
      · have : k = m := by omega
        subst this
        rcases Nat.lt_or_ge i k with hik | hik
        · exact absurd (hcd i hd) (by simp [hno i hik])
        · obtain rfl : i = k := by omega
          exact ⟨hd, Int.le_refl _⟩
      · rw [h] at hn1; omega
    · obtain ⟨b, hb⟩ : ∃ b : Nat, takenUpto W q k = (b : Int) := ⟨(takenUpto W q k).toNat, by omega⟩
      have ih := tk_due k b hb
      rw [hb] at h
      simp only [Int.toNat_natCast] at h
      have hnb : decide ((b : Int) < 0) = false := by simp
      simp only [hnb, Bool.false_or] at h
      split at h
      · rename_i hc
        have : k = m := by omega
        subst this
        simp only [Bool.and_eq_true] at hc
        have hbf := hc.2
        unfold before at hbf
        rcases Nat.lt_or_ge i k with hik | hik
        · obtain ⟨i1, i2⟩ := ih i hik hd
          by_cases ho : overdue W q k = true
          · rw [ho, i1] at hbf
            simp at hbf
            exact ⟨ho, by omega⟩
          · have ho' : overdue W q k = false := by simpa using ho
            rw [ho', i1] at hbf
            simp at hbf
        · obtain rfl : i = k := by omega
          exact ⟨hd, Int.le_refl _⟩
      · rename_i hc
        have : b = m := by omega
        subst this
        rcases Nat.lt_or_ge i k with hik | hik
        · exact ih i hik hd
        · obtain rfl : i = k := by omega
          have hbf : before W q i b = false := by
            rw [hcd i hd] at hc; simpa using hc
          unfold before at hbf
          by_cases ho : overdue W q b = true
          · rw [hd, ho] at hbf
            simp at hbf
            exact ⟨ho, by omega⟩
          · have ho' : overdue W q b = false := by simpa using ho
            rw [hd, ho'] at hbf
            simp at hbf

end Go.Proofs.Ytbjgebbfachgfaa
/- Plain laws: what a step keeps of each job; how long a job waits; what it is charged. -/
namespace Go.Proofs.Ytbjgebbfachgfaa

theorem st_set {q : Qu} {u : Int} {m i : Nat} {x : St} (hm : m < q.jobs.length) : (⟨u, q.jobs.set m x⟩ : Qu).st i = if i = m then x else q.st i := by
  unfold Qu.st
  simp only [List.getD_eq_getElem?_getD, List.getElem?_set]
  by_cases h : m = i
  · subst h; simp [hm]
  · have h' : ¬ i = m := fun e => h e.symm
    simp [h, h']
theorem st_now {q : Qu} {u : Int} {i : Nat} : (⟨u, q.jobs⟩ : Qu).st i = q.st i := rfl
theorem mins_le {W : Work} {q : Qu} (m : Nat) : minutesOf W q m ≤ W.rules.slice := by unfold minutesOf; split <;> omega
theorem kind_le {W : Work} {q : Qu} (m : Nat) : 1 ≤ kindOf W q m ∧ kindOf W q m ≤ 3 := by unfold kindOf; split <;> (try split) <;> omega

/- each job, at a step -/
theorem step_kept {W : Work} {q : Qu} (hK : WOk W) (hD : DOk W q) (hw : waits q.jobs = true) (i : Nat) (hi : i < q.jobs.length) :
    (q.st i).progress ≤ ((nextStep W q).2.st i).progress ∧ (q.st i).charge ≤ ((nextStep W q).2.st i).charge ∧
    (q.st i ≠ (nextStep W q).2.st i → (i : Int) = (nextStep W q).1.job ∧ (nextStep W q).1.kind ≤ 3 ∧ (q.st i).why = 0) ∧
    ((nextStep W q).1.kind ≤ 3 → (i : Int) = (nextStep W q).1.job → ((nextStep W q).2.st i).progress - (q.st i).progress ≤ W.rules.slice) := by
  rcases step_spec hK hD.q hw with ⟨j, hj, _, h1, h2, h3⟩ | ⟨_, _, ⟨_, h1, h2, _, _, h3⟩ | ⟨m, hm, _, hwm, _, h3⟩⟩
  · rw [h3]; simp only [st_now]
    exact ⟨Int.le_refl _, Int.le_refl _, fun h => absurd rfl h, fun h => absurd h (by decide)⟩
  · rw [h3]; simp only [st_now]
    exact ⟨Int.le_refl _, Int.le_refl _, fun h => absurd rfl h, fun h => absurd h (by decide)⟩
  · rw [h3]
    obtain ⟨r1, r2, r3, r4, r5⟩ := run_bd hK hD.q hm hwm
    obtain ⟨_, _, _, _, ⟨b8, b9⟩⟩ := hK.rb
    unfold runStep
    split
    · simp only [st_now]
      exact ⟨Int.le_refl _, Int.le_refl _, fun h => absurd rfl h, fun h => absurd h (by decide)⟩
    · simp only [st_set hm]
      by_cases him : i = m
      · subst him
        rw [if_pos rfl]
        have hmul0 : 0 ≤ (endOf W q i - q.now) * W.rules.rate := Int.mul_nonneg (by omega) b8
        refine ⟨by show _ ≤ (q.st i).progress + _; omega, by show _ ≤ (q.st i).charge + _; omega, fun _ => ⟨rfl, (kind_le i).2, by rw [Qu.st_eq hm]; exact hwm⟩, fun _ _ => ?_⟩
        show (q.st i).progress + minutesOf W q i - (q.st i).progress ≤ _
        have := mins_le (W := W) (q := q) i
        omega
      · rw [if_neg him]
        refine ⟨Int.le_refl _, Int.le_refl _, fun h => absurd rfl h, fun _ h => absurd (by exact_mod_cast h) him⟩
theorem step_len {W : Work} {q : Qu} (hK : WOk W) (hD : DOk W q) (hw : waits q.jobs = true) : (nextStep W q).2.jobs.length = q.jobs.length := by
  rcases step_spec hK hD.q hw with ⟨j, hj, _, h1, h2, h3⟩ | ⟨_, _, ⟨_, h1, h2, _, _, h3⟩ | ⟨m, hm, _, hwm, _, h3⟩⟩
  · rw [h3]
  · rw [h3]
  · rw [h3]; unfold runStep; split <;> simp

/-- fairness at a step -/
theorem step_fair {W : Work} {q : Qu} (hK : WOk W) (hD : DOk W q) (hw : waits q.jobs = true) : (nextStep W q).1.job < q.jobs.length ∧ (0 ≤ (nextStep W q).1.job → ∃ m : Nat, (nextStep W q).1.job = m ∧ m < q.jobs.length ∧ cand W q m = true ∧
    ∀ i, i < q.jobs.length → overdue W q i = true → overdue W q m = true ∧ (q.st m).since ≤ (q.st i).since) := by
  rcases step_spec hK hD.q hw with ⟨j, hj, _, h1, h2, h3⟩ | ⟨_, _, ⟨_, h1, h2, _, _, h3⟩ | ⟨m, hm, htk, hwm, har, h3⟩⟩
  · rw [h3]; exact ⟨by show (-1 : Int) < _; omega, fun h => absurd h (by simp)⟩
  · rw [h3]; exact ⟨by show (-1 : Int) < _; omega, fun h => absurd h (by simp)⟩
  · rw [h3]
    have hj : (runStep W q m).1.job = m := by unfold runStep; split <;> rfl
    rw [hj]
    exact ⟨by omega, fun _ => ⟨m, rfl, hm, (tk_cand _ _ htk).2, fun i hi ho => tk_due _ _ htk i hi ho⟩⟩

/- how long a job waits -/
def cnt (q : Qu) (T : Int) : Nat := q.jobs.countP fun s => decide (T < s.since)
def fpart (t now : Int) (f : Fault) : Int := (if f.at0 ≤ now then t else 0) + (if f.at0 + f.rep ≤ now then f.rep else 0)
def fsum (W : Work) (now : Int) : Int := (W.faults.map (fpart W.rules.turn now)).sum
def repairsOf (W : Work) : Int := W.faults.length * W.rules.turn + (W.faults.map Fault.rep).sum

theorem sum_le {α : Type} {g g' : α → Int} : ∀ {l : List α}, (∀ f ∈ l, g f ≤ g' f) → (l.map g).sum ≤ (l.map g').sum
  | [], _ => by simp
  | x :: l, h => by
    have h1 := h x (by simp)
    have h2 := sum_le (l := l) (fun f hf => h f (by simp [hf]))
    simp only [List.map_cons, List.sum_cons]; omega
theorem sum_gain {α : Type} {g g' : α → Int} {c : Int} : ∀ {l : List α}, (∀ f ∈ l, g f ≤ g' f) → ∀ f0 ∈ l, g f0 + c ≤ g' f0 → (l.map g).sum + c ≤ (l.map g').sum
  | [], _, f0, hf, _ => by cases hf
  | x :: l, h, f0, hf, hc => by
    simp only [List.map_cons, List.sum_cons]
    have h1 := h x (by simp)
    rcases List.mem_cons.1 hf with rfl | hf
    · have := sum_le (l := l) (fun f hf => h f (by simp [hf])); omega
    · have := sum_gain (l := l) (fun f hf => h f (by simp [hf])) f0 hf hc; omega
theorem fpart_mono {t now now' : Int} {f : Fault} (ht : 0 ≤ t) (hr : 0 ≤ f.rep) (h : now ≤ now') : fpart t now f ≤ fpart t now' f := by
  unfold fpart
  by_cases a : f.at0 ≤ now <;> by_cases b : f.at0 + f.rep ≤ now <;> by_cases c : f.at0 ≤ now' <;> by_cases d : f.at0 + f.rep ≤ now' <;> simp [a, b, c, d] <;> omega
theorem turn_nn {W : Work} (hK : WOk W) : 0 ≤ W.rules.turn := by have := hK.rb; unfold Rules.turn; omega
theorem rep_nn {W : Work} (hK : WOk W) {f : Fault} (hf : f ∈ W.faults) : 0 ≤ f.rep := by
  obtain ⟨i, hi, rfl⟩ := List.mem_iff_getElem.1 hf
  have := hK.fb hi; omega
theorem fsum_mono {W : Work} (hK : WOk W) {now now' : Int} (h : now ≤ now') : fsum W now ≤ fsum W now' := sum_le fun f hf => fpart_mono (turn_nn hK) (rep_nn hK hf) h
theorem fsum_nn {W : Work} (hK : WOk W) (now : Int) : 0 ≤ fsum W now := by
  have : ((W.faults.map fun _ => (0 : Int)).sum) ≤ fsum W now := sum_le fun f hf => by
    have := turn_nn hK; have := rep_nn hK hf
    unfold fpart; split <;> split <;> omega
  have e : (W.faults.map fun _ => (0 : Int)).sum = 0 := by
    generalize W.faults = l
    induction l with
    | nil => rfl
    | cons x l ih => simp only [List.map_cons, List.sum_cons, ih]; rfl
  omega
theorem fsum_lost {W : Work} (hK : WOk W) {now now' : Int} {i : Nat} (hi : i < W.faults.length) (h1 : now < W.faults[i].at0) (h2 : W.faults[i].at0 ≤ now') : fsum W now + W.rules.turn ≤ fsum W now' := by
  refine sum_gain (fun f hf => fpart_mono (turn_nn hK) (rep_nn hK hf) (by omega)) _ (List.getElem_mem hi) ?_
  have := (hK.fb hi).2.1
  unfold fpart
  rw [if_neg (by omega), if_neg (by omega), if_pos h2]
  split <;> omega
theorem fsum_rep {W : Work} (hK : WOk W) {now now' : Int} {i : Nat} (hi : i < W.faults.length) (h1 : now < W.faults[i].at0 + W.faults[i].rep) (h2 : W.faults[i].at0 + W.faults[i].rep ≤ now') (h0 : W.faults[i].at0 ≤ now) : fsum W now + W.faults[i].rep ≤ fsum W now' := by
  refine sum_gain (fun f hf => fpart_mono (turn_nn hK) (rep_nn hK hf) (by omega)) _ (List.getElem_mem hi) ?_
  unfold fpart
  rw [if_pos h0, if_neg (by omega), if_pos (by omega), if_pos h2]
  omega
theorem fsum_all {W : Work} (hK : WOk W) (now : Int) : fsum W now ≤ repairsOf W := by
  have h1 : fsum W now ≤ (W.faults.map fun f => W.rules.turn + f.rep).sum := sum_le fun f hf => by
    have := turn_nn hK; have := rep_nn hK hf
    unfold fpart; split <;> split <;> omega
  have e : ∀ l : List Fault, (l.map fun f => W.rules.turn + f.rep).sum = l.length * W.rules.turn + (l.map Fault.rep).sum := by
    intro l
    induction l with
    | nil => simp
    | cons x l ih =>
      simp only [List.map_cons, List.sum_cons, ih, List.length_cons]
      have : ((l.length + 1 : Nat) : Int) * W.rules.turn = l.length * W.rules.turn + W.rules.turn := by
        rw [Int.natCast_add, Int.add_mul]; simp
      omega
  unfold repairsOf
  rw [← e]; exact h1

structure WaitI (W : Work) (q : Qu) : Prop where
  arr : ∀ i, i < q.jobs.length → (W.job i).arrive ≤ (q.st i).since
  snc : ∀ i, i < q.jobs.length → (q.st i).since = (W.job i).arrive ∨ (q.st i).since ≤ q.now
  bd : ∀ i, i < q.jobs.length → (q.st i).why = 0 → q.now ≤ (q.st i).since + W.rules.patience + W.rules.turn * (cnt q ((q.st i).since + W.rules.patience) : Int) + fsum W q.now

theorem begin_st {W : Work} {i : Nat} (hi : i < W.jobs.length) : (beginQ W).st i = ⟨0, (W.job i).arrive, 0, 0, -1⟩ := by
  rw [Qu.st_eq (by simpa [beginQ] using hi), Work.job_eq hi]; simp [beginQ]
theorem waitI_begin {W : Work} (hK : WOk W) : WaitI W (beginQ W) := by
  have hl : (beginQ W).jobs.length = W.jobs.length := by simp [beginQ]
  refine ⟨fun i hi => ?_, fun i hi => ?_, fun i hi _ => ?_⟩
  · rw [begin_st (by omega)]; exact Int.le_refl _
  · rw [begin_st (by omega)]; exact .inl rfl
  · rw [begin_st (by omega)]
    have h1 := hK.jb (i := i) (by omega)
    have h2 := hK.rb
    have h3 := fsum_nn hK (beginQ W).now
    have h4 : 0 ≤ W.rules.turn * (cnt (beginQ W) ((W.job i).arrive + W.rules.patience) : Int) := Int.mul_nonneg (turn_nn hK) (by omega)
    rw [Work.job_eq (show i < W.jobs.length by omega)] at *
    show (0 : Int) ≤ W.jobs[i].arrive + W.rules.patience + W.rules.turn * (cnt (beginQ W) (W.jobs[i].arrive + W.rules.patience) : Int) + fsum W (beginQ W).now
    omega

theorem waitI_step {W : Work} {q : Qu} (hK : WOk W) (hD : DOk W q) (hw : waits q.jobs = true) (hI : WaitI W q) : WaitI W (nextStep W q).2 := by
  have hT := turn_nn hK
  have hRb := hK.rb
  rcases step_spec hK hD.q hw with ⟨j, hj, _, h1, h2, h3⟩ | ⟨_, _, ⟨_, h1, h2, h4, _, h3⟩ | ⟨m, hm, htk, hwm, har, h3⟩⟩
  · rw [h3]
    refine ⟨fun i hi => hI.arr i hi, fun i hi => ?_, fun i hi hwi => ?_⟩
    · rcases hI.snc i hi with h | h
      · exact .inl h
      · exact .inr (by show (q.st i).since ≤ _; have := h; show _ ≤ W.faults[j].at0 + W.faults[j].rep; omega)
    · have hb := hI.bd i hi hwi
      have := fsum_rep hK hj h2 (Int.le_refl _) h1
      show W.faults[j].at0 + W.faults[j].rep ≤ (q.st i).since + W.rules.patience + W.rules.turn * (cnt q ((q.st i).since + W.rules.patience) : Int) + _
      show _ ≤ _ + fsum W (W.faults[j].at0 + W.faults[j].rep)
      omega
  · rw [h3]
    refine ⟨fun i hi => hI.arr i hi, fun i hi => ?_, fun i hi hwi => ?_⟩
    · rcases hI.snc i hi with h | h
      · exact .inl h
      · exact .inr (by show (q.st i).since ≤ idleUpto W q q.jobs.length; omega)
    · have ha := hI.arr i hi
      have hi' : i < q.jobs.length := hi
      have hb := (h4 i hi' (by rw [← Qu.st_eq hi']; exact hwi)).2
      have hn := fsum_nn hK (idleUpto W q q.jobs.length)
      have h4 : 0 ≤ W.rules.turn * (cnt q ((q.st i).since + W.rules.patience) : Int) := Int.mul_nonneg hT (by omega)
      show idleUpto W q q.jobs.length ≤ (q.st i).since + W.rules.patience + W.rules.turn * (cnt q ((q.st i).since + W.rules.patience) : Int) + fsum W (idleUpto W q q.jobs.length)
      omega
  · rw [h3]
    obtain ⟨r1, r2, r3, r4, r5⟩ := run_bd hK hD.q hm hwm
    have hend : endOf W q m ≤ q.now + W.rules.turn := by
      have := mins_le (W := W) (q := q) m
      unfold endOf Rules.turn; split <;> omega
    unfold runStep
    split
    · rename_i hf
      obtain ⟨fi, hfi, hc, hd, _⟩ : ∃ i, ∃ h : i < W.faults.length, W.nextFault q.now = W.faults[i].at0 ∧ q.now < W.faults[i].at0 ∧ True := by
        rcases nextFault_cases hK q.now with ⟨hc, _⟩ | ⟨i, hi, hc, hd, _⟩
        · omega
        · exact ⟨i, hi, hc, hd, trivial⟩
      refine ⟨fun i hi => hI.arr i hi, fun i hi => ?_, fun i hi hwi => ?_⟩
      · rcases hI.snc i hi with h | h
        · exact .inl h
        · exact .inr (by show (q.st i).since ≤ W.nextFault q.now; omega)
      · have hb := hI.bd i hi hwi
        have := fsum_lost hK hfi hd (show W.faults[fi].at0 ≤ W.nextFault q.now by omega)
        show W.nextFault q.now ≤ (q.st i).since + W.rules.patience + W.rules.turn * (cnt q ((q.st i).since + W.rules.patience) : Int) + fsum W (W.nextFault q.now)
        omega
    · have hl : (q.jobs.set m (stAfter W q m)).length = q.jobs.length := by simp
      refine ⟨fun i hi => ?_, fun i hi => ?_, fun i hi hwi => ?_⟩
      · have hi' : i < q.jobs.length := by rw [← hl]; exact hi
        rw [st_set hm]
        split
        · rename_i e; subst e
          show (W.job i).arrive ≤ endOf W q i; omega
        · exact hI.arr i hi'
      · have hi' : i < q.jobs.length := by rw [← hl]; exact hi
        rw [st_set hm]
        split
        · exact .inr (by show endOf W q m ≤ endOf W q m; omega)
        · rcases hI.snc i hi' with h | h
          · exact .inl h
          · exact .inr (by show (q.st i).since ≤ endOf W q m; omega)
      · have hi' : i < q.jobs.length := by rw [← hl]; exact hi
        have hn := fsum_nn hK (endOf W q m)
        have hmo := fsum_mono hK (show q.now ≤ endOf W q m by omega)
        rw [st_set hm] at hwi ⊢
        generalize hT' : (if i = m then stAfter W q m else q.st i).since + W.rules.patience = T at *
        have hcm : (cnt ⟨endOf W q m, q.jobs.set m (stAfter W q m)⟩ T : Int) = cnt q T - (if T < (q.st m).since then 1 else 0) + (if T < endOf W q m then 1 else 0) := by
          unfold cnt
          rw [List.countP_set hm]
          have e1 : q.jobs[m] = q.st m := (Qu.st_eq hm).symm
          rw [e1]
          by_cases c1 : T < (q.st m).since
          · have hpos : 0 < q.jobs.countP (fun s => decide (T < s.since)) := List.countP_pos_iff.2 ⟨q.jobs[m], List.getElem_mem hm, by rw [e1]; simpa using c1⟩
            by_cases c2 : T < endOf W q m
            · have : T < (stAfter W q m).since := c2
              simp [c1, c2, this]; omega
            · have : ¬ T < (stAfter W q m).since := c2
              simp [c1, c2, this]; omega
          · by_cases c2 : T < endOf W q m
            · have : T < (stAfter W q m).since := c2
              simp [c1, c2, this]
            · have : ¬ T < (stAfter W q m).since := c2
              simp [c1, c2, this]
        have hnn : (0 : Int) ≤ W.rules.turn * (cnt ⟨endOf W q m, q.jobs.set m (stAfter W q m)⟩ T : Int) := Int.mul_nonneg hT (by omega)
        show endOf W q m ≤ T + W.rules.turn * (cnt ⟨endOf W q m, q.jobs.set m (stAfter W q m)⟩ T : Int) + fsum W (endOf W q m)
        by_cases hle : endOf W q m ≤ T
        · omega
        · have him : ¬ i = m := by
            intro e; rw [if_pos e] at hT'
            have : (stAfter W q m).since = endOf W q m := rfl
            omega
          rw [if_neg him] at hT' hwi
          have hwi' : q.jobs[i].why = 0 := by rw [← Qu.st_eq hi']; exact hwi
          -- m was not counted before
          have hmT : ¬ T < (q.st m).since ∨ q.now ≤ T := by
            by_cases hc : T < q.now
            · left
              intro hlt
              have hai := hI.arr i hi'
              have ho : overdue W q i = true := by
                unfold overdue
                simp only [Bool.and_eq_true, beq_iff_eq, decide_eq_true_eq]
                exact ⟨⟨hwi, by omega⟩, by omega⟩
              obtain ⟨_, d2⟩ := tk_due _ _ htk i hi' ho
              omega
            · right; omega
          by_cases hc : T < (q.st m).since
          · -- then now is not behind T
            have hnow : q.now ≤ T := hmT.resolve_left (fun h => h hc)
            rw [if_pos hc, if_pos (by omega)] at hcm
            have hpos : (1 : Int) ≤ cnt q T := by
              have : 0 < cnt q T := List.countP_pos_iff.2 ⟨q.jobs[m], List.getElem_mem hm, by rw [← Qu.st_eq hm]; simpa using hc⟩
              omega
            rw [hcm]
            have hmul : W.rules.turn * 1 ≤ W.rules.turn * ((cnt q T : Int) - 1 + 1) := Int.mul_le_mul_of_nonneg_left (by omega) hT
            omega
          · rw [if_neg hc, if_pos (by omega)] at hcm
            rw [hcm, Int.sub_zero, Int.mul_add, Int.mul_one]
            have hb := hI.bd i hi' hwi
            rw [hT'] at hb
            omega
theorem waitI_bd {W : Work} {q : Qu} (hK : WOk W) (hD : DOk W q) (hI : WaitI W q) (i : Nat) (hi : i < q.jobs.length) (hwi : (q.st i).why = 0) : q.now - (q.st i).since ≤ W.rules.patience + W.jobs.length * W.rules.turn + repairsOf W := by
  have hb := hI.bd i hi hwi
  have h1 := fsum_all hK q.now
  have h2 : cnt q ((q.st i).since + W.rules.patience) ≤ q.jobs.length := List.countP_le_length
  rw [hD.len] at h2
  have h3 : W.rules.turn * (cnt q ((q.st i).since + W.rules.patience) : Int) ≤ W.rules.turn * (W.jobs.length : Int) := Int.mul_le_mul_of_nonneg_left (by omega) (turn_nn hK)
  rw [Int.mul_comm W.rules.turn (W.jobs.length : Int)] at h3
  omega

end Go.Proofs.Ytbjgebbfachgfaa
/- Plain laws: what jobs are charged. -/
namespace Go.Proofs.Ytbjgebbfachgfaa

theorem loop_inv {W : Work} {till : Int} (hK : WOk W) (ht : till ≤ 5000) (I : List Spell → Qu → Prop)
    (hs : ∀ l q, DOk W q → waits q.jobs = true → q.now < till → I l q → I (l ++ [(nextStep W q).1]) (nextStep W q).2) :
    ∀ (n : Nat) (l : List Spell) (q : Qu), DOk W q → I l q → I (l ++ (dayLoop W till n q).1) (dayLoop W till n q).2
  | 0, l, q, _, h => by simpa [dayLoop] using h
  | n + 1, l, q, hD, h => by
    cases hc : (decide (q.now < till) && waits q.jobs) with
    | false => rw [day_stop hc]; simpa using h
    | true =>
      rw [day_go hc]
      simp only [Bool.and_eq_true, decide_eq_true_eq] at hc
      obtain ⟨_, s2, _, _⟩ := step_ok hK hD hc.2 (by omega)
      have := loop_inv hK ht I hs n _ _ s2 (hs l q hD hc.2 hc.1 h)
      simpa using this
theorem day_inv {W : Work} {till : Int} (h : dayErr W till = 0) (I : List Spell → Qu → Prop) (h0 : I [] (beginQ W))
    (hs : ∀ l q, DOk W q → waits q.jobs = true → q.now < till → I l q → I (l ++ [(nextStep W q).1]) (nextStep W q).2) : I (day W till).1 (day W till).2 := by
  obtain ⟨hK, _, _, t5⟩ := day_ok h
  unfold day
  rw [if_pos h]
  have := loop_inv hK t5 I hs till.toNat [] (beginQ W) (dok_begin hK) h0
  simpa using this

/- one job -/
def JobI (W : Work) (i : Nat) (s : St) : Prop :=
  (s.why = 0 → ∃ k : Int, 0 ≤ k ∧ s.progress = k * W.rules.slice ∧ s.charge = k * W.rules.turn * W.rules.rate) ∧
  (s.why ≠ 0 → s.charge = quote W.rules (W.job i) ∧ s.progress = (W.job i).fin ∧ (s.why = 1 ↔ (W.job i).needs ≤ (W.job i).claim))

theorem quote_eq {W : Work} (hK : WOk W) {i : Nat} (hi : i < W.jobs.length) {k left : Int} (h0 : 0 ≤ k) (h1 : 1 ≤ left) (h2 : left ≤ W.rules.slice) (hf : (W.job i).fin = k * W.rules.slice + left) :
    quote W.rules (W.job i) = (k * W.rules.turn + W.rules.load + left) * W.rules.rate := by
  have hs := hK.rb.1
  have hn : (W.job i).numOk = true := by rw [Work.job_eq hi]; exact hK.job i hi
  have hd : ((W.job i).fin - 1) / W.rules.slice = k := by
    rw [hf, show k * W.rules.slice + left - 1 = (left - 1) + k * W.rules.slice by omega, Int.add_mul_ediv_right _ _ (by omega), Int.ediv_eq_zero_of_lt (by omega) (by omega)]
    omega
  unfold quote
  rw [hK.rules, hn]
  simp only [Bool.and_self, if_true]
  rw [hd, hf]
  congr 1
  unfold Rules.turn
  rw [Int.mul_add, Int.mul_add, Int.add_mul]
  omega

theorem jobI_begin {W : Work} {i : Nat} (hi : i < W.jobs.length) : JobI W i ((beginQ W).st i) := by
  rw [begin_st hi]
  exact ⟨fun _ => ⟨0, by omega, by simp, by simp⟩, fun h => absurd rfl h⟩

theorem jobI_after {W : Work} {q : Qu} (hK : WOk W) (hD : DOk W q) {m : Nat} (hm : m < q.jobs.length) (hwm : q.jobs[m].why = 0) (hI : JobI W m (q.st m)) : JobI W m (stAfter W q m) := by
  obtain ⟨r1, r2, r3, r4, r5⟩ := run_bd hK hD.q hm hwm
  have hml : m < W.jobs.length := by have := hD.len; omega
  have hw : (q.st m).why = 0 := by rw [Qu.st_eq hm]; exact hwm
  obtain ⟨k, k0, hp, hc⟩ := hI.1 hw
  have hms := mins_le (W := W) (q := q) m
  have hsl := hK.rb.1
  cases hd : doneOf W q m with
  | false =>
    have hmin : minutesOf W q m = W.rules.slice := by
      unfold doneOf at hd
      have hne := beq_eq_false_iff_ne.1 hd
      unfold minutesOf at hne ⊢
      split
      · rename_i h; rw [if_pos h] at hne; omega
      · rfl
    have hend : endOf W q m - q.now = W.rules.turn := by
      unfold endOf Rules.turn; rw [hd, hmin]; simp; omega
    refine ⟨fun _ => ⟨k + 1, by omega, ?_, ?_⟩, fun h => absurd ?_ h⟩
    · show (q.st m).progress + minutesOf W q m = _
      rw [hp, hmin, Int.add_mul, Int.one_mul]
    · show (q.st m).charge + (endOf W q m - q.now) * W.rules.rate = _
      rw [hc, hend, Int.add_mul, Int.add_mul, Int.one_mul]
    · show (if doneOf W q m then _ else (q.st m).why) = 0
      rw [hd]; simpa using hw
  | true =>
    have hd' : (q.st m).progress + minutesOf W q m = (W.job m).fin := by unfold doneOf at hd; simpa using hd
    have hend : endOf W q m - q.now = W.rules.load + minutesOf W q m := by
      unfold endOf; rw [hd]; simp; omega
    have hwhy : (stAfter W q m).why = if (W.job m).fin == (W.job m).needs then 1 else 2 := by
      show (if doneOf W q m then _ else (q.st m).why) = _
      rw [hd]; rfl
    refine ⟨fun h => ?_, fun _ => ⟨?_, hd', ?_⟩⟩
    · rw [hwhy] at h; split at h <;> omega
    · show (q.st m).charge + (endOf W q m - q.now) * W.rules.rate = _
      rw [hc, hend, quote_eq hK hml k0 r1 hms (by rw [← hd', hp]), ← Int.add_mul]
      congr 1; omega
    · rw [hwhy]
      unfold Job.fin
      by_cases h : (W.job m).needs < (W.job m).claim
      · simp [h]; omega
      · by_cases h2 : (W.job m).claim = (W.job m).needs
        · simp [h2]
        · simp [h, h2]; omega

/- all of them, and the machine -/
theorem sum_set : ∀ (l : List St) (m : Nat) (x : St) (h : m < l.length), ((l.set m x).map St.charge).sum = (l.map St.charge).sum - l[m].charge + x.charge
  | [], m, x, h => by simp at h
  | a :: l, 0, x, h => by simp; omega
  | a :: l, m + 1, x, h => by
    have := sum_set l m x (by simpa using h)
    simp only [List.set_cons_succ, List.map_cons, List.sum_cons, List.getElem_cons_succ, this]; omega

structure ChI (W : Work) (l : List Spell) (q : Qu) : Prop where
  job : ∀ i, i < q.jobs.length → JobI W i (q.st i)
  len : q.jobs.length = W.jobs.length
  sum : (charges q).sum = (totals l).run * W.rules.rate
  all : (totals l).run + (totals l).lost + (totals l).repair + (totals l).idle = q.now
  last : q.now = match l.getLast? with | some s => s.until0 | none => 0

theorem totals_app (l : List Spell) (s : Spell) : totals (l ++ [s]) = totAdd (totals l) s := by unfold totals; rw [List.foldl_append]; rfl
theorem chI_begin {W : Work} : ChI W [] (beginQ W) := by
  refine ⟨fun i hi => jobI_begin (by simpa [beginQ] using hi), by simp [beginQ], ?_, rfl, rfl⟩
  show ((W.jobs.map fun j => (⟨0, j.arrive, 0, 0, -1⟩ : St)).map St.charge).sum = 0 * W.rules.rate
  rw [Int.zero_mul]
  generalize W.jobs = l
  induction l with
  | nil => rfl
  | cons x l ih => simp only [List.map_cons, List.sum_cons] at ih ⊢; rw [ih]; rfl

theorem chI_step {W : Work} {l : List Spell} {q : Qu} (hK : WOk W) (hD : DOk W q) (hw : waits q.jobs = true) (hI : ChI W l q) : ChI W (l ++ [(nextStep W q).1]) (nextStep W q).2 := by
  have hlast : ∀ s : Spell, (l ++ [s]).getLast? = some s := fun s => by simp
  have hsum := hI.sum
  have hall := hI.all
  rcases step_spec hK hD.q hw with ⟨j, hj, _, h1, h2, h3⟩ | ⟨_, _, ⟨_, h1, h2, h4, _, h3⟩ | ⟨m, hm, htk, hwm, har, h3⟩⟩
  · rw [h3]
    refine ⟨hI.job, hI.len, ?_, ?_, by rw [hlast]⟩
    · rw [totals_app]; exact hsum
    · rw [totals_app]; simp [totAdd, inb]; omega
  · rw [h3]
    refine ⟨hI.job, hI.len, ?_, ?_, by rw [hlast]⟩
    · rw [totals_app]; exact hsum
    · rw [totals_app]; simp [totAdd, inb]; omega
  · rw [h3]
    unfold runStep
    split
    · refine ⟨hI.job, hI.len, ?_, ?_, by rw [hlast]⟩
      · rw [totals_app]; exact hsum
      · rw [totals_app]; simp [totAdd, inb]; omega
    · have hk := kind_le (W := W) (q := q) m
      have hin : inb (kindOf W q m) 1 3 = true := (inb_iff _ _ _).2 hk
      have k4 : (kindOf W q m == 4) = false := by simp; omega
      have k5 : (kindOf W q m == 5) = false := by simp; omega
      have k6 : (kindOf W q m == 6) = false := by simp; omega
      refine ⟨fun i hi => ?_, by simpa using hI.len, ?_, ?_, by rw [hlast]⟩
      · have hi' : i < q.jobs.length := by simpa using hi
        rw [st_set hm]
        split
        · rename_i e; subst e; exact jobI_after hK hD hm hwm (hI.job i hm)
        · exact hI.job i hi'
      · rw [totals_app]
        show ((q.jobs.set m (stAfter W q m)).map St.charge).sum = _
        rw [sum_set _ _ _ hm]
        have e1 : (charges q).sum = (q.jobs.map St.charge).sum := rfl
        have e2 : q.jobs[m] = q.st m := (Qu.st_eq hm).symm
        have e3 : (stAfter W q m).charge = (q.st m).charge + (endOf W q m - q.now) * W.rules.rate := rfl
        simp only [totAdd, hin, if_true]
        rw [Int.add_mul, e2, e3, ← e1, hsum]
        omega
      · rw [totals_app]
        simp only [totAdd, hin, k4, k5, k6, if_true, Bool.false_eq_true, if_false]
        omega
theorem day_charges {W : Work} {till : Int} (h : dayErr W till = 0) : ChI W (day W till).1 (day W till).2 := by
  obtain ⟨hK, _, _, _⟩ := day_ok h
  exact day_inv h _ chI_begin fun l q hD hw _ hI => chI_step hK hD hw hI

end Go.Proofs.Ytbjgebbfachgfaa
