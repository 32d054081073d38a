/- Texts of this proof, joined: Pure5 Pure6 Pure7. -/
import Derived.Test.YtbjgebbfachgfaacW13
import Derived.Test.YtbjgebbfachgfaacJ5
set_option linter.unusedVariables false
set_option linter.unusedSimpArgs false
set_option linter.unusedSectionVars false
set_option linter.all false
/- Plain laws for next. -/
namespace Go.Proofs.Ytbjgebbfachgfaa

def nf (l : List Fault) (now : Int) : Int := match l.find? (fun f => decide (now < f.at0)) with | some f => f.at0 | none => -1
theorem nf_snoc {l : List Fault} {k : Nat} {now n : Int} (hk : k < l.length) (hn0 : n < 0 → (l.take k).find? (fun f => decide (now < f.at0)) = none) (hn : n = nf (l.take k) now) :
    nf (l.take (k + 1)) now = if decide (now < l[k].at0) && decide (n < 0) then l[k].at0 else n := by
  unfold nf at hn ⊢
  rw [List.take_succ_eq_append_getElem hk, List.find?_append]
  by_cases h : n < 0
  · rw [hn0 h] at hn ⊢
    by_cases h2 : now < l[k].at0
    · simp [h, h2]
    · simp [h2, hn]
  · cases hf : (l.take k).find? (fun f => decide (now < f.at0)) with
    | none => rw [hf] at hn; exact absurd (by rw [hn]; decide) h
    | some f =>
      rw [hf] at hn
      have h' : decide (n < 0) = false := decide_eq_false h
      rw [h']; simp [hn]

theorem idle_succ {W : Work} {q : Qu} {k : Nat} (hk : k < q.jobs.length) (hk' : k < W.jobs.length) : idleUpto W q (k + 1) = if q.jobs[k].why == 0 && (decide (idleUpto W q k < 0) || decide (W.jobs[k].arrive < idleUpto W q k)) then W.jobs[k].arrive else idleUpto W q k := by
  show (if (q.st k).why == 0 && _ then _ else _) = _
  rw [Qu.st_eq hk, Work.job_eq hk']

theorem mins_eq {W : Work} {q : Qu} {k : Nat} (hk : k < q.jobs.length) (hk' : k < W.jobs.length) : minutesOf W q k = if W.jobs[k].fin - q.jobs[k].progress < W.rules.slice then W.jobs[k].fin - q.jobs[k].progress else W.rules.slice := by
  unfold minutesOf; rw [Qu.st_eq hk, Work.job_eq hk']


end Go.Proofs.Ytbjgebbfachgfaa
/- Plain laws: what a step does; what a day keeps. -/
namespace Go.Proofs.Ytbjgebbfachgfaa

theorem tk_cand {W : Work} {q : Qu} : ∀ (k m : Nat), takenUpto W q k = (m : Int) → m < k ∧ cand W q m = true
  | 0, m, h => by unfold takenUpto at h; omega
  | k + 1, m, h => by
    simp only [takenUpto] at h
    split at h
    · rename_i hc
      have : k = m := by omega
      subst this
      simp only [Bool.and_eq_true] at hc
      exact ⟨by omega, hc.1⟩
    · have := tk_cand k m h; exact ⟨by omega, this.2⟩
theorem tk_none {W : Work} {q : Qu} : ∀ (k : Nat), takenUpto W q k = -1 → ∀ i, i < k → cand W q i = false
  | 0, _, i, hi => by omega
  | k + 1, h, i, hi => by
    simp only [takenUpto] at h
    split at h
    · omega
    · rename_i hc
      rcases Nat.lt_or_ge i k with hik | hik
      · exact tk_none k h i hik
      · obtain rfl : i = k := by omega
        rw [h] at hc
        cases hcd : cand W q i with
        | false => rfl
        | true => rw [hcd] at hc; simp at hc
theorem wait_ex {l : List St} (h : waits l = true) : ∃ i, ∃ h : i < l.length, l[i].why = 0 := by
  unfold waits at h
  rw [List.any_eq_true] at h
  obtain ⟨x, hx, hw⟩ := h
  obtain ⟨i, hi, rfl⟩ := List.mem_iff_getElem.1 hx
  exact ⟨i, hi, by simpa using hw⟩

theorem run_bd {W : Work} {q : Qu} (hK : WOk W) (hQ : QOk W q) {m : Nat} (hm : m < q.jobs.length) (hw : q.jobs[m].why = 0) :
    1 ≤ minutesOf W q m ∧ minutesOf W q m ≤ 600 ∧ q.jobs[m].progress + minutesOf W q m ≤ (W.job m).fin ∧ q.now + 1 ≤ endOf W q m ∧ endOf W q m ≤ q.now + 660 := by
  have hml : m < W.jobs.length := by have := hQ.len; omega
  obtain ⟨⟨b1, b3⟩, ⟨b4, b5⟩, ⟨b6, b7⟩, _, ⟨b8, b9⟩⟩ := hK.rb
  obtain ⟨f1, f2, f3, f4⟩ := Job.fin_bd (hK.job m hml)
  obtain ⟨⟨g1, g2⟩, _, _, _, _, g7⟩ := hQ.b hm hml
  have g8 := g7 hw
  have e1 : minutesOf W q m = if W.jobs[m].fin - q.jobs[m].progress < W.rules.slice then W.jobs[m].fin - q.jobs[m].progress else W.rules.slice := mins_eq hm hml
  rw [Work.job_eq hml]
  have h1 : 1 ≤ minutesOf W q m ∧ minutesOf W q m ≤ 600 ∧ q.jobs[m].progress + minutesOf W q m ≤ W.jobs[m].fin := by rw [e1]; split <;> omega
  refine ⟨h1.1, h1.2.1, h1.2.2, ?_⟩
  unfold endOf
  split <;> omega

theorem step_spec {W : Work} {q : Qu} (hK : WOk W) (hQ : QOk W q) (hw : waits q.jobs = true) :
    (∃ i, ∃ h : i < W.faults.length, W.repairAt q.now = some W.faults[i] ∧ W.faults[i].at0 ≤ q.now ∧ q.now < W.faults[i].at0 + W.faults[i].rep ∧ nextStep W q = (⟨5, -1, q.now, W.faults[i].at0 + W.faults[i].rep⟩, ⟨W.faults[i].at0 + W.faults[i].rep, q.jobs⟩)) ∨
    (W.repairAt q.now = none ∧ (∀ i (h : i < W.faults.length), W.faults[i].at0 ≤ q.now → W.faults[i].at0 + W.faults[i].rep ≤ q.now) ∧
      ((takenUpto W q q.jobs.length = -1 ∧ q.now < idleUpto W q q.jobs.length ∧ idleUpto W q q.jobs.length ≤ 5000 ∧ (∀ i (h : i < q.jobs.length), q.jobs[i].why = 0 → q.now < (W.job i).arrive ∧ idleUpto W q q.jobs.length ≤ (W.job i).arrive) ∧ (0 ≤ W.nextFault q.now → idleUpto W q q.jobs.length ≤ W.nextFault q.now) ∧ nextStep W q = (⟨6, -1, q.now, idleUpto W q q.jobs.length⟩, ⟨idleUpto W q q.jobs.length, q.jobs⟩)) ∨
       ∃ m, ∃ h : m < q.jobs.length, takenUpto W q q.jobs.length = (m : Int) ∧ q.jobs[m].why = 0 ∧ (W.job m).arrive ≤ q.now ∧ nextStep W q = runStep W q m)) := by
  cases hr : W.repairAt q.now with
  | some f =>
    left
    have hr' := hr
    unfold Work.repairAt at hr'
    rw [List.find?_eq_some_iff_getElem] at hr'
    obtain ⟨h1, i, hi, rfl, _⟩ := hr'
    simp only [Bool.and_eq_true, decide_eq_true_eq] at h1
    exact ⟨i, hi, rfl, h1.1, h1.2, by unfold nextStep; rw [hr]⟩
  | none =>
    right
    have hno : ∀ i (h : i < W.faults.length), W.faults[i].at0 ≤ q.now → W.faults[i].at0 + W.faults[i].rep ≤ q.now := by
      intro i hi ha
      unfold Work.repairAt at hr
      rw [List.find?_eq_none] at hr
      have := hr W.faults[i] (List.getElem_mem hi)
      simp at this
      exact this ha
    refine ⟨rfl, hno, ?_⟩
    rcases taken_range W q q.jobs.length with ht | ⟨m, hm, ht⟩
    · left
      have hnone := tk_none _ ht
      have hlate : ∀ i (h : i < q.jobs.length), q.jobs[i].why = 0 → q.now < (W.job i).arrive := by
        intro i hi hwi
        have := hnone i hi
        unfold cand at this
        rw [Qu.st_eq hi, hwi] at this
        simp at this; exact this
      have hin : ∀ i, (q.st i).why = 0 → 0 ≤ (W.job i).arrive := by
        intro i hwi
        rcases Nat.lt_or_ge i W.jobs.length with h | h
        · rw [Work.job_eq h]; exact (hK.jb h).1.1
        · have : W.job i = Job.zero := by unfold Work.job; rw [List.getD_eq_getElem?_getD, List.getElem?_eq_none h]; rfl
          rw [this]; decide
      obtain ⟨i0, hi0, hw0⟩ := wait_ex hw
      have hlen := hQ.len
      rcases idleUpto_spec W q hin q.jobs.length with ⟨_, h2, _⟩ | ⟨h1, h2, h3, h4⟩
      · exact absurd (by rw [Qu.st_eq hi0]; exact hw0) (h2 i0 hi0)
      · have h5 : idleUpto W q q.jobs.length ≤ 5000 := by
          have := h4 i0 hi0 (by rw [Qu.st_eq hi0]; exact hw0)
          have hl : i0 < W.jobs.length := by omega
          rw [Work.job_eq hl] at this
          have := (hK.jb hl).1.2
          omega
        have h6 : q.now < idleUpto W q q.jobs.length := by
          rcases h2 with ⟨ha, hb⟩ | ⟨i, hi, hwi, hb⟩
          · rcases nextFault_cases hK q.now with ⟨hc, _⟩ | ⟨i, hi, hc, hd, _⟩
            · omega
            · omega
          · rw [← hb]; exact hlate i hi (by rw [← Qu.st_eq hi]; exact hwi)
        refine ⟨ht, h6, h5, fun i hi hwi => ⟨hlate i hi hwi, h4 i hi (by rw [Qu.st_eq hi]; exact hwi)⟩, h3, ?_⟩
        unfold nextStep; rw [hr]; simp [ht]
    · right
      obtain ⟨_, hc⟩ := tk_cand _ _ ht
      unfold cand at hc
      rw [Qu.st_eq hm] at hc
      simp only [Bool.and_eq_true, beq_iff_eq, decide_eq_true_eq] at hc
      refine ⟨m, hm, ht, hc.1, hc.2, ?_⟩
      unfold nextStep; rw [hr]; simp only [ht]; rw [if_neg (by omega), Int.toNat_natCast]

/-- what the queue of a day keeps -/
structure DOk (W : Work) (q : Qu) : Prop where
  len : q.jobs.length = W.jobs.length
  now0 : 0 ≤ q.now
  now1 : q.now ≤ 10000
  st : ∀ i (h : i < q.jobs.length) (_ : i < W.jobs.length), (0 ≤ q.jobs[i].progress ∧ q.jobs[i].progress ≤ (W.job i).fin) ∧ (0 ≤ q.jobs[i].since ∧ q.jobs[i].since ≤ 10000) ∧ (0 ≤ q.jobs[i].charge ∧ q.jobs[i].charge ≤ q.now * 1000) ∧ (0 ≤ q.jobs[i].why ∧ q.jobs[i].why ≤ 2) ∧ (-1 ≤ q.jobs[i].ended ∧ q.jobs[i].ended ≤ 10000) ∧ (q.jobs[i].why = 0 → q.jobs[i].progress < (W.job i).fin)

theorem DOk.q {W : Work} {q : Qu} (h : DOk W q) : QOk W q := by
  refine ⟨h.len, h.now0, by have := h.now1; omega, fun i hi hi' => ?_⟩
  obtain ⟨⟨a1, a2⟩, ⟨b1, b2⟩, ⟨c1, c2⟩, ⟨d1, d2⟩, ⟨e1, e2⟩, f⟩ := h.st i hi hi'
  rw [Work.job_eq hi'] at a2 f
  have := h.now1
  unfold stOk
  simp only [Bool.and_eq_true, inb_iff, Bool.not_eq_true', Bool.and_eq_false_iff, beq_eq_false_iff_ne]
  refine ⟨⟨⟨⟨⟨⟨a1, a2⟩, ⟨b1, by omega⟩⟩, ⟨c1, by omega⟩⟩, ⟨d1, d2⟩⟩, ⟨e1, by omega⟩⟩, ?_⟩
  by_cases hw : q.jobs[i].why = 0
  · exact .inr (by have := f hw; omega)
  · exact .inl hw

theorem dok_begin {W : Work} (hK : WOk W) : DOk W (beginQ W) := by
  refine ⟨by simp [beginQ], by simp [beginQ], by simp [beginQ], fun i hi hi' => ?_⟩
  have e : (beginQ W).jobs[i] = ⟨0, W.jobs[i].arrive, 0, 0, -1⟩ := by simp [beginQ]
  rw [e, Work.job_eq hi']
  obtain ⟨⟨a, b⟩, _⟩ := hK.jb hi'
  have := Job.fin_bd (hK.job i hi')
  refine ⟨⟨by simp, by simp; omega⟩, ⟨by simpa using a, by simp; omega⟩, ⟨by simp, by simp [beginQ]⟩, by simp, by simp, fun _ => by simp; omega⟩

theorem DOk.later {W : Work} {q : Qu} (h : DOk W q) {u : Int} (h1 : q.now ≤ u) (h2 : u ≤ 10000) : DOk W ⟨u, q.jobs⟩ := by
  refine ⟨h.len, by have := h.now0; show 0 ≤ u; omega, h2, fun i hi hi' => ?_⟩
  obtain ⟨a, b, ⟨c1, c2⟩, d, e, f⟩ := h.st i hi hi'
  exact ⟨a, b, ⟨c1, Int.le_trans c2 (show q.now * 1000 ≤ u * 1000 by omega)⟩, d, e, f⟩

/-- what a step does, for the queue of a day -/
theorem step_ok {W : Work} {q : Qu} (hK : WOk W) (hD : DOk W q) (hw : waits q.jobs = true) (hn : q.now < 5000) :
    q.now < (nextStep W q).2.now ∧ DOk W (nextStep W q).2 ∧ (nextStep W q).1.from0 = q.now ∧ (nextStep W q).1.until0 = (nextStep W q).2.now := by
  rcases step_spec hK hD.q hw with ⟨i, hi, _, h1, h2, h3⟩ | ⟨_, _, ⟨_, h1, h2, _, _, h3⟩ | ⟨m, hm, _, hwm, _, h3⟩⟩
  · rw [h3]
    obtain ⟨⟨a, b⟩, ⟨c, d⟩, _⟩ := hK.fb hi
    exact ⟨h2, hD.later (by omega) (by omega), rfl, rfl⟩
  · rw [h3]
    exact ⟨h1, hD.later (by omega) (by omega), rfl, rfl⟩
  · rw [h3]
    obtain ⟨r1, r2, r3, r4, r5⟩ := run_bd hK hD.q hm hwm
    obtain ⟨_, _, _, _, ⟨b8, b9⟩⟩ := hK.rb
    unfold runStep
    split
    · rename_i hf
      rcases nextFault_cases hK q.now with ⟨hc, _⟩ | ⟨i, hi, hc, hd, _⟩
      · omega
      · have := hK.fb hi
        exact ⟨by show q.now < W.nextFault q.now; omega, hD.later (by omega) (by omega), rfl, rfl⟩
    · refine ⟨by show q.now < endOf W q m; omega, ?_, rfl, rfl⟩
      have hD2 := hD.later (u := endOf W q m) (by omega) (by omega)
      refine ⟨by simpa using hD.len, hD2.now0, hD2.now1, fun i hi hi' => ?_⟩
      have hi2 : i < q.jobs.length := by simpa using hi
      by_cases him : i = m
      · subst him
        have e : (q.jobs.set i (stAfter W q i))[i]'(by simpa using hi2) = stAfter W q i := by simp
        show (0 ≤ ((q.jobs.set i (stAfter W q i))[i]'(by simpa using hi2)).progress ∧ _) ∧ _
        rw [e]
        obtain ⟨⟨a1, a2⟩, ⟨b1, b2⟩, ⟨c1, c2⟩, ⟨d1, d2⟩, ⟨e1, e2⟩, f⟩ := hD.st i hi2 hi'
        have hs := Qu.st_eq hi2
        have n0 := hD.now0
        have hmul : (endOf W q i - q.now) * W.rules.rate ≤ (endOf W q i - q.now) * 1000 := Int.mul_le_mul_of_nonneg_left b9 (by omega)
        have hmul0 : 0 ≤ (endOf W q i - q.now) * W.rules.rate := Int.mul_nonneg (by omega) b8
        refine ⟨⟨by show 0 ≤ (q.st i).progress + _; rw [hs]; omega, by show (q.st i).progress + _ ≤ _; rw [hs]; exact r3⟩, ⟨by show 0 ≤ endOf W q i; omega, by show endOf W q i ≤ _; omega⟩,
          ⟨by show 0 ≤ (q.st i).charge + _; rw [hs]; omega, by show (q.st i).charge + _ ≤ endOf W q i * 1000; rw [hs]; omega⟩, ?_, ?_, ?_⟩
        · show 0 ≤ (if doneOf W q i then _ else (q.st i).why) ∧ (if doneOf W q i then _ else (q.st i).why) ≤ 2
          rw [hs]
          split
          · split <;> omega
          · omega
        · show -1 ≤ (if doneOf W q i then _ else (q.st i).ended) ∧ (if doneOf W q i then _ else (q.st i).ended) ≤ 10000
          rw [hs]
          split <;> omega
        · show (if doneOf W q i then _ else (q.st i).why) = 0 → (q.st i).progress + minutesOf W q i < _
          rw [hs]
          cases hdn : doneOf W q i with
          | true => simp only [if_true]; split <;> (intro h; omega)
          | false =>
            intro _
            unfold doneOf at hdn
            rw [hs] at hdn
            have := beq_eq_false_iff_ne.1 hdn
            omega
      · have e : (q.jobs.set m (stAfter W q m))[i]'(by simpa using hi2) = q.jobs[i] := List.getElem_set_ne (fun h => him h.symm) _
        have := hD2.st i hi2 hi'
        show (0 ≤ ((q.jobs.set m (stAfter W q m))[i]'(by simpa using hi2)).progress ∧ _) ∧ _
        rw [e]
        exact this

/- the day, round by round -/
theorem day_stop {W : Work} {till : Int} {q : Qu} (h : (decide (q.now < till) && waits q.jobs) = false) : ∀ n, dayLoop W till n q = ([], q)
  | 0 => rfl
  | n + 1 => by simp only [dayLoop]; rw [if_neg (by rw [h]; simp)]
theorem day_go {W : Work} {till : Int} {q : Qu} (h : (decide (q.now < till) && waits q.jobs) = true) (n : Nat) : dayLoop W till (n + 1) q = ((nextStep W q).1 :: (dayLoop W till n (nextStep W q).2).1, (dayLoop W till n (nextStep W q).2).2) := by
  simp only [dayLoop]; rw [if_pos h]

/-- after some rounds: the list so far, the queue, and how many rounds there may be still -/
structure DayI (W : Work) (till : Int) (n : Nat) (l : List Spell) (q : Qu) : Prop where
  ok : DOk W q
  eq : dayLoop W till till.toNat (beginQ W) = (l ++ (dayLoop W till n q).1, (dayLoop W till n q).2)
  fuel : till - q.now ≤ n
  len : l.length + n ≤ till.toNat
theorem DayI.start {W : Work} {till : Int} (hK : WOk W) : DayI W till till.toNat [] (beginQ W) :=
  ⟨dok_begin hK, by simp, by show till - 0 ≤ _; omega, by simp⟩
theorem DayI.next {W : Work} {till : Int} {n : Nat} {l : List Spell} {q : Qu} (hK : WOk W) (ht : till ≤ 5000) (h : DayI W till n l q) (h1 : q.now < till) (h2 : waits q.jobs = true) :
    ∃ n', n = n' + 1 ∧ DayI W till n' (l ++ [(nextStep W q).1]) (nextStep W q).2 := by
  have hf := h.fuel
  obtain ⟨n', rfl⟩ : ∃ n', n = n' + 1 := ⟨n - 1, by omega⟩
  obtain ⟨s1, s2, _, _⟩ := step_ok hK h.ok h2 (by omega)
  refine ⟨n', rfl, s2, ?_, by omega, by have := h.len; simp; omega⟩
  rw [h.eq, day_go (by simp [h1, h2])]
  simp
theorem DayI.done {W : Work} {till : Int} {n : Nat} {l : List Spell} {q : Qu} (h : DayI W till n l q) (h1 : (decide (q.now < till) && waits q.jobs) = false) : dayLoop W till till.toNat (beginQ W) = (l, q) := by
  rw [h.eq, day_stop h1]; simp

end Go.Proofs.Ytbjgebbfachgfaa
/- Plain laws: the spells of a day. -/
namespace Go.Proofs.Ytbjgebbfachgfaa

theorem loop_spells {W : Work} {till : Int} (hK : WOk W) (ht : till ≤ 5000) : ∀ (n : Nat) (q : Qu), DOk W q → (dayLoop W till n q).1.length ≤ n ∧ ∀ s ∈ (dayLoop W till n q).1, 0 ≤ s.from0 ∧ s.from0 < till ∧ s.from0 < s.until0 ∧ s.until0 ≤ 10000
  | 0, q, _ => by simp [dayLoop]
  | n + 1, q, hD => by
    cases hc : (decide (q.now < till) && waits q.jobs) with
    | false => rw [day_stop hc]; simp
    | true =>
      rw [day_go hc]
      simp only [Bool.and_eq_true, decide_eq_true_eq] at hc
      obtain ⟨s1, s2, s3, s4⟩ := step_ok hK hD hc.2 (by omega)
      obtain ⟨h1, h2⟩ := loop_spells hK ht n _ s2
      refine ⟨by simp; omega, fun s hs => ?_⟩
      simp only [List.mem_cons] at hs
      rcases hs with rfl | hs
      · rw [s3, s4]
        have := hD.now0
        have := s2.now1
        exact ⟨by omega, by omega, by omega, by omega⟩
      · exact h2 s hs
theorem day_ok {W : Work} {till : Int} (h : dayErr W till = 0) : WOk W ∧ W.err = 0 ∧ 0 ≤ till ∧ till ≤ 5000 := by
  unfold dayErr at h
  by_cases he : W.err = 0
  · rw [if_pos he] at h
    by_cases hi : inb till 0 5000 = true
    · exact ⟨wok_of_err he, he, (inb_iff _ _ _).1 hi⟩
    · rw [if_neg hi] at h; cases h
  · rw [if_neg he] at h; exact absurd h he
theorem day_spells {W : Work} {till : Int} (h : dayErr W till = 0) : (day W till).1.length ≤ 5000 ∧ ∀ s ∈ (day W till).1, 0 ≤ s.from0 ∧ s.from0 < till ∧ s.from0 < s.until0 ∧ s.until0 ≤ 10000 := by
  obtain ⟨hK, _, h0, h5⟩ := day_ok h
  have := loop_spells hK h5 till.toNat (beginQ W) (dok_begin hK)
  unfold day
  rw [if_pos h]
  exact ⟨by have := this.1; omega, this.2⟩
theorem loop_dok {W : Work} {till : Int} (hK : WOk W) (ht : till ≤ 5000) : ∀ (n : Nat) (q : Qu), DOk W q → DOk W (dayLoop W till n q).2
  | 0, q, h => h
  | n + 1, q, hD => by
    cases hc : (decide (q.now < till) && waits q.jobs) with
    | false => rw [day_stop hc]; exact hD
    | true =>
      rw [day_go hc]
      simp only [Bool.and_eq_true, decide_eq_true_eq] at hc
      obtain ⟨s1, s2, _, _⟩ := step_ok hK hD hc.2 (by omega)
      exact loop_dok hK ht n _ s2
theorem day_dok {W : Work} {till : Int} (h : dayErr W till = 0) : DOk W (day W till).2 := by
  obtain ⟨hK, _, h0, h5⟩ := day_ok h
  unfold day
  rw [if_pos h]
  exact loop_dok hK h5 _ _ (dok_begin hK)

/-- what Bill returns -/
def billRes (W : Work) (till : Int) : List Int × Tot × Int := if dayErr W till = 0 then (charges (day W till).2, totals (day W till).1, 0) else ([], Tot.zero, dayErr W till)

end Go.Proofs.Ytbjgebbfachgfaa
