/- Plain laws: a day up to a lesser minute; what a day's steps keep of each job; who is taken. -/
import Derived.Test.YtbjgebbfachgfaacJ8
set_option linter.unusedVariables false
set_option linter.unusedSimpArgs false
set_option linter.unusedSectionVars false
set_option linter.all false
namespace Go.Proofs.Ytbjgebbfachgfaa

theorem loop_less {W : Work} {till k : Int} (hK : WOk W) (ht : till ≤ 5000) (hk : k ≤ till) : ∀ (n m : Nat) (q : Qu), DOk W q → till - q.now ≤ n → k - q.now ≤ m →
    ∃ r, (dayLoop W till n q).1 = (dayLoop W k m q).1 ++ r ∧ ∀ s rs, r = s :: rs → k ≤ s.from0
  | 0, m, q, _, h1, _ => by
    have hc : (decide (q.now < k) && waits q.jobs) = false := by
      have : ¬ q.now < k := by omega
      simp [this]
    rw [day_stop hc]
    exact ⟨[], by simp [dayLoop], fun s rs h => by cases h⟩
  | n + 1, m, q, hD, h1, h2 => by
    cases hc : (decide (q.now < till) && waits q.jobs) with
    | false =>
      have hc' : (decide (q.now < k) && waits q.jobs) = false := by
        cases hw : waits q.jobs with
        | false => simp
        | true =>
          rw [hw] at hc; simp at hc
          have : ¬ q.now < k := by omega
          simp [this]
      rw [day_stop hc, day_stop hc']
      exact ⟨[], rfl, fun s rs h => by cases h⟩
    | true =>
      rw [day_go hc]
      simp only [Bool.and_eq_true, decide_eq_true_eq] at hc
      obtain ⟨s1, s2, s3, _⟩ := step_ok hK hD hc.2 (by omega)
      by_cases hq : q.now < k
      · obtain ⟨m', rfl⟩ : ∃ m', m = m' + 1 := ⟨m - 1, by omega⟩
        rw [day_go (show (decide (q.now < k) && waits q.jobs) = true by simp [hq, hc.2])]
        obtain ⟨r, e, f⟩ := loop_less hK ht hk n m' _ s2 (by omega) (by omega)
        exact ⟨r, by simp [e], f⟩
      · rw [day_stop (show (decide (q.now < k) && waits q.jobs) = false by simp [hq])]
        refine ⟨_, rfl, fun s rs h => ?_⟩
        simp only [List.cons.injEq] at h
        obtain ⟨rfl, _⟩ := h
        rw [s3]; omega

theorem begin_now (W : Work) : (beginQ W).now = 0 := rfl
/-- Day up to a lesser minute gives the first of the spells -/
theorem day_less {W : Work} {till k : Int} (h : dayErr W till = 0) (h0 : 0 ≤ k) (hk : k ≤ till) :
    dayErr W k = 0 ∧ ∃ r, (day W till).1 = (day W k).1 ++ r ∧ ∀ s rs, r = s :: rs → k ≤ s.from0 := by
  obtain ⟨hK, he, t0, t5⟩ := day_ok h
  have hE : dayErr W k = 0 := by unfold dayErr; rw [if_pos he, if_pos (by rw [inb_iff]; omega)]
  refine ⟨hE, ?_⟩
  unfold day
  rw [if_pos h, if_pos hE]
  exact loop_less hK t5 hk _ _ _ (dok_begin hK) (by rw [begin_now]; omega) (by rw [begin_now]; omega)

/-- the queue of a day goes on -/
theorem DOk.err {W : Work} {q : Qu} (hD : DOk W q) (he : W.err = 0) (hw : waits q.jobs = true) : nextErr W q = 0 := by
  unfold nextErr quErr
  have hQ := hD.q
  rw [if_pos he, if_neg (by simp [hQ.len]), if_neg (by have := hQ.now0; have := hQ.now1; simp [inb]; omega), if_neg, if_neg (by simp [hw])]
  rintro ⟨i, hi, hb⟩
  have hi' : i < W.jobs.length := by rw [← hQ.len]; exact hi
  have := hQ.st i hi hi'
  rw [Work.job_eq hi', Qu.st_eq hi, this] at hb
  cases hb
theorem DOk.res {W : Work} {q : Qu} (hD : DOk W q) (he : W.err = 0) (hw : waits q.jobs = true) : nextRes W q = ((nextStep W q).1, (nextStep W q).2, 0) := by
  unfold nextRes; rw [if_pos (hD.err he hw)]

/-- who is taken is overdue, and waits since as early, if one is overdue -/
theorem tk_due {W : Work} {q : Qu} : ∀ (k m : Nat), takenUpto W q k = (m : Int) → ∀ i, i < k → overdue W q i = true → overdue W q m = true ∧ (q.st m).since ≤ (q.st i).since
  | 0, m, h, i, hi, _ => by omega
  | k + 1, m, h, i, hi, hd => by
    have hcd : ∀ i, overdue W q i = true → cand W q i = true := by
      intro i h; unfold overdue at h; unfold cand; simp only [Bool.and_eq_true] at h ⊢; exact h.1
    simp only [takenUpto] at h
    by_cases hn : takenUpto W q k < 0
    · -- none so far
      have hn1 : takenUpto W q k = -1 := by
        rcases taken_range W q k with h | ⟨m', _, h⟩
        · exact h
        · omega
      have hno := tk_none k hn1
      split at h
      · have : k = m := by omega
        subst this
        rcases Nat.lt_or_ge i k with hik | hik
        · exact absurd (hcd i hd) (by simp [hno i hik])
        · obtain rfl : i = k := by omega
          exact ⟨hd, Int.le_refl _⟩
      · rw [h] at hn1; omega
    · obtain ⟨b, hb⟩ : ∃ b : Nat, takenUpto W q k = (b : Int) := ⟨(takenUpto W q k).toNat, by omega⟩
      have ih := tk_due k b hb
      rw [hb] at h
      simp only [Int.toNat_natCast] at h
      have hnb : decide ((b : Int) < 0) = false := by simp
      simp only [hnb, Bool.false_or] at h
      split at h
      · rename_i hc
        have : k = m := by omega
        subst this
        simp only [Bool.and_eq_true] at hc
        have hbf := hc.2
        unfold before at hbf
        rcases Nat.lt_or_ge i k with hik | hik
        · obtain ⟨i1, i2⟩ := ih i hik hd
          by_cases ho : overdue W q k = true
          · rw [ho, i1] at hbf
            simp at hbf
            exact ⟨ho, by omega⟩
          · have ho' : overdue W q k = false := by simpa using ho
            rw [ho', i1] at hbf
            simp at hbf
        · obtain rfl : i = k := by omega
          exact ⟨hd, Int.le_refl _⟩
      · rename_i hc
        have : b = m := by omega
        subst this
        rcases Nat.lt_or_ge i k with hik | hik
        · exact ih i hik hd
        · obtain rfl : i = k := by omega
          have hbf : before W q i b = false := by
            rw [hcd i hd] at hc; simpa using hc
          unfold before at hbf
          by_cases ho : overdue W q b = true
          · rw [hd, ho] at hbf
            simp at hbf
            exact ⟨ho, by omega⟩
          · have ho' : overdue W q b = false := by simpa using ho
            rw [hd, ho'] at hbf
            simp at hbf

end Go.Proofs.Ytbjgebbfachgfaa
