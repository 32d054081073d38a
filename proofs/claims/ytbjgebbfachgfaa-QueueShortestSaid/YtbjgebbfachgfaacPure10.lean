/- Plain laws: what jobs are charged. -/
import Derived.Test.YtbjgebbfachgfaacPure9
set_option linter.unusedVariables false
set_option linter.unusedSimpArgs false
set_option linter.unusedSectionVars false
set_option linter.all false
namespace Go.Proofs.Ytbjgebbfachgfaa

theorem loop_inv {W : Work} {till : Int} (hK : WOk W) (ht : till ≤ 5000) (I : List Spell → Qu → Prop)
    (hs : ∀ l q, DOk W q → waits q.jobs = true → q.now < till → I l q → I (l ++ [(nextStep W q).1]) (nextStep W q).2) :
    ∀ (n : Nat) (l : List Spell) (q : Qu), DOk W q → I l q → I (l ++ (dayLoop W till n q).1) (dayLoop W till n q).2
  | 0, l, q, _, h => by simpa [dayLoop] using h
  | n + 1, l, q, hD, h => by
    cases hc : (decide (q.now < till) && waits q.jobs) with
    | false => rw [day_stop hc]; simpa using h
    | true =>
      rw [day_go hc]
      simp only [Bool.and_eq_true, decide_eq_true_eq] at hc
      obtain ⟨_, s2, _, _⟩ := step_ok hK hD hc.2 (by omega)
      have := loop_inv hK ht I hs n _ _ s2 (hs l q hD hc.2 hc.1 h)
      simpa using this
theorem day_inv {W : Work} {till : Int} (h : dayErr W till = 0) (I : List Spell → Qu → Prop) (h0 : I [] (beginQ W))
    (hs : ∀ l q, DOk W q → waits q.jobs = true → q.now < till → I l q → I (l ++ [(nextStep W q).1]) (nextStep W q).2) : I (day W till).1 (day W till).2 := by
  obtain ⟨hK, _, _, t5⟩ := day_ok h
  unfold day
  rw [if_pos h]
  have := loop_inv hK t5 I hs till.toNat [] (beginQ W) (dok_begin hK) h0
  simpa using this

/- one job -/
def JobI (W : Work) (i : Nat) (s : St) : Prop :=
  (s.why = 0 → ∃ k : Int, 0 ≤ k ∧ s.progress = k * W.rules.slice ∧ s.charge = k * W.rules.turn * W.rules.rate) ∧
  (s.why ≠ 0 → s.charge = quote W.rules (W.job i) ∧ s.progress = (W.job i).fin ∧ (s.why = 1 ↔ (W.job i).needs ≤ (W.job i).claim))

theorem quote_eq {W : Work} (hK : WOk W) {i : Nat} (hi : i < W.jobs.length) {k left : Int} (h0 : 0 ≤ k) (h1 : 1 ≤ left) (h2 : left ≤ W.rules.slice) (hf : (W.job i).fin = k * W.rules.slice + left) :
    quote W.rules (W.job i) = (k * W.rules.turn + W.rules.load + left) * W.rules.rate := by
  have hs := hK.rb.1
  have hn : (W.job i).numOk = true := by rw [Work.job_eq hi]; exact hK.job i hi
  have hd : ((W.job i).fin - 1) / W.rules.slice = k := by
    rw [hf, show k * W.rules.slice + left - 1 = (left - 1) + k * W.rules.slice by omega, Int.add_mul_ediv_right _ _ (by omega), Int.ediv_eq_zero_of_lt (by omega) (by omega)]
    omega
  unfold quote
  rw [hK.rules, hn]
  simp only [Bool.and_self, if_true]
  rw [hd, hf]
  congr 1
  unfold Rules.turn
  rw [Int.mul_add, Int.mul_add, Int.add_mul]
  omega

theorem jobI_begin {W : Work} {i : Nat} (hi : i < W.jobs.length) : JobI W i ((beginQ W).st i) := by
  rw [begin_st hi]
  exact ⟨fun _ => ⟨0, by omega, by simp, by simp⟩, fun h => absurd rfl h⟩

theorem jobI_after {W : Work} {q : Qu} (hK : WOk W) (hD : DOk W q) {m : Nat} (hm : m < q.jobs.length) (hwm : q.jobs[m].why = 0) (hI : JobI W m (q.st m)) : JobI W m (stAfter W q m) := by
  obtain ⟨r1, r2, r3, r4, r5⟩ := run_bd hK hD.q hm hwm
  have hml : m < W.jobs.length := by have := hD.len; omega
  have hw : (q.st m).why = 0 := by rw [Qu.st_eq hm]; exact hwm
  obtain ⟨k, k0, hp, hc⟩ := hI.1 hw
  have hms := mins_le (W := W) (q := q) m
  have hsl := hK.rb.1
  cases hd : doneOf W q m with
  | false =>
    have hmin : minutesOf W q m = W.rules.slice := by
      unfold doneOf at hd
      have hne := beq_eq_false_iff_ne.1 hd
      unfold minutesOf at hne ⊢
      split
      · rename_i h; rw [if_pos h] at hne; omega
      · rfl
    have hend : endOf W q m - q.now = W.rules.turn := by
      unfold endOf Rules.turn; rw [hd, hmin]; simp; omega
    refine ⟨fun _ => ⟨k + 1, by omega, ?_, ?_⟩, fun h => absurd ?_ h⟩
    · show (q.st m).progress + minutesOf W q m = _
      rw [hp, hmin, Int.add_mul, Int.one_mul]
    · show (q.st m).charge + (endOf W q m - q.now) * W.rules.rate = _
      rw [hc, hend, Int.add_mul, Int.add_mul, Int.one_mul]
    · show (if doneOf W q m then _ else (q.st m).why) = 0
      rw [hd]; simpa using hw
  | true =>
    have hd' : (q.st m).progress + minutesOf W q m = (W.job m).fin := by unfold doneOf at hd; simpa using hd
    have hend : endOf W q m - q.now = W.rules.load + minutesOf W q m := by
      unfold endOf; rw [hd]; simp; omega
    have hwhy : (stAfter W q m).why = if (W.job m).fin == (W.job m).needs then 1 else 2 := by
      show (if doneOf W q m then _ else (q.st m).why) = _
      rw [hd]; rfl
    refine ⟨fun h => ?_, fun _ => ⟨?_, hd', ?_⟩⟩
    · rw [hwhy] at h; split at h <;> omega
    · show (q.st m).charge + (endOf W q m - q.now) * W.rules.rate = _
      rw [hc, hend, quote_eq hK hml k0 r1 hms (by rw [← hd', hp]), ← Int.add_mul]
      congr 1; omega
    · rw [hwhy]
      unfold Job.fin
      by_cases h : (W.job m).needs < (W.job m).claim
      · simp [h]; omega
      · by_cases h2 : (W.job m).claim = (W.job m).needs
        · simp [h2]
        · simp [h, h2]; omega

/- all of them, and the machine -/
theorem sum_set : ∀ (l : List St) (m : Nat) (x : St) (h : m < l.length), ((l.set m x).map St.charge).sum = (l.map St.charge).sum - l[m].charge + x.charge
  | [], m, x, h => by simp at h
  | a :: l, 0, x, h => by simp; omega
  | a :: l, m + 1, x, h => by
    have := sum_set l m x (by simpa using h)
    simp only [List.set_cons_succ, List.map_cons, List.sum_cons, List.getElem_cons_succ, this]; omega

structure ChI (W : Work) (l : List Spell) (q : Qu) : Prop where
  job : ∀ i, i < q.jobs.length → JobI W i (q.st i)
  len : q.jobs.length = W.jobs.length
  sum : (charges q).sum = (totals l).run * W.rules.rate
  all : (totals l).run + (totals l).lost + (totals l).repair + (totals l).idle = q.now
  last : q.now = match l.getLast? with | some s => s.until0 | none => 0

theorem totals_app (l : List Spell) (s : Spell) : totals (l ++ [s]) = totAdd (totals l) s := by unfold totals; rw [List.foldl_append]; rfl
theorem chI_begin {W : Work} : ChI W [] (beginQ W) := by
  refine ⟨fun i hi => jobI_begin (by simpa [beginQ] using hi), by simp [beginQ], ?_, rfl, rfl⟩
  show ((W.jobs.map fun j => (⟨0, j.arrive, 0, 0, -1⟩ : St)).map St.charge).sum = 0 * W.rules.rate
  rw [Int.zero_mul]
  generalize W.jobs = l
  induction l with
  | nil => rfl
  | cons x l ih => simp only [List.map_cons, List.sum_cons] at ih ⊢; rw [ih]; rfl

theorem chI_step {W : Work} {l : List Spell} {q : Qu} (hK : WOk W) (hD : DOk W q) (hw : waits q.jobs = true) (hI : ChI W l q) : ChI W (l ++ [(nextStep W q).1]) (nextStep W q).2 := by
  have hlast : ∀ s : Spell, (l ++ [s]).getLast? = some s := fun s => by simp
  have hsum := hI.sum
  have hall := hI.all
  rcases step_spec hK hD.q hw with ⟨j, hj, _, h1, h2, h3⟩ | ⟨_, _, ⟨_, h1, h2, h4, _, h3⟩ | ⟨m, hm, htk, hwm, har, h3⟩⟩
  · rw [h3]
    refine ⟨hI.job, hI.len, ?_, ?_, by rw [hlast]⟩
    · rw [totals_app]; exact hsum
    · rw [totals_app]; simp [totAdd, inb]; omega
  · rw [h3]
    refine ⟨hI.job, hI.len, ?_, ?_, by rw [hlast]⟩
    · rw [totals_app]; exact hsum
    · rw [totals_app]; simp [totAdd, inb]; omega
  · rw [h3]
    unfold runStep
    split
    · refine ⟨hI.job, hI.len, ?_, ?_, by rw [hlast]⟩
      · rw [totals_app]; exact hsum
      · rw [totals_app]; simp [totAdd, inb]; omega
    · have hk := kind_le (W := W) (q := q) m
      have hin : inb (kindOf W q m) 1 3 = true := (inb_iff _ _ _).2 hk
      have k4 : (kindOf W q m == 4) = false := by simp; omega
      have k5 : (kindOf W q m == 5) = false := by simp; omega
      have k6 : (kindOf W q m == 6) = false := by simp; omega
      refine ⟨fun i hi => ?_, by simpa using hI.len, ?_, ?_, by rw [hlast]⟩
      · have hi' : i < q.jobs.length := by simpa using hi
        rw [st_set hm]
        split
        · rename_i e; subst e; exact jobI_after hK hD hm hwm (hI.job i hm)
        · exact hI.job i hi'
      · rw [totals_app]
        show ((q.jobs.set m (stAfter W q m)).map St.charge).sum = _
        rw [sum_set _ _ _ hm]
        have e1 : (charges q).sum = (q.jobs.map St.charge).sum := rfl
        have e2 : q.jobs[m] = q.st m := (Qu.st_eq hm).symm
        have e3 : (stAfter W q m).charge = (q.st m).charge + (endOf W q m - q.now) * W.rules.rate := rfl
        simp only [totAdd, hin, if_true]
        rw [Int.add_mul, e2, e3, ← e1, hsum]
        omega
      · rw [totals_app]
        simp only [totAdd, hin, k4, k5, k6, if_true, Bool.false_eq_true, if_false]
        omega
theorem day_charges {W : Work} {till : Int} (h : dayErr W till = 0) : ChI W (day W till).1 (day W till).2 := by
  obtain ⟨hK, _, _, _⟩ := day_ok h
  exact day_inv h _ chI_begin fun l q hD hw _ hI => chI_step hK hD hw hI

end Go.Proofs.Ytbjgebbfachgfaa
