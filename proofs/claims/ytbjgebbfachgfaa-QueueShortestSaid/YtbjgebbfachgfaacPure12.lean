/- Plain laws: without faults all jobs end. -/
import Derived.Test.YtbjgebbfachgfaacPure10
set_option linter.unusedVariables false
set_option linter.unusedSimpArgs false
set_option linter.unusedSectionVars false
set_option linter.all false
namespace Go.Proofs.Ytbjgebbfachgfaa

/-- what a queue keeps that goes on beyond the day -/
structure EOk (W : Work) (N : Int) (q : Qu) : Prop where
  len : q.jobs.length = W.jobs.length
  now0 : 0 ≤ q.now
  now1 : q.now ≤ N
  st : ∀ i, i < q.jobs.length → (0 ≤ (q.st i).progress ∧ (q.st i).progress ≤ (W.job i).fin) ∧ (0 ≤ (q.st i).since ∧ (q.st i).since ≤ N) ∧ (0 ≤ (q.st i).charge ∧ (q.st i).charge ≤ q.now * 1000) ∧ (0 ≤ (q.st i).why ∧ (q.st i).why ≤ 2) ∧ (-1 ≤ (q.st i).ended ∧ (q.st i).ended ≤ N) ∧ ((q.st i).why = 0 → (q.st i).progress < (W.job i).fin)

theorem EOk.q {W : Work} {N : Int} {q : Qu} (h : EOk W N q) (hN : N ≤ 1000000) : QOk W q := by
  refine ⟨h.len, h.now0, by have := h.now1; omega, fun i hi hi' => ?_⟩
  have hs := h.st i hi
  rw [Qu.st_eq hi, Work.job_eq hi'] at hs
  obtain ⟨⟨a1, a2⟩, ⟨b1, b2⟩, ⟨c1, c2⟩, ⟨d1, d2⟩, ⟨e1, e2⟩, f⟩ := hs
  have := h.now1
  unfold stOk
  simp only [Bool.and_eq_true, inb_iff, Bool.not_eq_true', Bool.and_eq_false_iff, beq_eq_false_iff_ne]
  refine ⟨⟨⟨⟨⟨⟨a1, a2⟩, ⟨b1, by omega⟩⟩, ⟨c1, by omega⟩⟩, ⟨d1, d2⟩⟩, ⟨e1, by omega⟩⟩, ?_⟩
  by_cases hw : q.jobs[i].why = 0
  · exact .inr (by have := f hw; omega)
  · exact .inl hw
theorem QOk.err {W : Work} {q : Qu} (hQ : QOk W q) (he : W.err = 0) : nextErr W q = if waits q.jobs = false then 9 else 0 := by
  unfold nextErr quErr
  rw [if_pos he, if_neg (by simp [hQ.len]), if_neg (by have := hQ.now0; have := hQ.now1; simp [inb]; omega), if_neg]
  rintro ⟨i, hi, hb⟩
  have hi' : i < W.jobs.length := by rw [← hQ.len]; exact hi
  have := hQ.st i hi hi'
  rw [Work.job_eq hi', Qu.st_eq hi, this] at hb
  cases hb

theorem eok_begin {W : Work} (hK : WOk W) : EOk W 5000 (beginQ W) := by
  have hl : (beginQ W).jobs.length = W.jobs.length := by simp [beginQ]
  refine ⟨hl, Int.le_refl _, by show (0 : Int) ≤ 5000; omega, fun i hi => ?_⟩
  have hi' : i < W.jobs.length := by omega
  rw [begin_st hi', Work.job_eq hi']
  obtain ⟨⟨a, b⟩, _⟩ := hK.jb hi'
  have := Job.fin_bd (hK.job i hi')
  refine ⟨⟨by simp, by simp; omega⟩, ⟨by simpa using a, by simp; omega⟩, ⟨by simp, by simp [beginQ]⟩, by simp, by simp, fun _ => by simp; omega⟩

/- how much there is to do -/
def potOne (W : Work) (q : Qu) (i : Nat) : Int := if (q.st i).why = 0 then ((W.job i).fin - (q.st i).progress + 49) / 50 + (if q.now < (W.job i).arrive then 1 else 0) else 0
def potOf (W : Work) (q : Qu) : Int := ((List.range q.jobs.length).map (potOne W q)).sum

theorem div50 {a b : Int} (h : a + 50 ≤ b) : (a + 49) / 50 + 1 ≤ (b + 49) / 50 := by omega
theorem div50' {a : Int} (h : 0 < a) : 1 ≤ (a + 49) / 50 := by omega

theorem sum_lt {g g' : Nat → Int} {n m : Nat} (hm : m < n) (h : ∀ i, i < n → g' i ≤ g i) (h1 : g' m + 1 ≤ g m) : ((List.range n).map g').sum + 1 ≤ ((List.range n).map g).sum :=
  sum_gain (fun i hi => h i (by simpa using hi)) m (by simpa using hm) h1
theorem sum_nn {g : Nat → Int} {n : Nat} (h : ∀ i, i < n → 0 ≤ g i) : 0 ≤ ((List.range n).map g).sum := by
  have := sum_le (l := List.range n) (g := fun _ => 0) (g' := g) (fun i hi => h i (by simpa using hi))
  have e : ∀ l : List Nat, (l.map fun _ => (0 : Int)).sum = 0 := by
    intro l; induction l with
    | nil => rfl
    | cons x l ih => simp only [List.map_cons, List.sum_cons, ih]; rfl
  rw [e] at this; exact this
theorem sum_bd {g : Nat → Int} {n : Nat} {c : Int} (h : ∀ i, i < n → g i ≤ c) : ((List.range n).map g).sum ≤ n * c := by
  have := sum_le (l := List.range n) (g := g) (g' := fun _ => c) (fun i hi => h i (by simpa using hi))
  have e : ∀ l : List Nat, (l.map fun _ => c).sum = l.length * c := by
    intro l; induction l with
    | nil => simp
    | cons x l ih =>
      simp only [List.map_cons, List.sum_cons, ih, List.length_cons]
      rw [show ((l.length + 1 : Nat) : Int) = l.length + 1 by simp, Int.add_mul, Int.one_mul]; omega
  rw [e, List.length_range] at this; exact this

theorem pot_nn {W : Work} {N : Int} {q : Qu} (h : EOk W N q) : 0 ≤ potOf W q := by
  refine sum_nn fun i hi => ?_
  unfold potOne
  split
  · have := (h.st i hi).1
    split <;> omega
  · omega
theorem pot_begin {W : Work} (hK : WOk W) (hF : ∀ i, i < W.jobs.length → (W.job i).fin ≤ 200) : potOf W (beginQ W) ≤ 60 := by
  have hl : (beginQ W).jobs.length = W.jobs.length := by simp [beginQ]
  have : potOf W (beginQ W) ≤ (beginQ W).jobs.length * 5 := by
    refine sum_bd fun i hi => ?_
    have hi' : i < W.jobs.length := by omega
    have := hF i hi'
    unfold potOne
    rw [begin_st hi']
    simp only [if_true]
    split <;> omega
  have h2 := hK.jl
  omega

theorem ends_step {W : Work} {N : Int} {q : Qu} (hK : WOk W) (h0 : W.faults = []) (hS : 50 ≤ W.rules.slice) (hN : 5000 ≤ N) (hN2 : N ≤ 900000) (hE : EOk W N q) (hw : waits q.jobs = true) :
    q.now < (nextStep W q).2.now ∧ EOk W (N + 700) (nextStep W q).2 ∧ potOf W (nextStep W q).2 + 1 ≤ potOf W q := by
  have hQ := hE.q (by omega)
  have hup : ∀ u, q.now ≤ u → u ≤ N + 700 → EOk W (N + 700) ⟨u, q.jobs⟩ := by
    intro u h1 h2
    refine ⟨hE.len, by have := hE.now0; show 0 ≤ u; omega, h2, fun i hi => ?_⟩
    obtain ⟨a, ⟨b1, b2⟩, ⟨c1, c2⟩, d, ⟨e1, e2⟩, f⟩ := hE.st i hi
    exact ⟨a, ⟨b1, by show (q.st i).since ≤ _; omega⟩, ⟨c1, Int.le_trans c2 (show q.now * 1000 ≤ u * 1000 by omega)⟩, d, ⟨e1, by show (q.st i).ended ≤ _; omega⟩, f⟩
  have hn0 := hE.now0
  have hn1 := hE.now1
  have hlen := hE.len
  rcases step_spec hK hQ hw with ⟨j, hj, _, _, _, _⟩ | ⟨_, _, ⟨_, h1, h2, h4, h5, h3⟩ | ⟨m, hm, htk, hwm, har, h3⟩⟩
  · rw [h0] at hj; simp at hj
  · rw [h3]
    refine ⟨h1, hup _ (by omega) (by omega), ?_⟩
    -- some job arrives at its end
    have hin : ∀ i, (q.st i).why = 0 → 0 ≤ (W.job i).arrive := by
      intro i hwi
      rcases Nat.lt_or_ge i W.jobs.length with h | h
      · rw [Work.job_eq h]; exact (hK.jb h).1.1
      · have : W.job i = Job.zero := by unfold Work.job; rw [List.getD_eq_getElem?_getD, List.getElem?_eq_none h]; rfl
        rw [this]; decide
    have hnf : W.nextFault q.now = -1 := by unfold Work.nextFault; rw [h0]; rfl
    obtain ⟨i, hi, hwi, hb⟩ : ∃ i, i < q.jobs.length ∧ (q.st i).why = 0 ∧ (W.job i).arrive = idleUpto W q q.jobs.length := by
      rcases idleUpto_spec W q hin q.jobs.length with ⟨_, hn, _⟩ | ⟨_, hh, _, _⟩
      · obtain ⟨i0, hi0, hw0⟩ := wait_ex hw
        exact absurd (by rw [Qu.st_eq hi0]; exact hw0) (hn i0 hi0)
      · rcases hh with ⟨ha, hb⟩ | ⟨i, hi, hwi, hb⟩
        · rw [hnf] at ha; first | (exact absurd ha (by decide)) | omega
        · exact ⟨i, hi, hwi, hb⟩
    show ((List.range q.jobs.length).map (potOne W ⟨idleUpto W q q.jobs.length, q.jobs⟩)).sum + 1 ≤ ((List.range q.jobs.length).map (potOne W q)).sum
    refine sum_lt hi (fun i _ => ?_) ?_
    · unfold potOne
      simp only [st_now]
      by_cases hz : (q.st i).why = 0
      · simp only [hz, if_true]; split <;> split <;> omega
      · simp only [hz, if_false]; omega
    · unfold potOne
      simp only [st_now]
      simp only [hwi, if_true]
      rw [if_neg (by omega), if_pos (by omega)]
      omega
  · rw [h3]
    obtain ⟨r1, r2, r3, r4, r5⟩ := run_bd hK hQ hm hwm
    obtain ⟨_, _, _, _, ⟨b8, b9⟩⟩ := hK.rb
    have hnf : W.nextFault q.now = -1 := by unfold Work.nextFault; rw [h0]; rfl
    unfold runStep
    rw [if_neg (by omega)]
    have hwst : (q.st m).why = 0 := by rw [Qu.st_eq hm]; exact hwm
    have hms : (q.st m).progress + minutesOf W q m = (W.job m).fin ∨ minutesOf W q m = W.rules.slice := by
      unfold minutesOf; split
      · left; omega
      · right; rfl
    have hr3 : (q.st m).progress + minutesOf W q m ≤ (W.job m).fin := by rw [Qu.st_eq hm]; exact r3
    have hnd : doneOf W q m = false → minutesOf W q m = W.rules.slice ∧ (q.st m).progress + minutesOf W q m < (W.job m).fin := by
      intro hd
      unfold doneOf at hd
      have := beq_eq_false_iff_ne.1 hd
      rcases hms with h | h
      · exact absurd h this
      · exact ⟨h, by omega⟩
    have hdw : doneOf W q m = true → (stAfter W q m).why ≠ 0 := by
      intro hd
      show (if doneOf W q m then _ else _) ≠ _
      rw [hd]; simp only [if_true]; split <;> decide
    refine ⟨by show q.now < endOf W q m; omega, ⟨by simpa using hlen, by show 0 ≤ endOf W q m; omega, by show endOf W q m ≤ _; omega, fun i hi => ?_⟩, ?_⟩
    · have hi' : i < q.jobs.length := by simpa using hi
      rw [st_set hm]
      split
      · rename_i e; subst e
        obtain ⟨⟨a1, a2⟩, ⟨b1, b2⟩, ⟨c1, c2⟩, ⟨d1, d2⟩, ⟨e1, e2⟩, f⟩ := hE.st i hi'
        have hmul : (endOf W q i - q.now) * W.rules.rate ≤ (endOf W q i - q.now) * 1000 := Int.mul_le_mul_of_nonneg_left b9 (by omega)
        have hmul0 : 0 ≤ (endOf W q i - q.now) * W.rules.rate := Int.mul_nonneg (by omega) b8
        refine ⟨⟨by show 0 ≤ (q.st i).progress + _; omega, hr3⟩, ⟨by show 0 ≤ endOf W q i; omega, by show endOf W q i ≤ _; omega⟩,
          ⟨by show 0 ≤ (q.st i).charge + _; omega, by show (q.st i).charge + _ ≤ endOf W q i * 1000; omega⟩, ?_, ?_, ?_⟩
        · show 0 ≤ (if doneOf W q i then _ else (q.st i).why) ∧ (if doneOf W q i then _ else (q.st i).why) ≤ 2
          split
          · split <;> omega
          · omega
        · show -1 ≤ (if doneOf W q i then _ else (q.st i).ended) ∧ (if doneOf W q i then _ else (q.st i).ended) ≤ _
          split <;> omega
        · intro hz
          cases hd : doneOf W q i with
          | true => exact absurd hz (hdw hd)
          | false => exact (hnd hd).2
      · obtain ⟨a, ⟨b1, b2⟩, ⟨c1, c2⟩, d, ⟨e1, e2⟩, f⟩ := hE.st i hi'
        exact ⟨a, ⟨b1, by omega⟩, ⟨c1, Int.le_trans c2 (show q.now * 1000 ≤ endOf W q m * 1000 by omega)⟩, d, ⟨e1, by omega⟩, f⟩
    · unfold potOf
      rw [show (⟨endOf W q m, q.jobs.set m (stAfter W q m)⟩ : Qu).jobs.length = q.jobs.length by simp]
      have hE1 := (hE.st m hm).2.2.2.2.2 hwst
      have hm' : potOne W ⟨endOf W q m, q.jobs.set m (stAfter W q m)⟩ m + 1 ≤ potOne W q m := by
        unfold potOne
        rw [st_set hm]
        simp only [if_true, hwst]
        have ha1 : ¬ endOf W q m < (W.job m).arrive := by omega
        have ha2 : ¬ q.now < (W.job m).arrive := by omega
        have hp : (stAfter W q m).progress = (q.st m).progress + minutesOf W q m := rfl
        by_cases hz : (stAfter W q m).why = 0
        · cases hd : doneOf W q m with
          | true => exact absurd hz (hdw hd)
          | false =>
            obtain ⟨n1, n2⟩ := hnd hd
            simp only [hz, if_true, ha1, ha2, if_false, hp]
            omega
        · simp only [hz, ha2, if_false]; omega
      refine sum_lt hm (fun i hi => ?_) hm'
      by_cases him : i = m
      · subst him; have h9 := hm'; show potOne W ⟨endOf W q i, q.jobs.set i (stAfter W q i)⟩ i ≤ _; omega
      · unfold potOne
        rw [st_set hm]
        simp only [him, if_false]
        by_cases hz : (q.st i).why = 0
        · simp only [hz, if_true]
          by_cases c1 : endOf W q m < (W.job i).arrive
          · have c2 : q.now < (W.job i).arrive := by omega
            simp only [c1, c2, if_true]; omega
          · simp only [c1, if_false]; split <;> omega
        · simp only [hz, if_false]; omega

end Go.Proofs.Ytbjgebbfachgfaa
