/- Plain laws: what a step keeps of each job; how long a job waits; what it is charged. -/
import Derived.Test.YtbjgebbfachgfaacPure8
set_option linter.unusedVariables false
set_option linter.unusedSimpArgs false
set_option linter.unusedSectionVars false
set_option linter.all false
namespace Go.Proofs.Ytbjgebbfachgfaa

theorem st_set {q : Qu} {u : Int} {m i : Nat} {x : St} (hm : m < q.jobs.length) : (⟨u, q.jobs.set m x⟩ : Qu).st i = if i = m then x else q.st i := by
  unfold Qu.st
  simp only [List.getD_eq_getElem?_getD, List.getElem?_set]
  by_cases h : m = i
  · subst h; simp [hm]
  · have h' : ¬ i = m := fun e => h e.symm
    simp [h, h']
theorem st_now {q : Qu} {u : Int} {i : Nat} : (⟨u, q.jobs⟩ : Qu).st i = q.st i := rfl
theorem mins_le {W : Work} {q : Qu} (m : Nat) : minutesOf W q m ≤ W.rules.slice := by unfold minutesOf; split <;> omega
theorem kind_le {W : Work} {q : Qu} (m : Nat) : 1 ≤ kindOf W q m ∧ kindOf W q m ≤ 3 := by unfold kindOf; split <;> (try split) <;> omega

/- each job, at a step -/
theorem step_kept {W : Work} {q : Qu} (hK : WOk W) (hD : DOk W q) (hw : waits q.jobs = true) (i : Nat) (hi : i < q.jobs.length) :
    (q.st i).progress ≤ ((nextStep W q).2.st i).progress ∧ (q.st i).charge ≤ ((nextStep W q).2.st i).charge ∧
    (q.st i ≠ (nextStep W q).2.st i → (i : Int) = (nextStep W q).1.job ∧ (nextStep W q).1.kind ≤ 3 ∧ (q.st i).why = 0) ∧
    ((nextStep W q).1.kind ≤ 3 → (i : Int) = (nextStep W q).1.job → ((nextStep W q).2.st i).progress - (q.st i).progress ≤ W.rules.slice) := by
  rcases step_spec hK hD.q hw with ⟨j, hj, _, h1, h2, h3⟩ | ⟨_, _, ⟨_, h1, h2, _, _, h3⟩ | ⟨m, hm, _, hwm, _, h3⟩⟩
  · rw [h3]; simp only [st_now]
    exact ⟨Int.le_refl _, Int.le_refl _, fun h => absurd rfl h, fun h => absurd h (by decide)⟩
  · rw [h3]; simp only [st_now]
    exact ⟨Int.le_refl _, Int.le_refl _, fun h => absurd rfl h, fun h => absurd h (by decide)⟩
  · rw [h3]
    obtain ⟨r1, r2, r3, r4, r5⟩ := run_bd hK hD.q hm hwm
    obtain ⟨_, _, _, _, ⟨b8, b9⟩⟩ := hK.rb
    unfold runStep
    split
    · simp only [st_now]
      exact ⟨Int.le_refl _, Int.le_refl _, fun h => absurd rfl h, fun h => absurd h (by decide)⟩
    · simp only [st_set hm]
      by_cases him : i = m
      · subst him
        rw [if_pos rfl]
        have hmul0 : 0 ≤ (endOf W q i - q.now) * W.rules.rate := Int.mul_nonneg (by omega) b8
        refine ⟨by show _ ≤ (q.st i).progress + _; omega, by show _ ≤ (q.st i).charge + _; omega, fun _ => ⟨rfl, (kind_le i).2, by rw [Qu.st_eq hm]; exact hwm⟩, fun _ _ => ?_⟩
        show (q.st i).progress + minutesOf W q i - (q.st i).progress ≤ _
        have := mins_le (W := W) (q := q) i
        omega
      · rw [if_neg him]
        refine ⟨Int.le_refl _, Int.le_refl _, fun h => absurd rfl h, fun _ h => absurd (by exact_mod_cast h) him⟩
theorem step_len {W : Work} {q : Qu} (hK : WOk W) (hD : DOk W q) (hw : waits q.jobs = true) : (nextStep W q).2.jobs.length = q.jobs.length := by
  rcases step_spec hK hD.q hw with ⟨j, hj, _, h1, h2, h3⟩ | ⟨_, _, ⟨_, h1, h2, _, _, h3⟩ | ⟨m, hm, _, hwm, _, h3⟩⟩
  · rw [h3]
  · rw [h3]
  · rw [h3]; unfold runStep; split <;> simp

/-- fairness at a step -/
theorem step_fair {W : Work} {q : Qu} (hK : WOk W) (hD : DOk W q) (hw : waits q.jobs = true) : (nextStep W q).1.job < q.jobs.length ∧ (0 ≤ (nextStep W q).1.job → ∃ m : Nat, (nextStep W q).1.job = m ∧ m < q.jobs.length ∧ cand W q m = true ∧
    ∀ i, i < q.jobs.length → overdue W q i = true → overdue W q m = true ∧ (q.st m).since ≤ (q.st i).since) := by
  rcases step_spec hK hD.q hw with ⟨j, hj, _, h1, h2, h3⟩ | ⟨_, _, ⟨_, h1, h2, _, _, h3⟩ | ⟨m, hm, htk, hwm, har, h3⟩⟩
  · rw [h3]; exact ⟨by show (-1 : Int) < _; omega, fun h => absurd h (by simp)⟩
  · rw [h3]; exact ⟨by show (-1 : Int) < _; omega, fun h => absurd h (by simp)⟩
  · rw [h3]
    have hj : (runStep W q m).1.job = m := by unfold runStep; split <;> rfl
    rw [hj]
    exact ⟨by omega, fun _ => ⟨m, rfl, hm, (tk_cand _ _ htk).2, fun i hi ho => tk_due _ _ htk i hi ho⟩⟩

/- how long a job waits -/
def cnt (q : Qu) (T : Int) : Nat := q.jobs.countP fun s => decide (T < s.since)
def fpart (t now : Int) (f : Fault) : Int := (if f.at0 ≤ now then t else 0) + (if f.at0 + f.rep ≤ now then f.rep else 0)
def fsum (W : Work) (now : Int) : Int := (W.faults.map (fpart W.rules.turn now)).sum
def repairsOf (W : Work) : Int := W.faults.length * W.rules.turn + (W.faults.map Fault.rep).sum

theorem sum_le {α : Type} {g g' : α → Int} : ∀ {l : List α}, (∀ f ∈ l, g f ≤ g' f) → (l.map g).sum ≤ (l.map g').sum
  | [], _ => by simp
  | x :: l, h => by
    have h1 := h x (by simp)
    have h2 := sum_le (l := l) (fun f hf => h f (by simp [hf]))
    simp only [List.map_cons, List.sum_cons]; omega
theorem sum_gain {α : Type} {g g' : α → Int} {c : Int} : ∀ {l : List α}, (∀ f ∈ l, g f ≤ g' f) → ∀ f0 ∈ l, g f0 + c ≤ g' f0 → (l.map g).sum + c ≤ (l.map g').sum
  | [], _, f0, hf, _ => by cases hf
  | x :: l, h, f0, hf, hc => by
    simp only [List.map_cons, List.sum_cons]
    have h1 := h x (by simp)
    rcases List.mem_cons.1 hf with rfl | hf
    · have := sum_le (l := l) (fun f hf => h f (by simp [hf])); omega
    · have := sum_gain (l := l) (fun f hf => h f (by simp [hf])) f0 hf hc; omega
theorem fpart_mono {t now now' : Int} {f : Fault} (ht : 0 ≤ t) (hr : 0 ≤ f.rep) (h : now ≤ now') : fpart t now f ≤ fpart t now' f := by
  unfold fpart
  by_cases a : f.at0 ≤ now <;> by_cases b : f.at0 + f.rep ≤ now <;> by_cases c : f.at0 ≤ now' <;> by_cases d : f.at0 + f.rep ≤ now' <;> simp [a, b, c, d] <;> omega
theorem turn_nn {W : Work} (hK : WOk W) : 0 ≤ W.rules.turn := by have := hK.rb; unfold Rules.turn; omega
theorem rep_nn {W : Work} (hK : WOk W) {f : Fault} (hf : f ∈ W.faults) : 0 ≤ f.rep := by
  obtain ⟨i, hi, rfl⟩ := List.mem_iff_getElem.1 hf
  have := hK.fb hi; omega
theorem fsum_mono {W : Work} (hK : WOk W) {now now' : Int} (h : now ≤ now') : fsum W now ≤ fsum W now' := sum_le fun f hf => fpart_mono (turn_nn hK) (rep_nn hK hf) h
theorem fsum_nn {W : Work} (hK : WOk W) (now : Int) : 0 ≤ fsum W now := by
  have : ((W.faults.map fun _ => (0 : Int)).sum) ≤ fsum W now := sum_le fun f hf => by
    have := turn_nn hK; have := rep_nn hK hf
    unfold fpart; split <;> split <;> omega
  have e : (W.faults.map fun _ => (0 : Int)).sum = 0 := by
    generalize W.faults = l
    induction l with
    | nil => rfl
    | cons x l ih => simp only [List.map_cons, List.sum_cons, ih]; rfl
  omega
theorem fsum_lost {W : Work} (hK : WOk W) {now now' : Int} {i : Nat} (hi : i < W.faults.length) (h1 : now < W.faults[i].at0) (h2 : W.faults[i].at0 ≤ now') : fsum W now + W.rules.turn ≤ fsum W now' := by
  refine sum_gain (fun f hf => fpart_mono (turn_nn hK) (rep_nn hK hf) (by omega)) _ (List.getElem_mem hi) ?_
  have := (hK.fb hi).2.1
  unfold fpart
  rw [if_neg (by omega), if_neg (by omega), if_pos h2]
  split <;> omega
theorem fsum_rep {W : Work} (hK : WOk W) {now now' : Int} {i : Nat} (hi : i < W.faults.length) (h1 : now < W.faults[i].at0 + W.faults[i].rep) (h2 : W.faults[i].at0 + W.faults[i].rep ≤ now') (h0 : W.faults[i].at0 ≤ now) : fsum W now + W.faults[i].rep ≤ fsum W now' := by
  refine sum_gain (fun f hf => fpart_mono (turn_nn hK) (rep_nn hK hf) (by omega)) _ (List.getElem_mem hi) ?_
  unfold fpart
  rw [if_pos h0, if_neg (by omega), if_pos (by omega), if_pos h2]
  omega
theorem fsum_all {W : Work} (hK : WOk W) (now : Int) : fsum W now ≤ repairsOf W := by
  have h1 : fsum W now ≤ (W.faults.map fun f => W.rules.turn + f.rep).sum := sum_le fun f hf => by
    have := turn_nn hK; have := rep_nn hK hf
    unfold fpart; split <;> split <;> omega
  have e : ∀ l : List Fault, (l.map fun f => W.rules.turn + f.rep).sum = l.length * W.rules.turn + (l.map Fault.rep).sum := by
    intro l
    induction l with
    | nil => simp
    | cons x l ih =>
      simp only [List.map_cons, List.sum_cons, ih, List.length_cons]
      have : ((l.length + 1 : Nat) : Int) * W.rules.turn = l.length * W.rules.turn + W.rules.turn := by
        rw [Int.natCast_add, Int.add_mul]; simp
      omega
  unfold repairsOf
  rw [← e]; exact h1

structure WaitI (W : Work) (q : Qu) : Prop where
  arr : ∀ i, i < q.jobs.length → (W.job i).arrive ≤ (q.st i).since
  snc : ∀ i, i < q.jobs.length → (q.st i).since = (W.job i).arrive ∨ (q.st i).since ≤ q.now
  bd : ∀ i, i < q.jobs.length → (q.st i).why = 0 → q.now ≤ (q.st i).since + W.rules.patience + W.rules.turn * (cnt q ((q.st i).since + W.rules.patience) : Int) + fsum W q.now

theorem begin_st {W : Work} {i : Nat} (hi : i < W.jobs.length) : (beginQ W).st i = ⟨0, (W.job i).arrive, 0, 0, -1⟩ := by
  rw [Qu.st_eq (by simpa [beginQ] using hi), Work.job_eq hi]; simp [beginQ]
theorem waitI_begin {W : Work} (hK : WOk W) : WaitI W (beginQ W) := by
  have hl : (beginQ W).jobs.length = W.jobs.length := by simp [beginQ]
  refine ⟨fun i hi => ?_, fun i hi => ?_, fun i hi _ => ?_⟩
  · rw [begin_st (by omega)]; exact Int.le_refl _
  · rw [begin_st (by omega)]; exact .inl rfl
  · rw [begin_st (by omega)]
    have h1 := hK.jb (i := i) (by omega)
    have h2 := hK.rb
    have h3 := fsum_nn hK (beginQ W).now
    have h4 : 0 ≤ W.rules.turn * (cnt (beginQ W) ((W.job i).arrive + W.rules.patience) : Int) := Int.mul_nonneg (turn_nn hK) (by omega)
    rw [Work.job_eq (show i < W.jobs.length by omega)] at *
    show (0 : Int) ≤ W.jobs[i].arrive + W.rules.patience + W.rules.turn * (cnt (beginQ W) (W.jobs[i].arrive + W.rules.patience) : Int) + fsum W (beginQ W).now
    omega

theorem waitI_step {W : Work} {q : Qu} (hK : WOk W) (hD : DOk W q) (hw : waits q.jobs = true) (hI : WaitI W q) : WaitI W (nextStep W q).2 := by
  have hT := turn_nn hK
  have hRb := hK.rb
  rcases step_spec hK hD.q hw with ⟨j, hj, _, h1, h2, h3⟩ | ⟨_, _, ⟨_, h1, h2, h4, _, h3⟩ | ⟨m, hm, htk, hwm, har, h3⟩⟩
  · rw [h3]
    refine ⟨fun i hi => hI.arr i hi, fun i hi => ?_, fun i hi hwi => ?_⟩
    · rcases hI.snc i hi with h | h
      · exact .inl h
      · exact .inr (by show (q.st i).since ≤ _; have := h; show _ ≤ W.faults[j].at0 + W.faults[j].rep; omega)
    · have hb := hI.bd i hi hwi
      have := fsum_rep hK hj h2 (Int.le_refl _) h1
      show W.faults[j].at0 + W.faults[j].rep ≤ (q.st i).since + W.rules.patience + W.rules.turn * (cnt q ((q.st i).since + W.rules.patience) : Int) + _
      show _ ≤ _ + fsum W (W.faults[j].at0 + W.faults[j].rep)
      omega
  · rw [h3]
    refine ⟨fun i hi => hI.arr i hi, fun i hi => ?_, fun i hi hwi => ?_⟩
    · rcases hI.snc i hi with h | h
      · exact .inl h
      · exact .inr (by show (q.st i).since ≤ idleUpto W q q.jobs.length; omega)
    · have ha := hI.arr i hi
      have hi' : i < q.jobs.length := hi
      have hb := (h4 i hi' (by rw [← Qu.st_eq hi']; exact hwi)).2
      have hn := fsum_nn hK (idleUpto W q q.jobs.length)
      have h4 : 0 ≤ W.rules.turn * (cnt q ((q.st i).since + W.rules.patience) : Int) := Int.mul_nonneg hT (by omega)
      show idleUpto W q q.jobs.length ≤ (q.st i).since + W.rules.patience + W.rules.turn * (cnt q ((q.st i).since + W.rules.patience) : Int) + fsum W (idleUpto W q q.jobs.length)
      omega
  · rw [h3]
    obtain ⟨r1, r2, r3, r4, r5⟩ := run_bd hK hD.q hm hwm
    have hend : endOf W q m ≤ q.now + W.rules.turn := by
      have := mins_le (W := W) (q := q) m
      unfold endOf Rules.turn; split <;> omega
    unfold runStep
    split
    · rename_i hf
      obtain ⟨fi, hfi, hc, hd, _⟩ : ∃ i, ∃ h : i < W.faults.length, W.nextFault q.now = W.faults[i].at0 ∧ q.now < W.faults[i].at0 ∧ True := by
        rcases nextFault_cases hK q.now with ⟨hc, _⟩ | ⟨i, hi, hc, hd, _⟩
        · omega
        · exact ⟨i, hi, hc, hd, trivial⟩
      refine ⟨fun i hi => hI.arr i hi, fun i hi => ?_, fun i hi hwi => ?_⟩
      · rcases hI.snc i hi with h | h
        · exact .inl h
        · exact .inr (by show (q.st i).since ≤ W.nextFault q.now; omega)
      · have hb := hI.bd i hi hwi
        have := fsum_lost hK hfi hd (show W.faults[fi].at0 ≤ W.nextFault q.now by omega)
        show W.nextFault q.now ≤ (q.st i).since + W.rules.patience + W.rules.turn * (cnt q ((q.st i).since + W.rules.patience) : Int) + fsum W (W.nextFault q.now)
        omega
    · have hl : (q.jobs.set m (stAfter W q m)).length = q.jobs.length := by simp
      refine ⟨fun i hi => ?_, fun i hi => ?_, fun i hi hwi => ?_⟩
      · have hi' : i < q.jobs.length := by rw [← hl]; exact hi
        rw [st_set hm]
        split
        · rename_i e; subst e
          show (W.job i).arrive ≤ endOf W q i; omega
        · exact hI.arr i hi'
      · have hi' : i < q.jobs.length := by rw [← hl]; exact hi
        rw [st_set hm]
        split
        · exact .inr (by show endOf W q m ≤ endOf W q m; omega)
        · rcases hI.snc i hi' with h | h
          · exact .inl h
          · exact .inr (by show (q.st i).since ≤ endOf W q m; omega)
      · have hi' : i < q.jobs.length := by rw [← hl]; exact hi
        have hn := fsum_nn hK (endOf W q m)
        have hmo := fsum_mono hK (show q.now ≤ endOf W q m by omega)
        rw [st_set hm] at hwi ⊢
        generalize hT' : (if i = m then stAfter W q m else q.st i).since + W.rules.patience = T at *
        have hcm : (cnt ⟨endOf W q m, q.jobs.set m (stAfter W q m)⟩ T : Int) = cnt q T - (if T < (q.st m).since then 1 else 0) + (if T < endOf W q m then 1 else 0) := by
          unfold cnt
          rw [List.countP_set hm]
          have e1 : q.jobs[m] = q.st m := (Qu.st_eq hm).symm
          rw [e1]
          by_cases c1 : T < (q.st m).since
          · have hpos : 0 < q.jobs.countP (fun s => decide (T < s.since)) := List.countP_pos_iff.2 ⟨q.jobs[m], List.getElem_mem hm, by rw [e1]; simpa using c1⟩
            by_cases c2 : T < endOf W q m
            · have : T < (stAfter W q m).since := c2
              simp [c1, c2, this]; omega
            · have : ¬ T < (stAfter W q m).since := c2
              simp [c1, c2, this]; omega
          · by_cases c2 : T < endOf W q m
            · have : T < (stAfter W q m).since := c2
              simp [c1, c2, this]
            · have : ¬ T < (stAfter W q m).since := c2
              simp [c1, c2, this]
        have hnn : (0 : Int) ≤ W.rules.turn * (cnt ⟨endOf W q m, q.jobs.set m (stAfter W q m)⟩ T : Int) := Int.mul_nonneg hT (by omega)
        show endOf W q m ≤ T + W.rules.turn * (cnt ⟨endOf W q m, q.jobs.set m (stAfter W q m)⟩ T : Int) + fsum W (endOf W q m)
        by_cases hle : endOf W q m ≤ T
        · omega
        · have him : ¬ i = m := by
            intro e; rw [if_pos e] at hT'
            have : (stAfter W q m).since = endOf W q m := rfl
            omega
          rw [if_neg him] at hT' hwi
          have hwi' : q.jobs[i].why = 0 := by rw [← Qu.st_eq hi']; exact hwi
          -- m was not counted before
          have hmT : ¬ T < (q.st m).since ∨ q.now ≤ T := by
            by_cases hc : T < q.now
            · left
              intro hlt
              have hai := hI.arr i hi'
              have ho : overdue W q i = true := by
                unfold overdue
                simp only [Bool.and_eq_true, beq_iff_eq, decide_eq_true_eq]
                exact ⟨⟨hwi, by omega⟩, by omega⟩
              obtain ⟨_, d2⟩ := tk_due _ _ htk i hi' ho
              omega
            · right; omega
          by_cases hc : T < (q.st m).since
          · -- then now is not behind T
            have hnow : q.now ≤ T := hmT.resolve_left (fun h => h hc)
            rw [if_pos hc, if_pos (by omega)] at hcm
            have hpos : (1 : Int) ≤ cnt q T := by
              have : 0 < cnt q T := List.countP_pos_iff.2 ⟨q.jobs[m], List.getElem_mem hm, by rw [← Qu.st_eq hm]; simpa using hc⟩
              omega
            rw [hcm]
            have hmul : W.rules.turn * 1 ≤ W.rules.turn * ((cnt q T : Int) - 1 + 1) := Int.mul_le_mul_of_nonneg_left (by omega) hT
            omega
          · rw [if_neg hc, if_pos (by omega)] at hcm
            rw [hcm, Int.sub_zero, Int.mul_add, Int.mul_one]
            have hb := hI.bd i hi' hwi
            rw [hT'] at hb
            omega
theorem waitI_bd {W : Work} {q : Qu} (hK : WOk W) (hD : DOk W q) (hI : WaitI W q) (i : Nat) (hi : i < q.jobs.length) (hwi : (q.st i).why = 0) : q.now - (q.st i).since ≤ W.rules.patience + W.jobs.length * W.rules.turn + repairsOf W := by
  have hb := hI.bd i hi hwi
  have h1 := fsum_all hK q.now
  have h2 : cnt q ((q.st i).since + W.rules.patience) ≤ q.jobs.length := List.countP_le_length
  rw [hD.len] at h2
  have h3 : W.rules.turn * (cnt q ((q.st i).since + W.rules.patience) : Int) ≤ W.rules.turn * (W.jobs.length : Int) := Int.mul_le_mul_of_nonneg_left (by omega) (turn_nn hK)
  rw [Int.mul_comm W.rules.turn (W.jobs.length : Int)] at h3
  omega

end Go.Proofs.Ytbjgebbfachgfaa
