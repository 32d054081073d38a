/- Plain laws: a job that arrives later, and a fault that comes later. -/
import Derived.Test.YtbjgebbfachgfaacPure10
set_option linter.unusedVariables false
set_option linter.unusedSimpArgs false
set_option linter.unusedSectionVars false
set_option linter.all false
namespace Go.Proofs.Ytbjgebbfachgfaa

theorem loop_after {W : Work} {till : Int} (hK : WOk W) (ht : till ≤ 5000) : ∀ (n : Nat) (q : Qu), DOk W q → ∀ s ∈ (dayLoop W till n q).1, q.now < s.until0
  | 0, q, _, s, h => by simp [dayLoop] at h
  | n + 1, q, hD, s, h => by
    cases hc : (decide (q.now < till) && waits q.jobs) with
    | false => rw [day_stop hc] at h; simp at h
    | true =>
      rw [day_go hc] at h
      simp only [Bool.and_eq_true, decide_eq_true_eq] at hc
      obtain ⟨s1, s2, s3, s4⟩ := step_ok hK hD hc.2 (by omega)
      rcases List.mem_cons.1 h with rfl | h
      · rw [s4]; exact s1
      · have := loop_after hK ht n _ s2 s h; omega

theorem loop_sim {W W2 : Work} {till at0 : Int} (φ : Qu → Qu) (hK : WOk W) (ht : till ≤ 5000) (hnow : ∀ q, (φ q).now = q.now) (hwt : ∀ q, waits q.jobs = true → waits (φ q).jobs = true)
    (hst : ∀ q, DOk W q → waits q.jobs = true → q.now < (nextStep W q).2.now → (nextStep W q).2.now ≤ at0 → nextStep W2 (φ q) = ((nextStep W q).1, φ (nextStep W q).2)) :
    ∀ (n n2 : Nat) (q : Qu), DOk W q → till - q.now ≤ n2 → ∀ (i : Nat) (s : Spell), (dayLoop W till n q).1[i]? = some s → s.until0 ≤ at0 → (dayLoop W2 till n2 (φ q)).1[i]? = some s
  | 0, n2, q, _, _, i, s, h, _ => by simp [dayLoop] at h
  | n + 1, n2, q, hD, h2, i, s, h, hs => by
    cases hc : (decide (q.now < till) && waits q.jobs) with
    | false => rw [day_stop hc] at h; simp at h
    | true =>
      have hc0 := hc
      rw [day_go hc] at h
      simp only [Bool.and_eq_true, decide_eq_true_eq] at hc
      obtain ⟨s1, s2, s3, s4⟩ := step_ok hK hD hc.2 (by omega)
      obtain ⟨m, rfl⟩ : ∃ m, n2 = m + 1 := ⟨n2 - 1, by omega⟩
      have hle : (nextStep W q).2.now ≤ at0 := by
        cases i with
        | zero => simp at h; subst h; omega
        | succ i =>
          simp only [List.getElem?_cons_succ] at h
          have := loop_after hK ht n _ s2 s (List.mem_of_getElem? h)
          omega
      have he := hst q hD hc.2 s1 hle
      rw [day_go (show (decide ((φ q).now < till) && waits (φ q).jobs) = true by rw [hnow, hwt _ hc.2]; simp [hc.1]), he]
      cases i with
      | zero => simpa using h
      | succ i =>
        simp only [List.getElem?_cons_succ] at h ⊢
        exact loop_sim φ hK ht hnow hwt hst n m _ s2 (by omega) i s h hs

/- a job more -/
def withJob (W : Work) (J : Job) : Work := ⟨W.rules, W.jobs ++ [J], W.faults⟩
def withSt (J : Job) (q : Qu) : Qu := ⟨q.now, q.jobs ++ [⟨0, J.arrive, 0, 0, -1⟩]⟩
section
variable {W : Work} {J : Job} {q : Qu}
theorem wj_job {i : Nat} (hi : i < W.jobs.length) : (withJob W J).job i = W.job i := by
  unfold Work.job withJob; simp [List.getD_eq_getElem?_getD, List.getElem?_append_left hi]
theorem ws_st {i : Nat} (hi : i < q.jobs.length) : (withSt J q).st i = q.st i := by
  unfold Qu.st withSt; simp [List.getD_eq_getElem?_getD, List.getElem?_append_left hi]
theorem wj_last : (withJob W J).job W.jobs.length = J := by unfold Work.job withJob; simp [List.getD_eq_getElem?_getD]
theorem ws_last : (withSt J q).st q.jobs.length = ⟨0, J.arrive, 0, 0, -1⟩ := by unfold Qu.st withSt; simp [List.getD_eq_getElem?_getD]
theorem wj_cand (hl : q.jobs.length = W.jobs.length) {i : Nat} (hi : i < q.jobs.length) : cand (withJob W J) (withSt J q) i = cand W q i := by
  unfold cand; rw [ws_st hi, wj_job (by omega)]; rfl
theorem wj_due (hl : q.jobs.length = W.jobs.length) {i : Nat} (hi : i < q.jobs.length) : overdue (withJob W J) (withSt J q) i = overdue W q i := by
  unfold overdue; rw [ws_st hi, wj_job (by omega)]; rfl
theorem wj_before (hl : q.jobs.length = W.jobs.length) {a b : Nat} (ha : a < q.jobs.length) (hb : b < q.jobs.length) : before (withJob W J) (withSt J q) a b = before W q a b := by
  unfold before; rw [wj_due hl ha, wj_due hl hb, ws_st ha, ws_st hb, wj_job (by omega), wj_job (by omega)]
theorem wj_taken (hl : q.jobs.length = W.jobs.length) : ∀ k, k ≤ q.jobs.length → takenUpto (withJob W J) (withSt J q) k = takenUpto W q k
  | 0, _ => rfl
  | k + 1, h => by
    simp only [takenUpto]
    rw [wj_taken hl k (by omega), wj_cand hl (by omega)]
    rcases taken_range W q k with ht | ⟨m, hm, ht⟩
    · rw [ht]; simp
    · have hb := wj_before (J := J) hl (show k < q.jobs.length by omega) (show m < q.jobs.length by omega)
      simp only [ht, Int.toNat_natCast, hb]
theorem wj_idle (hl : q.jobs.length = W.jobs.length) : ∀ k, k ≤ q.jobs.length → idleUpto (withJob W J) (withSt J q) k = idleUpto W q k
  | 0, _ => rfl
  | k + 1, h => by
    simp only [idleUpto]
    rw [wj_idle hl k (by omega), ws_st (by omega), wj_job (by omega)]
theorem wj_run (hl : q.jobs.length = W.jobs.length) {m : Nat} (hm : m < q.jobs.length) : runStep (withJob W J) (withSt J q) m = ((runStep W q m).1, withSt J (runStep W q m).2) := by
  have e1 : minutesOf (withJob W J) (withSt J q) m = minutesOf W q m := by unfold minutesOf; rw [ws_st hm, wj_job (by omega)]; rfl
  have e2 : doneOf (withJob W J) (withSt J q) m = doneOf W q m := by unfold doneOf; rw [ws_st hm, wj_job (by omega), e1]
  have e3 : endOf (withJob W J) (withSt J q) m = endOf W q m := by unfold endOf; rw [e1, e2]; rfl
  have e4 : kindOf (withJob W J) (withSt J q) m = kindOf W q m := by unfold kindOf; rw [e2, wj_job (by omega)]
  have e5 : stAfter (withJob W J) (withSt J q) m = stAfter W q m := by unfold stAfter; rw [e1, e2, e3, ws_st hm, wj_job (by omega)]; rfl
  have e6 : (withJob W J).nextFault (withSt J q).now = W.nextFault q.now := rfl
  unfold runStep
  rw [e3, e4, e5, e6]
  split
  · rfl
  · show (_, _) = (_, _)
    congr 1
    unfold withSt
    simp only
    rw [List.set_append_left _ _ hm]
theorem wj_step (hK : WOk W) (hD : DOk W q) (hw : waits q.jobs = true) (h1 : q.now < (nextStep W q).2.now) (h2 : (nextStep W q).2.now ≤ J.arrive) : nextStep (withJob W J) (withSt J q) = ((nextStep W q).1, withSt J (nextStep W q).2) := by
  have hl := hD.len
  have hlen : (withSt J q).jobs.length = q.jobs.length + 1 := by simp [withSt]
  have hc : cand (withJob W J) (withSt J q) q.jobs.length = false := by
    unfold cand
    rw [ws_last]
    rw [show q.jobs.length = W.jobs.length from hl, wj_last]
    have : ¬ J.arrive ≤ (withSt J q).now := by show ¬ J.arrive ≤ q.now; omega
    simp [this]
  have ht : takenUpto (withJob W J) (withSt J q) (withSt J q).jobs.length = takenUpto W q q.jobs.length := by
    rw [hlen]; simp only [takenUpto]; rw [hc]; simp [wj_taken hl _ (Nat.le_refl _)]
  have hr : (withJob W J).repairAt (withSt J q).now = W.repairAt q.now := rfl
  rcases step_spec hK hD.q hw with ⟨j, hj, hrp, a1, a2, h3⟩ | ⟨hrp, _, ⟨htk, a1, a2, a4, _, h3⟩ | ⟨m, hm, htk, hwm, har, h3⟩⟩
  · rw [h3]; unfold nextStep; rw [hr, hrp]; rfl
  · rw [h3] at h2 ⊢
    have hi : idleUpto (withJob W J) (withSt J q) (withSt J q).jobs.length = idleUpto W q q.jobs.length := by
      rw [hlen]; simp only [idleUpto]; rw [wj_idle hl _ (Nat.le_refl _), show q.jobs.length = W.jobs.length from hl, wj_last]
      rw [if_neg]
      rw [← hl]
      have h0 := hD.now0
      have : ¬ idleUpto W q q.jobs.length < 0 := by omega
      have h2' : idleUpto W q q.jobs.length ≤ J.arrive := h2
      have : ¬ J.arrive < idleUpto W q q.jobs.length := by omega
      simp_all
    unfold nextStep
    rw [hr, hrp, ht, htk, hi]; rfl
  · rw [h3]
    unfold nextStep
    rw [hr, hrp, ht, htk]
    simp only [Int.toNat_natCast]
    rw [if_neg (by omega), wj_run hl hm]
theorem ws_waits (h : waits q.jobs = true) : waits (withSt J q).jobs = true := by unfold waits withSt at *; simp [h]
theorem ws_begin : withSt J (beginQ W) = beginQ (withJob W J) := by unfold withSt beginQ withJob; simp
end

/- a fault more -/
def withFault (W : Work) (F : Fault) : Work := ⟨W.rules, W.jobs, W.faults ++ [F]⟩
section
variable {W : Work} {F : Fault} {q : Qu}
theorem wf_next (h : q.now < F.at0) : (withFault W F).nextFault q.now = if W.nextFault q.now = -1 ∧ W.faults.find? (fun f => decide (q.now < f.at0)) = none then F.at0 else W.nextFault q.now := by
  unfold Work.nextFault withFault
  simp only [List.find?_append]
  cases hf : W.faults.find? (fun f => decide (q.now < f.at0)) with
  | none => simp [h]
  | some f => simp
theorem wf_rep (h : q.now < F.at0) : (withFault W F).repairAt q.now = W.repairAt q.now := by
  unfold Work.repairAt withFault
  simp only [List.find?_append]
  have : ¬ F.at0 ≤ q.now := by omega
  cases hf : W.faults.find? (fun f => decide (f.at0 ≤ q.now) && decide (q.now < f.at0 + f.rep)) with
  | none => simp [this]
  | some f => simp
theorem wf_taken : ∀ k, takenUpto (withFault W F) q k = takenUpto W q k
  | 0 => rfl
  | k + 1 => by simp only [takenUpto]; rw [wf_taken k]; rfl
theorem idle_mix (b : Bool) (x a F : Int) (hF : 0 ≤ F) (ha : 0 ≤ a) :
    (if (b && (decide ((if x < 0 ∨ F < x then F else x) < 0) || decide (a < if x < 0 ∨ F < x then F else x))) = true then a else if x < 0 ∨ F < x then F else x) =
      if (if (b && (decide (x < 0) || decide (a < x))) = true then a else x) < 0 ∨ F < (if (b && (decide (x < 0) || decide (a < x))) = true then a else x) then F
      else if (b && (decide (x < 0) || decide (a < x))) = true then a else x := by
  cases b with
  | false => simp
  | true =>
    simp only [Bool.true_and, Bool.or_eq_true, decide_eq_true_eq]
    by_cases c1 : x < 0 ∨ F < x <;> by_cases c2 : x < 0 ∨ a < x
    · simp only [c1, c2, if_true]
      by_cases c3 : F < 0 ∨ a < F <;> by_cases c4 : a < 0 ∨ F < a <;> simp only [c3, c4, if_true, if_false] <;> omega
    · simp only [c1, c2, if_true, if_false]
      by_cases c3 : F < 0 ∨ a < F <;> simp only [c3, if_true, if_false] <;> omega
    · simp only [c1, c2, if_true, if_false]
      by_cases c4 : a < 0 ∨ F < a <;> simp only [c4, if_true, if_false] <;> omega
    · simp only [c1, c2, if_true, if_false]
theorem wf_idle (hF : 0 ≤ F.at0) (ha : ∀ i, i < q.jobs.length → 0 ≤ (W.job i).arrive) (hn : (withFault W F).nextFault q.now = F.at0) (h1 : W.nextFault q.now = -1) : ∀ k, k ≤ q.jobs.length → idleUpto (withFault W F) q k = if idleUpto W q k < 0 ∨ F.at0 < idleUpto W q k then F.at0 else idleUpto W q k
  | 0, _ => by simp only [idleUpto, hn, h1]; simp
  | k + 1, h => by
    simp only [idleUpto]
    rw [wf_idle hF ha hn h1 k (by omega), show (withFault W F).job k = W.job k from rfl]
    have hk := ha k (by omega)
    exact idle_mix _ _ _ _ hF hk
theorem wf_step (hK : WOk W) (hD : DOk W q) (hw : waits q.jobs = true) (h1 : q.now < (nextStep W q).2.now) (h2 : (nextStep W q).2.now ≤ F.at0) : nextStep (withFault W F) q = nextStep W q := by
  have hlt : q.now < F.at0 := by omega
  have h0 := hD.now0
  have hl := hD.len
  have hr := wf_rep (W := W) hlt
  have hnf : (withFault W F).nextFault q.now = W.nextFault q.now ∨ ((withFault W F).nextFault q.now = F.at0 ∧ W.nextFault q.now = -1) := by
    rw [wf_next hlt]; split
    · rename_i h; exact .inr ⟨rfl, h.1⟩
    · exact .inl rfl
  rcases step_spec hK hD.q hw with ⟨j, hj, hrp, a1, a2, h3⟩ | ⟨hrp, _, ⟨htk, a1, a2, a4, _, h3⟩ | ⟨m, hm, htk, hwm, har, h3⟩⟩
  · rw [h3]; unfold nextStep; rw [hr, hrp]
  · rw [h3] at h2 ⊢
    have h2' : idleUpto W q q.jobs.length ≤ F.at0 := h2
    have hi : idleUpto (withFault W F) q q.jobs.length = idleUpto W q q.jobs.length := by
      rcases hnf with hn | ⟨hn, hn1⟩
      · have : ∀ k, idleUpto (withFault W F) q k = idleUpto W q k := by
          intro k
          induction k with
          | zero => exact hn
          | succ k ih => simp only [idleUpto]; rw [ih]; rfl
        exact this _
      · rw [wf_idle (by omega) (fun i hi => by rw [Work.job_eq (by omega)]; exact (hK.jb (by omega)).1.1) hn hn1 _ (Nat.le_refl _), if_neg (by omega)]
    unfold nextStep
    rw [hr, hrp, wf_taken, htk, hi]; rfl
  · rw [h3] at h1 h2 ⊢
    have hrun : runStep (withFault W F) q m = runStep W q m := by
      rcases hnf with hn | ⟨hn, hn1⟩
      · unfold runStep; rw [hn]; rfl
      · have h2' : endOf W q m ≤ F.at0 := by
          have h := h2
          unfold runStep at h
          rw [hn1, if_neg (by omega)] at h
          exact h
        have he : endOf (withFault W F) q m = endOf W q m := rfl
        unfold runStep
        rw [hn, hn1, he, if_neg (by omega), if_neg (by omega)]
        rfl
    unfold nextStep
    rw [hr, hrp, wf_taken, htk]
    simp only [Int.toNat_natCast]
    rw [if_neg (by omega), hrun]
end

theorem later_job {W : Work} {J : Job} {till : Int} (h : dayErr W till = 0) (he : (withJob W J).err = 0) : dayErr (withJob W J) till = 0 ∧ ∀ (i : Nat) (s : Spell), (day W till).1[i]? = some s → s.until0 ≤ J.arrive → (day (withJob W J) till).1[i]? = some s := by
  obtain ⟨hK, e0, t0, t5⟩ := day_ok h
  have hE : dayErr (withJob W J) till = 0 := by unfold dayErr; rw [if_pos he, if_pos (by rw [inb_iff]; omega)]
  refine ⟨hE, fun i s hi hs => ?_⟩
  unfold day at hi ⊢
  rw [if_pos h] at hi
  rw [if_pos hE, ← ws_begin]
  exact loop_sim (withSt J) hK t5 (fun _ => rfl) (fun q hq => ws_waits hq) (fun q hD hw a b => wj_step hK hD hw a b) _ _ _ (dok_begin hK) (by rw [begin_now]; omega) i s hi hs
theorem later_fault {W : Work} {F : Fault} {till : Int} (h : dayErr W till = 0) (he : (withFault W F).err = 0) : dayErr (withFault W F) till = 0 ∧ ∀ (i : Nat) (s : Spell), (day W till).1[i]? = some s → s.until0 ≤ F.at0 → (day (withFault W F) till).1[i]? = some s := by
  obtain ⟨hK, e0, t0, t5⟩ := day_ok h
  have hE : dayErr (withFault W F) till = 0 := by unfold dayErr; rw [if_pos he, if_pos (by rw [inb_iff]; omega)]
  refine ⟨hE, fun i s hi hs => ?_⟩
  unfold day at hi ⊢
  rw [if_pos h] at hi
  rw [if_pos hE]
  exact loop_sim id hK t5 (fun _ => rfl) (fun q hq => hq) (fun q hD hw a b => wf_step hK hD hw a b) _ _ _ (dok_begin hK) (by rw [begin_now]; omega) i s hi hs

end Go.Proofs.Ytbjgebbfachgfaa
