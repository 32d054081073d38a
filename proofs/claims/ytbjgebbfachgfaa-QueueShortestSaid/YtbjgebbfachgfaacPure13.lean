/- Plain laws: no order of jobs makes the sum of the minutes at which they end less. -/
import Derived.Test.YtbjgebbfachgfaacPure12
set_option linter.unusedVariables false
set_option linter.unusedSimpArgs false
set_option linter.unusedSectionVars false
set_option linter.all false
namespace Go.Proofs.Ytbjgebbfachgfaa

/-- the sum of the minutes at which jobs end, in this order -/
def cost (load : Int) : Int → List Int → Int
  | _, [] => 0
  | now, x :: l => (now + load + x) + cost load (now + load + x) l

theorem cost_min (load : Int) {m : Int} : ∀ (L : List Int) (now : Int), m ∈ L → (∀ x ∈ L, m ≤ x) → (now + load + m) + cost load (now + load + m) (L.erase m) ≤ cost load now L
  | [], _, h, _ => by cases h
  | x :: l, now, h, hm => by
    by_cases hx : x = m
    · subst hx; rw [List.erase_cons_head]; exact Int.le_refl _
    · have hl : m ∈ l := by
        rcases List.mem_cons.1 h with h | h
        · exact absurd h.symm hx
        · exact h
      have ih := cost_min load l (now + load + x) hl (fun y hy => hm y (by simp [hy]))
      have hmx := hm x (by simp)
      rw [List.erase_cons_tail (by simpa using hx)]
      simp only [cost]
      rw [show now + load + m + load + x = now + load + x + load + m by omega]
      omega

theorem sum_at {g g' : Nat → Int} {m : Nat} {c : Int} : ∀ (l : List Nat), l.Nodup → m ∈ l → (∀ i ∈ l, i ≠ m → g' i = g i) → g' m = g m + c → (l.map g').sum = (l.map g).sum + c
  | [], _, h, _, _ => by cases h
  | x :: l, hn, h, he, hc => by
    rw [List.nodup_cons] at hn
    simp only [List.map_cons, List.sum_cons]
    by_cases hx : x = m
    · subst hx
      have : l.map g' = l.map g := List.map_congr_left fun i hi => he i (by simp [hi]) (fun e => hn.1 (e ▸ hi))
      rw [this, hc]; omega
    · have hl : m ∈ l := by
        rcases List.mem_cons.1 h with h | h
        · exact absurd h.symm hx
        · exact h
      rw [sum_at l hn.2 hl (fun i hi => he i (by simp [hi])) hc, he x (by simp) hx]; omega
theorem perm_at {p p' : Nat → Bool} {f : Nat → Int} {m : Nat} : ∀ (l : List Nat), l.Nodup → m ∈ l → p m = true → p' m = false → (∀ i ∈ l, i ≠ m → p' i = p i) → List.Perm ((l.filter p).map f) (f m :: (l.filter p').map f)
  | [], _, h, _, _, _ => by cases h
  | x :: l, hn, h, h1, h2, he => by
    rw [List.nodup_cons] at hn
    by_cases hx : x = m
    · subst hx
      have : l.filter p' = l.filter p := List.filter_congr fun i hi => he i (by simp [hi]) (fun e => hn.1 (e ▸ hi))
      rw [List.filter_cons_of_pos h1, List.filter_cons_of_neg (by simp [h2]), this]
      exact List.Perm.refl _
    · have hl : m ∈ l := by
        rcases List.mem_cons.1 h with h | h
        · exact absurd h.symm hx
        · exact h
      have ih := perm_at (f := f) l hn.2 hl h1 h2 (fun i hi => he i (by simp [hi]))
      have hxp := he x (by simp) hx
      cases hp : p x with
      | true =>
        rw [List.filter_cons_of_pos hp, List.filter_cons_of_pos (by rw [hxp, hp]), List.map_cons, List.map_cons]
        exact (List.Perm.cons _ ih).trans (List.Perm.swap _ _ _)
      | false =>
        rw [List.filter_cons_of_neg (by simp [hp]), List.filter_cons_of_neg (by rw [hxp, hp]; simp)]
        exact ih

/-- the works of the statement -/
structure Short (W : Work) : Prop where
  ok : W.rules.ok = true
  flt : W.faults = []
  slice : W.rules.slice = 256
  pat : W.rules.patience = 5000
  len : W.jobs.length ≤ 8
  job : ∀ i, i < W.jobs.length → (W.job i).arrive = 0 ∧ (W.job i).needs = (W.job i).claim ∧ 1 ≤ (W.job i).claim ∧ (W.job i).claim ≤ 256

def left (W : Work) (q : Qu) : List Int := ((List.range q.jobs.length).filter fun i => (q.st i).why == 0).map fun i => (W.job i).claim
def endOne (q : Qu) (i : Nat) : Int := if (q.st i).why = 0 then 0 else (q.st i).ended
def endSum (q : Qu) : Int := ((List.range q.jobs.length).map (endOne q)).sum

structure SInv (W : Work) (q : Qu) : Prop where
  len : q.jobs.length = W.jobs.length
  now0 : 0 ≤ q.now
  now1 : q.now + 286 * ((left W q).length : Int) ≤ 2288
  st : ∀ i, i < q.jobs.length → ((q.st i).why = 0 ∧ (q.st i).progress = 0 ∧ (q.st i).since = 0) ∨ (q.st i).why = 1

theorem tk_least {W : Work} {q : Qu} {n : Nat} (hno : ∀ i, i < n → overdue W q i = false) : ∀ (k m : Nat), k ≤ n → takenUpto W q k = (m : Int) → ∀ i, i < k → cand W q i = true → (W.job m).claim - (q.st m).progress ≤ (W.job i).claim - (q.st i).progress
  | 0, m, _, h, i, hi, _ => by omega
  | k + 1, m, hkn, h, i, hi, hd => by
    simp only [takenUpto] at h
    by_cases hn : takenUpto W q k < 0
    · have hn1 : takenUpto W q k = -1 := by
        rcases taken_range W q k with h | ⟨m', _, h⟩
        · exact h
        · omega
      have hz := tk_none k hn1
      split at h
      · have : k = m := by omega
        subst this
        rcases Nat.lt_or_ge i k with hik | hik
        · exact absurd hd (by simp [hz i hik])
        · obtain rfl : i = k := by omega
          exact Int.le_refl _
      · rw [h] at hn1; omega
    · obtain ⟨b, hb⟩ : ∃ b : Nat, takenUpto W q k = (b : Int) := ⟨(takenUpto W q k).toNat, by omega⟩
      have ih := tk_least hno k b (by omega) hb
      have hbk : b < k := (tk_cand _ _ hb).1
      rw [hb] at h
      simp only [Int.toNat_natCast] at h
      have hnb : decide ((b : Int) < 0) = false := by simp
      simp only [hnb, Bool.false_or] at h
      have hbef : before W q k b = true ↔ (if (W.job k).claim - (q.st k).progress ≠ (W.job b).claim - (q.st b).progress then (W.job k).claim - (q.st k).progress < (W.job b).claim - (q.st b).progress else (q.st k).since < (q.st b).since) := by
        unfold before
        rw [hno k (by omega), hno b (by omega)]
        simp only [bne_self_eq_false, Bool.false_eq_true, if_false, true_and]
        split <;> simp
      split at h
      · rename_i hc
        have : k = m := by omega
        subst this
        simp only [Bool.and_eq_true] at hc
        have hbf := hbef.1 hc.2
        rcases Nat.lt_or_ge i k with hik | hik
        · have := ih i hik hd
          split at hbf <;> omega
        · obtain rfl : i = k := by omega
          exact Int.le_refl _
      · rename_i hc
        have : b = m := by omega
        subst this
        rcases Nat.lt_or_ge i k with hik | hik
        · exact ih i hik hd
        · obtain rfl : i = k := by omega
          rw [hd] at hc
          simp only [Bool.true_and] at hc
          rw [hbef] at hc
          split at hc <;> omega

theorem short_step {W : Work} {q : Qu} (hS : Short W) (hI : SInv W q) (hw : waits q.jobs = true) :
    ∃ m, m < q.jobs.length ∧ (∀ x ∈ left W q, (W.job m).claim ≤ x) ∧ List.Perm (left W q) ((W.job m).claim :: left W (nextStep W q).2) ∧ (nextStep W q).2.now = q.now + W.rules.load + (W.job m).claim ∧
      endSum (nextStep W q).2 = endSum q + (nextStep W q).2.now ∧ SInv W (nextStep W q).2 ∧ (nextStep W q).2.jobs.length = q.jobs.length := by
  have hrb := rules_bd (s := W.rules.slice) (l := W.rules.load) (d := W.rules.dump) (p := W.rules.patience) (r := W.rules.rate) hS.ok
  obtain ⟨i0, hi0, hw0⟩ := wait_ex hw
  have hn0 := hI.now0
  have hn1 := hI.now1
  have hno : ∀ i, i < q.jobs.length → overdue W q i = false := by
    intro i hi
    unfold overdue
    rcases hI.st i hi with ⟨h1, h2, h3⟩ | h1
    · rw [h3, hS.pat]
      have : decide ((5000 : Int) ≤ q.now - 0) = false := decide_eq_false (by omega)
      rw [this, Bool.and_false]
    · simp [h1]
  have hcd : ∀ i, i < q.jobs.length → (cand W q i = true ↔ (q.st i).why = 0) := by
    intro i hi
    unfold cand
    have := (hS.job i (by rw [← hI.len]; exact hi)).1
    rw [this]
    simp [hn0]
  obtain ⟨m, hmk, htk⟩ : ∃ m : Nat, m < q.jobs.length ∧ takenUpto W q q.jobs.length = (m : Int) := by
    rcases taken_range W q q.jobs.length with h | ⟨m, hm, h⟩
    · exact absurd ((hcd i0 hi0).2 (by rw [Qu.st_eq hi0]; exact hw0)) (by simp [tk_none _ h i0 hi0])
    · exact ⟨m, hm, h⟩
  have hwm : (q.st m).why = 0 := (hcd m hmk).1 (tk_cand _ _ htk).2
  obtain ⟨hj1, hj2, hj3, hj4⟩ := hS.job m (by rw [← hI.len]; exact hmk)
  have hst : (q.st m).progress = 0 ∧ (q.st m).since = 0 := by
    rcases hI.st m hmk with ⟨_, h2, h3⟩ | h1
    · exact ⟨h2, h3⟩
    · omega
  have hfin : (W.job m).fin = (W.job m).claim := by unfold Job.fin; rw [hj2]; split <;> omega
  have hmin : minutesOf W q m = (W.job m).claim := by unfold minutesOf; rw [hst.1, hfin, hS.slice]; split <;> omega
  have hdone : doneOf W q m = true := by unfold doneOf; rw [hmin, hst.1, hfin]; simp
  have hend : endOf W q m = q.now + W.rules.load + (W.job m).claim := by unfold endOf; rw [hdone, hmin]; rfl
  have hnext : nextStep W q = (⟨kindOf W q m, m, q.now, endOf W q m⟩, ⟨endOf W q m, q.jobs.set m (stAfter W q m)⟩) := by
    have hr : W.repairAt q.now = none := by unfold Work.repairAt; rw [hS.flt]; rfl
    have hf : W.nextFault q.now = -1 := by unfold Work.nextFault; rw [hS.flt]; rfl
    unfold nextStep
    rw [hr]
    simp only [htk, Int.toNat_natCast]
    rw [if_neg (by omega)]
    unfold runStep
    rw [hf, if_neg (by omega)]
  have hwhy : (stAfter W q m).why = 1 := by
    show (if doneOf W q m then _ else _) = _
    rw [hdone, hfin, hj2]; simp
  have hended : (stAfter W q m).ended = endOf W q m := by
    show (if doneOf W q m then _ else _) = _
    rw [hdone]; rfl
  have hlen : (⟨endOf W q m, q.jobs.set m (stAfter W q m)⟩ : Qu).jobs.length = q.jobs.length := by simp
  have hperm : List.Perm (left W q) ((W.job m).claim :: left W ⟨endOf W q m, q.jobs.set m (stAfter W q m)⟩) := by
    unfold left
    rw [hlen]
    refine perm_at (f := fun i => (W.job i).claim) (List.range q.jobs.length) List.nodup_range (by simpa using hmk) (by simp [hwm]) ?_ ?_
    · rw [st_set hmk, if_pos rfl, hwhy]; decide
    · intro i _ him; rw [st_set hmk, if_neg him]
  rw [hnext]
  refine ⟨m, hmk, ?_, hperm, hend, ?_, ⟨by rw [hlen]; exact hI.len, by show 0 ≤ endOf W q m; omega, ?_, fun i hi => ?_⟩, hlen⟩
  · intro x hx
    unfold left at hx
    obtain ⟨i, hi, rfl⟩ := List.mem_map.1 hx
    rw [List.mem_filter] at hi
    have hi1 : i < q.jobs.length := by simpa using hi.1
    have hwi : (q.st i).why = 0 := by simpa using hi.2
    have := tk_least hno q.jobs.length m (Nat.le_refl _) htk i hi1 ((hcd i hi1).2 hwi)
    rcases hI.st i hi1 with ⟨_, h2, _⟩ | h1
    · rw [h2, hst.1] at this; omega
    · omega
  · unfold endSum
    rw [hlen]
    refine sum_at (List.range q.jobs.length) List.nodup_range (m := m) (by simpa using hmk) (fun i _ him => ?_) ?_
    · unfold endOne; rw [st_set hmk, if_neg him]
    · unfold endOne; rw [st_set hmk, if_pos rfl, hwhy, if_neg (by decide), if_pos hwm, hended]
      show endOf W q m = 0 + endOf W q m; omega
  · have := hperm.length_eq
    simp only [List.length_cons] at this
    show endOf W q m + 286 * ((left W ⟨endOf W q m, q.jobs.set m (stAfter W q m)⟩).length : Int) ≤ _
    rw [this] at hn1
    omega
  · have hi' : i < q.jobs.length := by rw [← hlen]; exact hi
    rw [st_set hmk]
    split
    · exact .inr hwhy
    · exact hI.st i hi'

theorem short_loop {W : Work} (hS : Short W) : ∀ (n : Nat) (q : Qu), SInv W q → 5000 - q.now ≤ n → ∀ L : List Int, List.Perm L (left W q) →
    (∀ i, i < q.jobs.length → ((dayLoop W 5000 n q).2.st i).why = 1) ∧ (dayLoop W 5000 n q).2.jobs.length = q.jobs.length ∧ endSum (dayLoop W 5000 n q).2 ≤ endSum q + cost W.rules.load q.now L
  | 0, q, hI, hf, _, _ => by have := hI.now1; omega
  | n + 1, q, hI, hf, L, hL => by
    have hn1 := hI.now1
    have hn0 := hI.now0
    cases hw : waits q.jobs with
    | false =>
      rw [day_stop (by rw [hw]; simp)]
      have hne : ∀ i, i < q.jobs.length → (q.st i).why = 1 := by
        intro i hi
        rcases hI.st i hi with ⟨h1, _⟩ | h1
        · unfold waits at hw
          rw [List.any_eq_false] at hw
          have := hw q.jobs[i] (List.getElem_mem hi)
          rw [Qu.st_eq hi] at h1
          simp [h1] at this
        · exact h1
      have hz : left W q = [] := by
        unfold left
        rw [List.map_eq_nil_iff, List.filter_eq_nil_iff]
        intro i hi
        simp only [List.mem_range] at hi
        rw [hne i hi]; decide
      rw [hz] at hL
      have := List.perm_nil.1 hL
      subst this
      exact ⟨hne, rfl, by simp [cost]⟩
    | true =>
      rw [day_go (by rw [hw]; simp; omega)]
      obtain ⟨m, hm, hmin, hp, hnow, hes, hI', hlen⟩ := short_step hS hI hw
      have hmem : (W.job m).claim ∈ L := (hL.trans hp).mem_iff.2 (by simp)
      have hL' : List.Perm (L.erase (W.job m).claim) (left W (nextStep W q).2) := by
        have := (hL.trans hp).erase (W.job m).claim
        rwa [List.erase_cons_head] at this
      have hc := hS.job m (by rw [← hI.len]; exact hm)
      have hrb := rules_bd (s := W.rules.slice) (l := W.rules.load) (d := W.rules.dump) (p := W.rules.patience) (r := W.rules.rate) hS.ok
      obtain ⟨a, b, c⟩ := short_loop hS n _ hI' (by omega) _ hL'
      have hcm := cost_min W.rules.load L q.now hmem (fun x hx => hmin x (hL.mem_iff.1 hx))
      refine ⟨by rw [← hlen]; exact a, by rw [← hlen]; exact b, ?_⟩
      rw [hes, hnow] at c
      show endSum (dayLoop W 5000 n (nextStep W q).2).2 ≤ _
      omega

theorem short_day {W : Work} (hS : Short W) (he : W.err = 0) (L : List Int) (hL : List.Perm L (W.jobs.map Job.claim)) :
    dayErr W 5000 = 0 ∧ (day W 5000).2.jobs.length = W.jobs.length ∧ (∀ i, i < W.jobs.length → ((day W 5000).2.st i).why = 1) ∧ endSum (day W 5000).2 ≤ cost W.rules.load 0 L := by
  have hE : dayErr W 5000 = 0 := by unfold dayErr; rw [if_pos he, if_pos (by decide)]
  have hbl : (beginQ W).jobs.length = W.jobs.length := by simp [beginQ]
  have hleft : left W (beginQ W) = W.jobs.map Job.claim := by
    unfold left
    rw [List.filter_eq_self.2 (fun i hi => by rw [begin_st (by simpa [hbl] using hi)]; rfl)]
    refine List.ext_getElem (by simp [hbl]) fun i h1 h2 => ?_
    simp only [List.getElem_map, List.getElem_range]
    rw [Work.job_eq (by simpa using h2)]
  have hI : SInv W (beginQ W) := by
    refine ⟨hbl, Int.le_refl _, ?_, fun i hi => .inl ?_⟩
    · rw [hleft]; have := hS.len; simp [beginQ]; omega
    · rw [begin_st (by omega)]; exact ⟨rfl, rfl, (hS.job i (by omega)).1⟩
  obtain ⟨a, b, c⟩ := short_loop hS (5000 : Int).toNat (beginQ W) hI (by rw [begin_now]; decide) L (by rw [hleft]; exact hL)
  have h0 : endSum (beginQ W) = 0 := by
    unfold endSum
    have : ∀ l : List Nat, (∀ i ∈ l, i < W.jobs.length) → (l.map (endOne (beginQ W))).sum = 0 := by
      intro l
      induction l with
      | nil => intro _; rfl
      | cons x l ih =>
        intro h
        simp only [List.map_cons, List.sum_cons, ih (fun i hi => h i (by simp [hi]))]
        unfold endOne; rw [begin_st (h x (by simp))]; rfl
    exact this _ fun i hi => by simpa [hbl] using hi
  refine ⟨hE, ?_⟩
  unfold day
  rw [if_pos hE]
  rw [hbl] at a b
  rw [h0, begin_now] at c
  exact ⟨b, a, by omega⟩

end Go.Proofs.Ytbjgebbfachgfaa
