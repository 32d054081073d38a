/- Plain laws of the two machines: a run cut, the first order that differs, stretches, marks. -/
import Derived.Test.YtleknidlgmmgbaaGreattfT3
set_option linter.all false
namespace Go.Proofs.YtleknidlgmmgbaaGreat

theorem run_nil (s : St4) (n : Nat) : run12 s [] n = run4 n s := after_nil n 0 s
theorem run12_snoc (s : St4) (fs : List Flt) (n : Nat) : run12 s fs (n + 1) = do12 fs n (run12 s fs n) := by
  unfold run12
  rw [after_snoc, Nat.zero_add]

/- the first order after which they differ -/
theorem first_some {s : St4} {fs : List Flt} {most n : Nat} (h : firstN s fs most = some n) : n < most ∧ run12 s fs n = run4 n s ∧ run12 s fs (n + 1) ≠ run4 (n + 1) s := by
  unfold firstN at h
  have h1 := List.find?_some h
  have h2 := List.mem_of_find?_eq_some h
  have hn := List.mem_range.1 h2
  refine ⟨hn, ?_, by simpa [firstU] using h1⟩
  obtain ⟨_, i, hi, he, hlt⟩ := List.find?_eq_some_iff_getElem.1 h
  rw [List.length_range] at hi
  rw [List.getElem_range] at he
  subst he
  cases i with
  | zero => rfl
  | succ j =>
    have := hlt j (by omega)
    rw [List.getElem_range] at this
    simpa [firstU] using this
theorem first_none12 {s : St4} {fs : List Flt} {most : Nat} (h : firstN s fs most = none) : ∀ n, n ≤ most → run12 s fs n = run4 n s := by
  intro n hn
  cases n with
  | zero => rfl
  | succ j =>
    have := List.find?_eq_none.1 h j (List.mem_range.2 (by omega))
    simpa [firstU] using this
theorem first_le {s : St4} {fs : List Flt} {most m : Nat} (hm : m < most) (h : run12 s fs (m + 1) ≠ run4 (m + 1) s) : ∃ n, firstN s fs most = some n ∧ n ≤ m := by
  cases hf : firstN s fs most with
  | none => exact absurd (first_none12 hf (m + 1) (by omega)) h
  | some n =>
    refine ⟨n, rfl, ?_⟩
    obtain ⟨_, i, hi, he, hlt⟩ := List.find?_eq_some_iff_getElem.1 hf
    rw [List.length_range] at hi
    rw [List.getElem_range] at he
    subst he
    rcases Nat.lt_or_ge m i with h1 | h1
    · have := hlt m h1
      rw [List.getElem_range] at this
      exact absurd (by simpa [firstU] using this) h
    · exact h1
/- stretches -/
theorem after_same {fs : List Flt} : ∀ {k b : Nat} {s : St4}, (∀ f ∈ fs, ¬ ((b : Int) ≤ f.done ∧ f.done < ((b + k : Nat) : Int))) → after12 fs b k s = after12 [] b k s
  | 0, _, _, _ => rfl
  | k + 1, b, s, h => by
    show after12 fs (b + 1) k (do12 fs b s) = after12 [] (b + 1) k (do12 [] b s)
    have : do12 fs b s = do12 [] b s := by
      unfold do12
      rw [hit_none (List.filter_eq_nil_iff.2 (fun f hf => by have := h f hf; simp; omega))]
      rfl
    rw [this]
    exact after_same (fun f hf => by have := h f hf; omega)
theorem end_gt {every most i : Nat} (he : 1 ≤ every) (hi : i < cntN every most) : i * every < endN every most i ∧ endN every most i ≤ most ∧ endN every most i ≤ i * every + every := by
  unfold cntN at hi
  unfold endN
  have h1 : i * every < most := by
    have h2 : (i + 1) * every ≤ most + every - 1 := Nat.le_trans (Nat.mul_le_mul_right every (show i + 1 ≤ (most + every - 1) / every from hi)) (Nat.div_mul_le_self _ _)
    rw [Nat.add_mul, Nat.one_mul] at h2
    omega
  rw [Nat.add_mul, Nat.one_mul]
  omega
theorem cnt_last {every most : Nat} (he : 1 ≤ every) {i : Nat} (h : cntN every most ≤ i) : most ≤ i * every := by
  unfold cntN at h
  have h1 := Nat.lt_div_mul_add (a := most + every - 1) (b := every) (by omega)
  have h2 := Nat.mul_le_mul_right every h
  omega
/-- a stretch that comes out differently has a fault in it -/
theorem dif_hit {s : St4} {fs : List Flt} {every most i : Nat} (he : 1 ≤ every) (hi : i < cntN every most) (h : difI s fs every most i = true) : ∃ f ∈ fs, (i * every : Int) ≤ f.done ∧ f.done < (i * every : Int) + every := by
  apply Classical.byContradiction
  intro hn
  obtain ⟨g1, g2, g3⟩ := end_gt he hi
  unfold difI at h
  rw [decide_eq_true_eq] at h
  apply h
  have h1 := after_add fs (endN every most i - i * every) (i * every) 0 s
  rw [show i * every + (endN every most i - i * every) = endN every most i by omega, Nat.zero_add] at h1
  show run12 s fs _ = _
  unfold run12
  rw [h1]
  refine after_same (fun f hf hd => hn ⟨f, hf, ?_⟩)
  have e1 : ((i * every : Nat) : Int) = (i : Int) * (every : Int) := Int.natCast_mul _ _
  have e2 : ((i * every + (endN every most i - i * every) : Nat) : Int) ≤ (i : Int) * every + every := by rw [← e1]; omega
  rw [e1] at hd
  exact ⟨hd.1, by omega⟩
theorem dif_one {s : St4} {fs : List Flt} {most i : Nat} (hi : i < most) : difI s fs 1 most i = decide (run12 s fs (i + 1) ≠ go4 (run12 s fs i)) := by
  unfold difI endN
  rw [show min most ((i + 1) * 1) = i + 1 by omega, show i * 1 = i by omega, show i + 1 - i = 1 by omega]
  rfl
theorem cnt_one (most : Nat) : cntN 1 most = most := by unfold cntN; simp
/-- with single orders: the first stretch that differs is the first order -/
theorem dif_first {s : St4} {fs : List Flt} {most n : Nat} (h : firstN s fs most = some n) : difI s fs 1 most n = true ∧ ∀ i, i < n → difI s fs 1 most i = false := by
  obtain ⟨h1, h2, h3⟩ := first_some h
  have hlt : ∀ i, i ≤ n → run12 s fs i = run4 i s := by
    intro i hi
    by_cases e : run12 s fs i = run4 i s
    · exact e
    · cases i with
      | zero => exact absurd rfl e
      | succ j =>
        obtain ⟨m, hm, hle⟩ := first_le (most := most) (m := j) (by omega) e
        rw [h] at hm
        cases hm
        omega
  refine ⟨?_, fun i hi => ?_⟩
  · rw [dif_one h1, decide_eq_true_eq, h2, ← run4_snoc]; exact h3
  · rw [dif_one (by omega), decide_eq_false_iff_not, hlt i (by omega), hlt (i + 1) (by omega), ← run4_snoc]
    exact fun g => g rfl
theorem dif_never {s : St4} {fs : List Flt} {most : Nat} (h : firstN s fs most = none) : ∀ i, i < most → difI s fs 1 most i = false := by
  intro i hi
  rw [dif_one hi, decide_eq_false_iff_not, first_none12 h i (by omega), first_none12 h (i + 1) (by omega), ← run4_snoc]
  exact fun g => g rfl
theorem halfU_mem {s : St4} {fs : List Flt} {every most : Nat} {odd : Bool} {x : Int} : ∀ {n : Nat}, x ∈ halfU s fs every most odd n ↔ ∃ i : Nat, i < n ∧ x = i ∧ (decide (i % 2 = 1) = odd) ∧ difI s fs every most i = true
  | 0 => by simp [halfU]
  | n + 1 => by
    have ih := halfU_mem (s := s) (fs := fs) (every := every) (most := most) (odd := odd) (x := x) (n := n)
    unfold halfU
    split
    · rename_i hc
      rw [Bool.and_eq_true, beq_iff_eq] at hc
      rw [List.mem_append, List.mem_singleton, ih]
      constructor
      · rintro (⟨i, h1, h2⟩ | h)
        · exact ⟨i, by omega, h2⟩
        · exact ⟨n, by omega, h, hc⟩
      · rintro ⟨i, h1, h2, h3⟩
        rcases Nat.lt_or_ge i n with g | g
        · exact .inl ⟨i, g, h2, h3⟩
        · have : i = n := by omega
          subst this; exact .inr h2
    · rename_i hc
      rw [Bool.and_eq_true, beq_iff_eq] at hc
      rw [ih]
      constructor
      · rintro ⟨i, h1, h2⟩; exact ⟨i, by omega, h2⟩
      · rintro ⟨i, h1, h2, h3⟩
        rcases Nat.lt_or_ge i n with g | g
        · exact ⟨i, g, h2, h3⟩
        · have : i = n := by omega
          subst this; exact absurd h3 hc
theorem halfU_asc {s : St4} {fs : List Flt} {every most : Nat} {odd : Bool} : ∀ {n : Nat}, (halfU s fs every most odd n).Pairwise (fun a b => a < b)
  | 0 => List.Pairwise.nil
  | n + 1 => by
    unfold halfU
    split
    · rw [List.pairwise_append]
      refine ⟨halfU_asc, List.pairwise_singleton _ _, fun a ha b hb => ?_⟩
      obtain ⟨i, h1, rfl, _⟩ := halfU_mem.1 ha
      rw [List.mem_singleton] at hb
      omega
    · exact halfU_asc
/-- marks that differ: the first order that does comes before -/
theorem mark_first {s : St4} {fs : List Flt} {every most i : Nat} (he : 1 ≤ every) (hi : i < cntN every most) (h : markI s fs every most i ≠ markI s [] every most i) : ∃ n, firstN s fs most = some n ∧ n < endN every most i := by
  obtain ⟨g1, g2, _⟩ := end_gt he hi
  have hd : run12 s fs (endN every most i) ≠ run4 (endN every most i) s := by
    intro e
    apply h
    unfold markI
    rw [e, run_nil]
  obtain ⟨m, hm⟩ : ∃ m, endN every most i = m + 1 := ⟨endN every most i - 1, by omega⟩
  rw [hm] at hd g2 ⊢
  obtain ⟨n, h1, h2⟩ := first_le (most := most) (m := m) (by omega) hd
  exact ⟨n, h1, by omega⟩

end Go.Proofs.YtleknidlgmmgbaaGreat
