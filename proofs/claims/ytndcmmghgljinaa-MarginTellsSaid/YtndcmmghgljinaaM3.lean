/- Plain laws of valves: what is asked, in closed form; the order of the checks. -/
import Derived.Test.YtndcmmghgljinaaM2
set_option linter.all false
namespace Go.Proofs.Ytndcmmghgljinaa

theorem insC_perm (c : MCk) (l : List MCk) : (insC c l).Perm (c :: l) := by
  unfold insC
  have h : (l.takeWhile (fun x => decide (x.hour ≤ c.hour)) ++ c :: l.dropWhile fun x => decide (x.hour ≤ c.hour)).Perm (c :: (l.takeWhile (fun x => decide (x.hour ≤ c.hour)) ++ l.dropWhile fun x => decide (x.hour ≤ c.hour))) := List.perm_middle
  rw [List.takeWhile_append_dropWhile] at h
  exact h
theorem take_le {c : MCk} : ∀ {l : List MCk}, ∀ x ∈ l.takeWhile (fun x => decide (x.hour ≤ c.hour)), x.hour ≤ c.hour
  | [], x, h => by cases h
  | y :: l, x, h => by
    rw [List.takeWhile_cons] at h
    split at h
    · rename_i hy
      rcases List.mem_cons.1 h with rfl | h
      · simpa using hy
      · exact take_le x h
    · cases h
theorem drop_gt {c : MCk} : ∀ {l : List MCk}, SortedC l → ∀ x ∈ l.dropWhile (fun x => decide (x.hour ≤ c.hour)), c.hour < x.hour
  | [], _, x, h => by cases h
  | y :: l, hs, x, h => by
    unfold SortedC at hs
    rw [List.pairwise_cons] at hs
    rw [List.dropWhile_cons] at h
    split at h
    · exact drop_gt hs.2 x h
    · rename_i hy
      simp at hy
      rcases List.mem_cons.1 h with rfl | h
      · exact hy
      · have := hs.1 x h; omega
theorem insC_sorted {c : MCk} {l : List MCk} (hs : SortedC l) : SortedC (insC c l) := by
  have hsplit : SortedC (l.takeWhile (fun x => decide (x.hour ≤ c.hour)) ++ l.dropWhile fun x => decide (x.hour ≤ c.hour)) := by rw [List.takeWhile_append_dropWhile]; exact hs
  unfold SortedC at hsplit
  rw [List.pairwise_append] at hsplit
  unfold SortedC insC
  rw [List.pairwise_append, List.pairwise_cons]
  refine ⟨hsplit.1, ⟨fun x hx => by have := drop_gt hs x hx; omega, hsplit.2.1⟩, fun a ha b hb => ?_⟩
  rcases List.mem_cons.1 hb with rfl | hb
  · exact take_le a ha
  · exact hsplit.2.2 a ha b hb
theorem sortC_snoc (l : List MCk) (c : MCk) : sortC (l ++ [c]) = insC c (sortC l) := by unfold sortC; rw [List.foldl_append]; rfl
theorem sortC_ok (l : List MCk) : SortedC (sortC l) ∧ (sortC l).Perm l := by
  induction l using snoc_ind with
  | h0 => exact ⟨List.Pairwise.nil, .refl _⟩
  | hs l c ih =>
    rw [sortC_snoc]
    exact ⟨insC_sorted ih.1, (insC_perm c _).trans ((List.Perm.cons c ih.2).trans (List.perm_append_singleton c l).symm)⟩
theorem lastH_iff {l : List MCk} {y : Int} : lastH l ≤ y ↔ 0 ≤ y ∧ ∀ c ∈ l, c.hour ≤ y := by
  constructor
  · induction l using snoc_ind with
    | h0 => intro h; exact ⟨h, fun c hc => by cases hc⟩
    | hs l a ih =>
      intro h
      rw [lastH_snoc] at h
      obtain ⟨h1, h2⟩ := ih (by omega)
      exact ⟨h1, fun c hc => by rcases List.mem_append.1 hc with h | h; exact h2 c h; simp at h; subst h; omega⟩
  · rintro ⟨h1, h2⟩; exact lastH_le h1 h2
theorem lastH_same {l l' : List MCk} (h : ∀ c, c ∈ l ↔ c ∈ l') : lastH l = lastH l' := by
  refine Int.le_antisymm ?_ ?_
  · obtain ⟨h1, h2⟩ := lastH_iff.1 (Int.le_refl (lastH l')); exact lastH_iff.2 ⟨h1, fun c hc => h2 c ((h c).1 hc)⟩
  · obtain ⟨h1, h2⟩ := lastH_iff.1 (Int.le_refl (lastH l)); exact lastH_iff.2 ⟨h1, fun c hc => h2 c ((h c).2 hc)⟩
open Classical in
/-- any order of the hours, of a permutation: one answer -/
theorem runC_perm {k : Kd} (hK : KOk k) {l cs : List MCk} (hs : SortedC l) (hp : ∀ c, c ∈ l ↔ c ∈ cs) (hok : ∀ c ∈ cs, 0 ≤ c.hour ∧ voltOk k c.volt = true) :
    runC k l (⟨k.new, k.new⟩, 0) = if Valid k cs then some (⟨loC k cs (lastH cs), max 0 (hiC k cs (lastH cs))⟩, lastH cs) else none := by
  rw [runC_eq hK l hs (fun c hc => hok c ((hp c).1 hc)), lastH_same hp, loC_same hp, hiC_same hp]
  by_cases hv : Valid k cs
  · rw [if_pos hv, if_pos (valid_same (fun c => (hp c).symm) hv)]
  · rw [if_neg hv, if_neg (fun h => hv (valid_same hp h))]
theorem known_eq {k : Kd} (hK : KOk k) {cs : List MCk} (hok : ∀ c ∈ cs, 0 ≤ c.hour ∧ voltOk k c.volt = true) {l : List MCk} (hs : SortedC l) (hp : l.Perm cs) : runC k l (⟨k.new, k.new⟩, 0) = known k cs := by
  obtain ⟨h1, h2⟩ := sortC_ok cs
  unfold known
  rw [runC_perm hK hs (fun c => hp.mem_iff) hok, runC_perm hK h1 (fun c => h2.mem_iff) hok]

end Go.Proofs.Ytndcmmghgljinaa
