/- Plain laws of valves: what a group's check says of the strengths in any truth. -/
import Derived.Test.YtndcmmghgljinaarbW18
set_option linter.all false
namespace Go.Proofs.Ytndcmmghgljinaa

/-- in ascending order, and which -/
theorem susUp_get {need : Int} {l : List Span} : ∀ {n : Nat} {i : Nat} (h : i < (susUp need l n).length), ∃ j : Nat, (susUp need l n)[i] = (j : Int) ∧ j < n ∧ (l.getD j Span.zero).lo < need
  | 0, i, h => by simp [susUp] at h
  | n + 1, i, h => by
    have hm := List.getElem_mem h
    revert hm
    generalize (susUp need l (n + 1))[i] = x
    intro hm
    unfold susUp at hm
    split at hm
    · rename_i hlt
      rcases List.mem_append.1 hm with hm | hm
      · obtain ⟨q, hq, rfl⟩ := List.mem_iff_getElem.1 hm
        obtain ⟨j, h1, h2, h3⟩ := susUp_get hq
        exact ⟨j, h1, by omega, h3⟩
      · simp at hm; subst hm; exact ⟨n, rfl, by omega, hlt⟩
    · obtain ⟨q, hq, rfl⟩ := List.mem_iff_getElem.1 hm
      obtain ⟨j, h1, h2, h3⟩ := susUp_get hq
      exact ⟨j, h1, by omega, h3⟩
theorem susUp_asc {need : Int} {l : List Span} : ∀ {n : Nat}, (susUp need l n).Pairwise (fun a b => a < b)
  | 0 => List.Pairwise.nil
  | n + 1 => by
    unfold susUp
    split
    · rw [List.pairwise_append]
      refine ⟨susUp_asc, List.pairwise_singleton _ _, fun a ha b hb => ?_⟩
      obtain ⟨j, h1, rfl⟩ := susUp_mem ha
      simp at hb; subst hb; omega
    · exact susUp_asc
theorem susUp_has {need : Int} {l : List Span} {j : Nat} : ∀ {n : Nat}, j < n → (l.getD j Span.zero).lo < need → (j : Int) ∈ susUp need l n
  | 0, h, _ => by omega
  | n + 1, h, hlt => by
    unfold susUp
    by_cases e : j = n
    · subst e; rw [if_pos hlt]; simp
    · have := susUp_has (n := n) (by omega) hlt
      split
      · exact List.mem_append_left _ this
      · exact this
theorem grp_okS {k : Kd} {l : List Span} {v : Int} {p : Bool} (he : (grpRes k l v p).2.2 = 0) : KOk k ∧ voltOk k v = true ∧ l.length ≤ 12 ∧ (∀ i (h : i < l.length), spErr l[i] = 0) ∧ grpDown k l v p = false ∧ grpRes k l v p = (aftOf k l v p, susOf k l v p, 0) := by
  unfold grpRes at he ⊢
  by_cases h1 : grpErr k l v ≠ 0
  · rw [if_pos h1] at he; exact absurd he h1
  · rw [if_neg h1] at he ⊢
    by_cases h2 : grpDown k l v p = true
    · rw [if_pos h2] at he; cases he
    · rw [if_neg h2]
      have h3 : grpErr k l v = 0 := by simpa using h1
      unfold grpErr at h3
      by_cases g1 : kdErr k ≠ 0
      · rw [if_pos g1] at h3; exact absurd h3 g1
      rw [if_neg g1] at h3
      by_cases g2 : voltOk k v = false
      · rw [if_pos g2] at h3; cases h3
      rw [if_neg g2] at h3
      by_cases g3 : 12 < l.length
      · rw [if_pos g3] at h3; cases h3
      rw [if_neg g3] at h3
      refine ⟨kok_of (by simpa using g1), by simpa using g2, by omega, fun i hi => ?_, by simpa using h2, rfl⟩
      cases hf : l.find? (fun s => spErr s != 0) with
      | none => have := List.find?_eq_none.1 hf _ (List.getElem_mem hi); simpa using this
      | some s => rw [hf] at h3; have := List.find?_some hf; simp at this; exact absurd h3 this
theorem aft_lenS {k : Kd} {l : List Span} {v : Int} {p : Bool} : (aftOf k l v p).length = l.length := by
  unfold aftOf
  split
  · simp
  · split <;> simp
/-- the only suspect is surely below -/
theorem aft_only {k : Kd} {l : List Span} {v : Int} {x : Int} (h : susOf k l v false = [x]) : ∃ j : Nat, x = j ∧ j < l.length ∧ ((aftOf k l v false).getD j Span.zero).hi < needed k v := by
  unfold susOf at h
  rw [if_neg (by decide)] at h
  obtain ⟨j, h1, rfl⟩ := susUp_mem (show x ∈ susUp (needed k v) l l.length by rw [h]; simp)
  refine ⟨j, rfl, h1, ?_⟩
  unfold aftOf
  rw [if_neg (by decide), h]
  simp only [Int.toNat_natCast]
  rw [getD_get (by simpa using h1), List.getElem_set_self]
  show min _ (needed k v - 1) < _
  omega
/-- the number below, and whether each is in its span, of the first ones -/
def belUp (need : Int) (x : Nat → Int) : Nat → Int
  | 0 => 0
  | i + 1 => if x i < need then belUp need x i + 1 else belUp need x i
def inUp (l : List Span) (x : Nat → Int) : Nat → Bool
  | 0 => true
  | i + 1 => inUp l x i && decide ((l.getD i Span.zero).lo ≤ x i) && decide (x i ≤ (l.getD i Span.zero).hi)
theorem belUp_nn (need : Int) (x : Nat → Int) : ∀ i, 0 ≤ belUp need x i ∧ belUp need x i ≤ i
  | 0 => by unfold belUp; omega
  | i + 1 => by have := belUp_nn need x i; unfold belUp; split <;> omega
theorem belUp_zero {need : Int} {x : Nat → Int} : ∀ {i : Nat}, belUp need x i = 0 ↔ ∀ j, j < i → need ≤ x j
  | 0 => by simp [belUp]
  | i + 1 => by
    have h1 := belUp_nn need x i
    have h2 := belUp_zero (need := need) (x := x) (i := i)
    unfold belUp
    constructor
    · intro h j hj
      split at h
      · omega
      · by_cases e : j = i
        · subst e; omega
        · exact h2.1 h j (by omega)
    · intro h
      rw [if_neg (by have := h i (by omega); omega)]
      exact h2.2 (fun j hj => h j (by omega))
theorem inUp_true {l : List Span} {x : Nat → Int} : ∀ {i : Nat}, (∀ j, j < i → (l.getD j Span.zero).lo ≤ x j ∧ x j ≤ (l.getD j Span.zero).hi) → inUp l x i = true
  | 0, _ => rfl
  | i + 1, h => by
    unfold inUp
    rw [inUp_true (fun j hj => h j (by omega))]
    have := h i (by omega)
    rw [decide_eq_true this.1, decide_eq_true this.2]
    rfl
/-- strengths in their spans: as the check says, or not in a truth -/
theorem grp_in {k : Kd} {l : List Span} {v : Int} {p : Bool} {x : Nat → Int} (hx : ∀ j, j < l.length → (l.getD j Span.zero).lo ≤ x j ∧ x j ≤ (l.getD j Span.zero).hi) (hp : p = true ↔ belUp (needed k v) x l.length = 0) : inUp (aftOf k l v p) x l.length = true := by
  refine inUp_true fun j hj => ?_
  obtain ⟨h1, h2⟩ := hx j hj
  rw [getD_get hj] at h1 h2
  cases p with
  | true =>
    have h3 := belUp_zero.1 (hp.1 rfl) j hj
    have e : aftOf k l v true = l.map (fun s => agreed k s v true) := by unfold aftOf; rw [if_pos rfl]
    rw [e, getD_get (by simpa using hj), List.getElem_map]
    show max _ _ ≤ _ ∧ _
    exact ⟨by omega, h2⟩
  | false =>
    unfold aftOf
    rw [if_neg (by decide)]
    split
    · rename_i i hs
      obtain ⟨q, hq, rfl⟩ := susUp_mem (show i ∈ susUp (needed k v) l l.length by rw [hs]; simp)
      simp only [Int.toNat_natCast]
      rw [getD_get (by simpa using hj)]
      by_cases e : q = j
      · subst e
        rw [List.getElem_set_self, getD_get hj]
        have hb : ¬ belUp (needed k v) x l.length = 0 := fun h => by have := hp.2 h; cases this
        have hex : ∃ y, y < l.length ∧ x y < needed k v := by
          apply Classical.byContradiction
          intro hn
          exact hb (belUp_zero.2 fun y hy => by
            by_cases g : needed k v ≤ x y
            · exact g
            · exact absurd ⟨y, hy, by omega⟩ hn)
        obtain ⟨y, hy, hlt⟩ := hex
        have hin := susUp_has (need := needed k v) (l := l) hy (by have := (hx y hy).1; omega)
        rw [hs] at hin
        simp at hin
        have : y = q := by omega
        subst this
        show _ ≤ _ ∧ _ ≤ min _ _
        exact ⟨h1, by omega⟩
      · rw [List.getElem_set_ne e]; exact ⟨h1, h2⟩
    · rw [getD_get hj]; exact ⟨h1, h2⟩

end Go.Proofs.Ytndcmmghgljinaa
