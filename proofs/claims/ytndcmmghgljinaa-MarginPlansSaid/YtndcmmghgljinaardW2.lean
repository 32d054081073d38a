/- The contracts of what a valve needs. -/
import Derived.Test.YtndcmmghgljinaardM1
set_option linter.all false
namespace Go.Proofs.Ytndcmmghgljinaa

section
def loC (k : Kd) (cs : List MCk) (t : Int) : Int := cs.foldl (fun m c => if c.passed then max m (needed k c.volt - (t - c.hour) * k.wear.hi) else m) (max 0 (k.new - t * k.wear.hi))
def hiC (k : Kd) (cs : List MCk) (t : Int) : Int := cs.foldl (fun m c => if c.passed then m else min m (needed k c.volt - 1 - (t - c.hour) * k.wear.lo)) (k.new - t * k.wear.lo)

theorem loC_snoc (k : Kd) (l : List MCk) (c : MCk) (t : Int) : loC k (l ++ [c]) t = if c.passed then max (loC k l t) (needed k c.volt - (t - c.hour) * k.wear.hi) else loC k l t := by
  unfold loC; rw [List.foldl_append]; rfl
theorem hiC_snoc (k : Kd) (l : List MCk) (c : MCk) (t : Int) : hiC k (l ++ [c]) t = if c.passed then hiC k l t else min (hiC k l t) (needed k c.volt - 1 - (t - c.hour) * k.wear.lo) := by
  unfold hiC; rw [List.foldl_append]; rfl
theorem foldmax {f : MCk → Int} (p : MCk → Bool) : ∀ (l : List MCk) (m y : Int), l.foldl (fun m c => if p c then max m (f c) else m) m ≤ y ↔ m ≤ y ∧ ∀ c ∈ l, p c = true → f c ≤ y
  | [], m, y => by simp
  | c :: l, m, y => by
    rw [List.foldl_cons, foldmax p l]
    by_cases h : p c = true
    · rw [if_pos h]
      constructor
      · rintro ⟨h1, h2⟩
        exact ⟨by omega, fun x hx hp => by rcases List.mem_cons.1 hx with rfl | hx; omega; exact h2 x hx hp⟩
      · rintro ⟨h1, h2⟩
        have := h2 c (by simp) h
        exact ⟨by omega, fun x hx hp => h2 x (by simp [hx]) hp⟩
    · rw [if_neg h]
      constructor
      · rintro ⟨h1, h2⟩
        exact ⟨h1, fun x hx hp => by rcases List.mem_cons.1 hx with rfl | hx; exact absurd hp h; exact h2 x hx hp⟩
      · rintro ⟨h1, h2⟩
        exact ⟨h1, fun x hx hp => h2 x (by simp [hx]) hp⟩
theorem foldmin {f : MCk → Int} (p : MCk → Bool) : ∀ (l : List MCk) (m y : Int), y ≤ l.foldl (fun m c => if p c then m else min m (f c)) m ↔ y ≤ m ∧ ∀ c ∈ l, p c = false → y ≤ f c
  | [], m, y => by simp
  | c :: l, m, y => by
    rw [List.foldl_cons, foldmin p l]
    by_cases h : p c = true
    · rw [if_pos h]
      constructor
      · rintro ⟨h1, h2⟩
        exact ⟨h1, fun x hx hp => by rcases List.mem_cons.1 hx with rfl | hx; rw [h] at hp; cases hp; exact h2 x hx hp⟩
      · rintro ⟨h1, h2⟩
        exact ⟨h1, fun x hx hp => h2 x (by simp [hx]) hp⟩
    · rw [if_neg h]
      constructor
      · rintro ⟨h1, h2⟩
        exact ⟨by omega, fun x hx hp => by rcases List.mem_cons.1 hx with rfl | hx; omega; exact h2 x hx hp⟩
      · rintro ⟨h1, h2⟩
        have := h2 c (by simp) (by simpa using h)
        exact ⟨by omega, fun x hx hp => h2 x (by simp [hx]) hp⟩
/-- the least strength, by what it is not above -/
theorem loC_le {k : Kd} {cs : List MCk} {t y : Int} : loC k cs t ≤ y ↔ 0 ≤ y ∧ k.new - t * k.wear.hi ≤ y ∧ ∀ c ∈ cs, c.passed = true → needed k c.volt - (t - c.hour) * k.wear.hi ≤ y := by
  unfold loC
  rw [foldmax (fun c => c.passed)]
  constructor
  · rintro ⟨h1, h2⟩; exact ⟨by omega, by omega, h2⟩
  · rintro ⟨h1, h2, h3⟩; exact ⟨by omega, h3⟩
theorem le_hiC {k : Kd} {cs : List MCk} {t y : Int} : y ≤ hiC k cs t ↔ y ≤ k.new - t * k.wear.lo ∧ ∀ c ∈ cs, c.passed = false → y ≤ needed k c.volt - 1 - (t - c.hour) * k.wear.lo := by
  unfold hiC
  exact foldmin (fun c => c.passed) cs _ _
theorem loC_nn (k : Kd) (cs : List MCk) (t : Int) : 0 ≤ loC k cs t := (loC_le.1 (Int.le_refl (loC k cs t))).1
/-- they hang on which checks there are, alone -/
theorem loC_mono {k : Kd} {l l' : List MCk} (h : ∀ c ∈ l, c ∈ l') (t : Int) : loC k l t ≤ loC k l' t := by
  obtain ⟨h1, h2, h3⟩ := loC_le.1 (Int.le_refl (loC k l' t))
  exact loC_le.2 ⟨h1, h2, fun c hc hp => h3 c (h c hc) hp⟩
theorem hiC_mono {k : Kd} {l l' : List MCk} (h : ∀ c ∈ l, c ∈ l') (t : Int) : hiC k l' t ≤ hiC k l t := by
  obtain ⟨h1, h2⟩ := le_hiC.1 (Int.le_refl (hiC k l' t))
  exact le_hiC.2 ⟨h1, fun c hc hp => h2 c (h c hc) hp⟩
theorem loC_same {k : Kd} {l l' : List MCk} (h : ∀ c, c ∈ l ↔ c ∈ l') (t : Int) : loC k l t = loC k l' t := Int.le_antisymm (loC_mono (fun c hc => (h c).1 hc) t) (loC_mono (fun c hc => (h c).2 hc) t)
theorem hiC_same {k : Kd} {l l' : List MCk} (h : ∀ c, c ∈ l ↔ c ∈ l') (t : Int) : hiC k l t = hiC k l' t := Int.le_antisymm (hiC_mono (fun c hc => (h c).2 hc) t) (hiC_mono (fun c hc => (h c).1 hc) t)
/-- hours later -/
theorem loC_later {k : Kd} (l : List MCk) {t d : Int} (hw : 0 ≤ k.wear.hi) (hd : 0 ≤ d) : max 0 (loC k l t - d * k.wear.hi) = loC k l (t + d) := by
  have hdw : 0 ≤ d * k.wear.hi := Int.mul_nonneg hd hw
  have e : ∀ x : Int, x - (t + d) * k.wear.hi = x - t * k.wear.hi - d * k.wear.hi := by intro x; rw [Int.add_mul]; omega
  have e2 : ∀ x h : Int, x - (t + d - h) * k.wear.hi = x - (t - h) * k.wear.hi - d * k.wear.hi := by intro x h; rw [show t + d - h = (t - h) + d by omega, Int.add_mul]; omega
  refine Int.le_antisymm ?_ ?_
  · obtain ⟨h1, h2, h3⟩ := loC_le.1 (Int.le_refl (loC k l (t + d)))
    have : loC k l t ≤ loC k l (t + d) + d * k.wear.hi := loC_le.2 ⟨by omega, by rw [e] at h2; omega, fun c hc hp => by have := h3 c hc hp; rw [e2] at this; omega⟩
    omega
  · obtain ⟨h1, h2, h3⟩ := loC_le.1 (Int.le_refl (loC k l t))
    exact loC_le.2 ⟨by omega, by rw [e]; omega, fun c hc hp => by have := h3 c hc hp; rw [e2]; omega⟩
theorem hiC_later {k : Kd} (l : List MCk) {t d : Int} : hiC k l t - d * k.wear.lo = hiC k l (t + d) := by
  have e : ∀ x : Int, x - (t + d) * k.wear.lo = x - t * k.wear.lo - d * k.wear.lo := by intro x; rw [Int.add_mul]; omega
  have e2 : ∀ x h : Int, x - (t + d - h) * k.wear.lo = x - (t - h) * k.wear.lo - d * k.wear.lo := by intro x h; rw [show t + d - h = (t - h) + d by omega, Int.add_mul]; omega
  refine Int.le_antisymm ?_ ?_
  · obtain ⟨h1, h2⟩ := le_hiC.1 (Int.le_refl (hiC k l t))
    exact le_hiC.2 ⟨by rw [e]; omega, fun c hc hp => by have := h2 c hc hp; rw [e2]; omega⟩
  · obtain ⟨h1, h2⟩ := le_hiC.1 (Int.le_refl (hiC k l (t + d)))
    have : hiC k l (t + d) + d * k.wear.lo ≤ hiC k l t := le_hiC.2 ⟨by rw [e] at h1; omega, fun c hc hp => by have := h2 c hc hp; rw [e2] at this; omega⟩
    omega

/-- the checks up to an hour -/
def upto (l : List MCk) (h : Int) : List MCk := l.filter fun c => decide (c.hour ≤ h)
/-- a truth is left -/
def Valid (k : Kd) (l : List MCk) : Prop := ∀ c ∈ l, loC k (upto l c.hour) c.hour ≤ max 0 (hiC k (upto l c.hour) c.hour) ∧ (c.passed = false → 1 ≤ needed k c.volt)
theorem upto_same {l l' : List MCk} (h : ∀ c, c ∈ l ↔ c ∈ l') (t : Int) (c : MCk) : c ∈ upto l t ↔ c ∈ upto l' t := by simp [upto, h]
theorem valid_same {k : Kd} {l l' : List MCk} (h : ∀ c, c ∈ l ↔ c ∈ l') (hv : Valid k l) : Valid k l' := by
  intro c hc
  have := hv c ((h c).2 hc)
  rw [loC_same (upto_same h c.hour), hiC_same (upto_same h c.hour)] at this
  exact this
def lastH (l : List MCk) : Int := l.foldl (fun m c => max m c.hour) 0
def SortedC (l : List MCk) : Prop := l.Pairwise fun a b => a.hour ≤ b.hour

theorem runC_snoc (k : Kd) : ∀ (l : List MCk) (c : MCk) (s : Span × Int), runC k (l ++ [c]) s = (runC k l s).bind fun s' => runC k [c] s'
  | [], c, s => rfl
  | x :: l, c, (s, h) => by
    simp only [List.cons_append, runC]
    split
    · rfl
    · exact runC_snoc k l c _

theorem snoc_ind {α : Type} {p : List α → Prop} (h0 : p []) (hs : ∀ l a, p l → p (l ++ [a])) (l : List α) : p l := by
  have key : ∀ l : List α, p l.reverse := by
    intro l
    induction l with
    | nil => exact h0
    | cons a l ih => rw [List.reverse_cons]; exact hs _ _ ih
  have := key l.reverse
  rwa [List.reverse_reverse] at this
theorem lastH_snoc (l : List MCk) (c : MCk) : lastH (l ++ [c]) = max (lastH l) c.hour := by unfold lastH; rw [List.foldl_append]; rfl
theorem lastH_le {l : List MCk} {y : Int} (h0 : 0 ≤ y) (h : ∀ c ∈ l, c.hour ≤ y) : lastH l ≤ y := by
  induction l using snoc_ind with
  | h0 => exact h0
  | hs l a ih =>
    rw [lastH_snoc]
    have := ih (fun c hc => h c (by simp [hc]))
    have := h a (by simp)
    omega
theorem upto_all {l : List MCk} {t : Int} (h : ∀ c ∈ l, c.hour ≤ t) : upto l t = l := by
  unfold upto
  exact List.filter_eq_self.2 fun c hc => by simpa using h c hc
theorem valid_snoc {k : Kd} {l : List MCk} {c : MCk} (hs : ∀ x ∈ l, x.hour ≤ c.hour) :
    Valid k (l ++ [c]) ↔ Valid k l ∧ loC k (l ++ [c]) c.hour ≤ max 0 (hiC k (l ++ [c]) c.hour) ∧ (c.passed = false → 1 ≤ needed k c.volt) := by
  have hall : upto (l ++ [c]) c.hour = l ++ [c] := upto_all fun x hx => by
    rcases List.mem_append.1 hx with h | h
    · exact hs x h
    · simp at h; rw [h]; exact Int.le_refl _
  constructor
  · intro hv
    refine ⟨fun x hx => ?_, ?_⟩
    · obtain ⟨h1, h2⟩ := hv x (by simp [hx])
      refine ⟨?_, h2⟩
      have hsub : ∀ y ∈ upto l x.hour, y ∈ upto (l ++ [c]) x.hour := by
        intro y hy; unfold upto at hy ⊢; rw [List.mem_filter] at hy ⊢; exact ⟨by simp [hy.1], hy.2⟩
      have a1 := loC_mono (k := k) hsub x.hour
      have a2 := hiC_mono (k := k) hsub x.hour
      omega
    · have := hv c (by simp)
      rw [hall] at this; exact this
  · rintro ⟨h1, h2, h3⟩ x hx
    rcases List.mem_append.1 hx with h | h
    · obtain ⟨a1, a2⟩ := h1 x h
      refine ⟨?_, a2⟩
      by_cases he : x.hour = c.hour
      · rw [he, hall]; exact h2
      · have hne : upto (l ++ [c]) x.hour = upto l x.hour := by
          unfold upto
          rw [List.filter_append, List.filter_cons_of_neg (by have := hs x h; simp; omega)]
          simp
        rw [hne]; exact a1
    · simp at h; subst h
      rw [hall]; exact ⟨h2, h3⟩
open Classical in
/-- check by check, in order of the hours: what the closed form says -/
theorem runC_eq {k : Kd} (hK : KOk k) (l : List MCk) : SortedC l → (∀ c ∈ l, 0 ≤ c.hour ∧ voltOk k c.volt = true) →
    runC k l (⟨k.new, k.new⟩, 0) = if Valid k l then some (⟨loC k l (lastH l), max 0 (hiC k l (lastH l))⟩, lastH l) else none := by
  have hn0 := hK.n0
  have hw0 := hK.w0
  have hw1 := hK.w1
  induction l using snoc_ind with
  | h0 =>
    intro _ _
    have hv0 : Valid k [] := fun c hc => by cases hc
    rw [if_pos hv0]
    have e1 : loC k [] (lastH []) = k.new := by show max 0 (k.new - 0 * k.wear.hi) = _; omega
    have e2 : hiC k [] (lastH []) = k.new := by show k.new - 0 * k.wear.lo = _; omega
    rw [e1, e2]
    show some _ = some _
    rw [show max 0 k.new = k.new by omega]
    rfl
  | hs l c ih =>
    intro hs hok
    unfold SortedC at hs
    rw [List.pairwise_append] at hs
    have hle : ∀ x ∈ l, x.hour ≤ c.hour := fun x hx => hs.2.2 x hx c (by simp)
    obtain ⟨hc0, hcv⟩ := hok c (by simp)
    have hn := needed_bd hK hcv
    rw [runC_snoc, ih hs.1 (fun x hx => hok x (by simp [hx])), lastH_snoc]
    have hlh : lastH l ≤ c.hour := lastH_le hc0 hle
    have hmx : max (lastH l) c.hour = c.hour := by omega
    rw [hmx]
    by_cases hv : Valid k l
    · rw [if_pos hv]
      have hd : 0 ≤ c.hour - lastH l := by omega
      have e1 := loC_later (k := k) l (t := lastH l) (d := c.hour - lastH l) (by omega) hd
      have e2 := hiC_later (k := k) l (t := lastH l) (d := c.hour - lastH l)
      rw [show lastH l + (c.hour - lastH l) = c.hour by omega] at e1 e2
      have hdw : 0 ≤ (c.hour - lastH l) * k.wear.lo := Int.mul_nonneg hd hw0
      have e3 : max 0 (max 0 (hiC k l (lastH l)) - (c.hour - lastH l) * k.wear.lo) = max 0 (hiC k l c.hour) := by omega
      have hnn := loC_nn k l c.hour
      simp only [Option.bind_some, runC, later, e1, e3]
      have hz : ∀ w : Int, (c.hour - c.hour) * w = 0 := by intro w; rw [Int.sub_self, Int.zero_mul]
      cases hp : c.passed with
      | true =>
        have l1 : loC k (l ++ [c]) c.hour = max (loC k l c.hour) (needed k c.volt) := by rw [loC_snoc, if_pos hp, hz]; omega
        have l2 : hiC k (l ++ [c]) c.hour = hiC k l c.hour := by rw [hiC_snoc, if_pos hp]
        simp only [agreed, if_true]
        by_cases hb : max 0 (hiC k l c.hour) < max (loC k l c.hour) (needed k c.volt)
        · rw [if_pos hb, if_neg]
          rw [valid_snoc hle, l1, l2]
          rintro ⟨_, h2, _⟩; omega
        · rw [if_neg hb, if_pos ((valid_snoc hle).2 ⟨hv, by rw [l1, l2]; omega, fun h => by rw [hp] at h; cases h⟩), l1, l2]
      | false =>
        have l1 : loC k (l ++ [c]) c.hour = loC k l c.hour := by rw [loC_snoc, if_neg (by rw [hp]; decide)]
        have l2 : hiC k (l ++ [c]) c.hour = min (hiC k l c.hour) (needed k c.volt - 1) := by rw [hiC_snoc, if_neg (by rw [hp]; decide), hz]; omega
        simp only [agreed, Bool.false_eq_true, if_false]
        by_cases hb : min (max 0 (hiC k l c.hour)) (needed k c.volt - 1) < loC k l c.hour
        · rw [if_pos hb, if_neg]
          rw [valid_snoc hle, l1, l2]
          rintro ⟨_, h2, h3⟩
          have := h3 hp
          omega
        · rw [if_neg hb, if_pos ((valid_snoc hle).2 ⟨hv, by rw [l1, l2]; omega, fun _ => by omega⟩), l1, l2]
          congr 3
          omega
    · rw [if_neg hv, if_neg (fun h => hv ((valid_snoc hle).1 h).1)]
      rfl
end

section
theorem insC_perm (c : MCk) (l : List MCk) : (insC c l).Perm (c :: l) := by
  unfold insC
  have h : (l.takeWhile (fun x => decide (x.hour ≤ c.hour)) ++ c :: l.dropWhile fun x => decide (x.hour ≤ c.hour)).Perm (c :: (l.takeWhile (fun x => decide (x.hour ≤ c.hour)) ++ l.dropWhile fun x => decide (x.hour ≤ c.hour))) := List.perm_middle
  rw [List.takeWhile_append_dropWhile] at h
  exact h
theorem take_le {c : MCk} : ∀ {l : List MCk}, ∀ x ∈ l.takeWhile (fun x => decide (x.hour ≤ c.hour)), x.hour ≤ c.hour
  | [], x, h => by cases h
  | y :: l, x, h => by
    rw [List.takeWhile_cons] at h
    split at h
    · rename_i hy
      rcases List.mem_cons.1 h with rfl | h
      · simpa using hy
      · exact take_le x h
    · cases h
theorem drop_gt {c : MCk} : ∀ {l : List MCk}, SortedC l → ∀ x ∈ l.dropWhile (fun x => decide (x.hour ≤ c.hour)), c.hour < x.hour
  | [], _, x, h => by cases h
  | y :: l, hs, x, h => by
    unfold SortedC at hs
    rw [List.pairwise_cons] at hs
    rw [List.dropWhile_cons] at h
    split at h
    · exact drop_gt hs.2 x h
    · rename_i hy
      simp at hy
      rcases List.mem_cons.1 h with rfl | h
      · exact hy
      · have := hs.1 x h; omega
theorem insC_sorted {c : MCk} {l : List MCk} (hs : SortedC l) : SortedC (insC c l) := by
  have hsplit : SortedC (l.takeWhile (fun x => decide (x.hour ≤ c.hour)) ++ l.dropWhile fun x => decide (x.hour ≤ c.hour)) := by rw [List.takeWhile_append_dropWhile]; exact hs
  unfold SortedC at hsplit
  rw [List.pairwise_append] at hsplit
  unfold SortedC insC
  rw [List.pairwise_append, List.pairwise_cons]
  refine ⟨hsplit.1, ⟨fun x hx => by have := drop_gt hs x hx; omega, hsplit.2.1⟩, fun a ha b hb => ?_⟩
  rcases List.mem_cons.1 hb with rfl | hb
  · exact take_le a ha
  · exact hsplit.2.2 a ha b hb
theorem sortC_snoc (l : List MCk) (c : MCk) : sortC (l ++ [c]) = insC c (sortC l) := by unfold sortC; rw [List.foldl_append]; rfl
theorem sortC_ok (l : List MCk) : SortedC (sortC l) ∧ (sortC l).Perm l := by
  induction l using snoc_ind with
  | h0 => exact ⟨List.Pairwise.nil, .refl _⟩
  | hs l c ih =>
    rw [sortC_snoc]
    exact ⟨insC_sorted ih.1, (insC_perm c _).trans ((List.Perm.cons c ih.2).trans (List.perm_append_singleton c l).symm)⟩
theorem lastH_iff {l : List MCk} {y : Int} : lastH l ≤ y ↔ 0 ≤ y ∧ ∀ c ∈ l, c.hour ≤ y := by
  constructor
  · induction l using snoc_ind with
    | h0 => intro h; exact ⟨h, fun c hc => by cases hc⟩
    | hs l a ih =>
      intro h
      rw [lastH_snoc] at h
      obtain ⟨h1, h2⟩ := ih (by omega)
      exact ⟨h1, fun c hc => by rcases List.mem_append.1 hc with h | h; exact h2 c h; simp at h; subst h; omega⟩
  · rintro ⟨h1, h2⟩; exact lastH_le h1 h2
theorem lastH_same {l l' : List MCk} (h : ∀ c, c ∈ l ↔ c ∈ l') : lastH l = lastH l' := by
  refine Int.le_antisymm ?_ ?_
  · obtain ⟨h1, h2⟩ := lastH_iff.1 (Int.le_refl (lastH l')); exact lastH_iff.2 ⟨h1, fun c hc => h2 c ((h c).1 hc)⟩
  · obtain ⟨h1, h2⟩ := lastH_iff.1 (Int.le_refl (lastH l)); exact lastH_iff.2 ⟨h1, fun c hc => h2 c ((h c).2 hc)⟩
open Classical in
/-- any order of the hours, of a permutation: one answer -/
theorem runC_perm {k : Kd} (hK : KOk k) {l cs : List MCk} (hs : SortedC l) (hp : ∀ c, c ∈ l ↔ c ∈ cs) (hok : ∀ c ∈ cs, 0 ≤ c.hour ∧ voltOk k c.volt = true) :
    runC k l (⟨k.new, k.new⟩, 0) = if Valid k cs then some (⟨loC k cs (lastH cs), max 0 (hiC k cs (lastH cs))⟩, lastH cs) else none := by
  rw [runC_eq hK l hs (fun c hc => hok c ((hp c).1 hc)), lastH_same hp, loC_same hp, hiC_same hp]
  by_cases hv : Valid k cs
  · rw [if_pos hv, if_pos (valid_same (fun c => (hp c).symm) hv)]
  · rw [if_neg hv, if_neg (fun h => hv (valid_same hp h))]
theorem known_eq {k : Kd} (hK : KOk k) {cs : List MCk} (hok : ∀ c ∈ cs, 0 ≤ c.hour ∧ voltOk k c.volt = true) {l : List MCk} (hs : SortedC l) (hp : l.Perm cs) : runC k l (⟨k.new, k.new⟩, 0) = known k cs := by
  obtain ⟨h1, h2⟩ := sortC_ok cs
  unfold known
  rw [runC_perm hK hs (fun c => hp.mem_iff) hok, runC_perm hK h1 (fun c => h2.mem_iff) hok]
end

section
def AOk (k : Kd) (cs : List MCk) (h : Int) : Prop := kdErr k = 0 ∧ cs.length ≤ 30 ∧ (∀ c ∈ cs, chkOk k c = true) ∧ Valid k cs ∧ 0 ≤ h ∧ h ≤ 100000 ∧ lastH cs ≤ h
def closed (k : Kd) (cs : List MCk) (h : Int) : Span := ⟨loC k cs h, max 0 (hiC k cs h)⟩
theorem chk_bd {k : Kd} {c : MCk} (h : chkOk k c = true) : (0 ≤ c.hour ∧ c.hour ≤ 100000) ∧ voltOk k c.volt = true := by
  unfold chkOk at h
  rw [Bool.and_eq_true, inb_iff] at h
  exact h
theorem chks_ok {k : Kd} {cs : List MCk} (h : ∀ c ∈ cs, chkOk k c = true) : ∀ c ∈ cs, 0 ≤ c.hour ∧ voltOk k c.volt = true := fun c hc => ⟨(chk_bd (h c hc)).1.1, (chk_bd (h c hc)).2⟩
theorem later_closed {k : Kd} (hK : KOk k) {cs : List MCk} {h : Int} (hh : lastH cs ≤ h) : later k (closed k cs (lastH cs)) (h - lastH cs) = closed k cs h := by
  have e1 := loC_later (k := k) cs (t := lastH cs) (d := h - lastH cs) (by have := hK.w0; have := hK.w1; omega) (by omega)
  have e2 := hiC_later (k := k) cs (t := lastH cs) (d := h - lastH cs)
  rw [show lastH cs + (h - lastH cs) = h by omega] at e1 e2
  have hdw : 0 ≤ (h - lastH cs) * k.wear.lo := Int.mul_nonneg (by omega) hK.w0
  unfold later closed
  simp only [e1]
  congr 1
  omega
open Classical in
theorem known_closed {k : Kd} (hK : KOk k) {cs : List MCk} (hc : ∀ c ∈ cs, chkOk k c = true) : known k cs = if Valid k cs then some (closed k cs (lastH cs), lastH cs) else none := by
  obtain ⟨h1, h2⟩ := sortC_ok cs
  unfold known
  exact runC_perm hK h1 (fun c => h2.mem_iff) (chks_ok hc)
theorem asked_of {k : Kd} {cs : List MCk} {h : Int} (ha : AOk k cs h) : asked k cs h = (closed k cs h, 0) := by
  obtain ⟨hE, hl, hc, hv, h0, h1, hh⟩ := ha
  have hK := kok_of hE
  unfold asked
  rw [if_neg (by simp [hE]), if_neg (by omega), if_neg (by simp; exact hc), known_closed hK hc, if_pos hv]
  show (if inb h 0 100000 = false then _ else _) = _
  rw [if_neg (by rw [(inb_iff _ _ _).2 ⟨h0, h1⟩]; decide), if_neg (by omega), later_closed hK hh]
theorem asked_ok {k : Kd} {cs : List MCk} {h : Int} (he : (asked k cs h).2 = 0) : AOk k cs h := by
  unfold asked at he
  split at he
  · rename_i h1; exact absurd he h1
  rename_i h1
  split at he
  · cases he
  rename_i h2
  split at he
  · cases he
  rename_i h3
  have hE : kdErr k = 0 := by simpa using h1
  have hc : ∀ c ∈ cs, chkOk k c = true := by simpa using h3
  rw [known_closed (kok_of hE) hc] at he
  by_cases hv : Valid k cs
  · rw [if_pos hv] at he
    simp only at he
    split at he
    · cases he
    rename_i h4
    split at he
    · cases he
    rename_i h5
    have h6 := (inb_iff h 0 100000).1 (by simpa using h4)
    exact ⟨hE, by omega, hc, hv, h6.1, h6.2, by omega⟩
  · rw [if_neg hv] at he; cases he
/- when it fails -/
end

section
/-- strengths hour by hour, with any wear of the kind -/
structure Worn (k : Kd) (f : Nat → Int) : Prop where
  nn : 0 ≤ f 0
  up : ∀ t, f (t + 1) ≤ max 0 (f t - k.wear.lo)
  dn : ∀ t, max 0 (f t - k.wear.hi) ≤ f (t + 1)
/-- .. of a valve that was new -/
structure Truth (k : Kd) (f : Nat → Int) : Prop where
  worn : Worn k f
  zero : f 0 = k.new
end

section
def Span.width (s : Span) : Int := s.hi - s.lo
/-- the greatest width that a check at a voltage leaves -/
def widthAt (k : Kd) (s : Span) (v : Int) : Int := max (agreed k s v true).width (agreed k s v false).width
/-- the first step with the least such width -/
def bestUpto (k : Kd) (s : Span) : Nat → Int
  | 0 => (k.steps.getD 0 Stp.zero).volt
  | i + 1 => if widthAt k s (k.steps.getD (i + 1) Stp.zero).volt < widthAt k s (bestUpto k s i) then (k.steps.getD (i + 1) Stp.zero).volt else bestUpto k s i
def best (k : Kd) (s : Span) : Int := bestUpto k s (k.steps.length - 1)
end

section
open Go.RowKit

abbrev Stp.cs (s : Stp) : List Value := [.int .i64 s.volt, .int .i64 s.need]
abbrev RdSteps := Rd Stp.cs 2
abbrev MCk.cs (c : MCk) : List Value := [.int .i64 c.hour, .int .i64 c.volt, .bool c.passed]
abbrev RdCks := Rd MCk.cs 3
abbrev Span.cs (s : Span) : List Value := [.int .i64 s.lo, .int .i64 s.hi]
abbrev RdSpans := Rd Span.cs 2
abbrev int1 (n : Int) : List Value := [.int .i64 n]
abbrev RdInts := Rd int1 1
theorem RdInts.ne {w : World} {a : Option Addr} {l : List Int} (h : RdInts w a l) {k : Nat} (hk : k < l.length) :
    ∃ b off, a = some ⟨b, off, none⟩ ∧ b < w.heap.size ∧ w.cell? ⟨b, off + k, none⟩ = some (.int .i64 l[k]) := by
  obtain ⟨b, off, ha, hb, hc⟩ := Rd.ne h hk; exact ⟨b, off, ha, hb, by simpa using hc 0 _ rfl⟩
theorem RdSteps.ne {w : World} {a : Option Addr} {l : List Stp} (h : RdSteps w a l) {k : Nat} (hk : k < l.length) :
    ∃ b off, a = some ⟨b, off, none⟩ ∧ b < w.heap.size ∧ w.cell? ⟨b, off + k * 2, none⟩ = some (.int .i64 l[k].volt) ∧ w.cell? ⟨b, off + k * 2 + 1, none⟩ = some (.int .i64 l[k].need) := by
  obtain ⟨b, off, ha, hb, hc⟩ := Rd.ne h hk; exact ⟨b, off, ha, hb, hc 0 _ rfl, hc 1 _ rfl⟩
theorem RdSpans.ne {w : World} {a : Option Addr} {l : List Span} (h : RdSpans w a l) {k : Nat} (hk : k < l.length) :
    ∃ b off, a = some ⟨b, off, none⟩ ∧ b < w.heap.size ∧ w.cell? ⟨b, off + k * 2, none⟩ = some (.int .i64 l[k].lo) ∧ w.cell? ⟨b, off + k * 2 + 1, none⟩ = some (.int .i64 l[k].hi) := by
  obtain ⟨b, off, ha, hb, hc⟩ := Rd.ne h hk; exact ⟨b, off, ha, hb, hc 0 _ rfl, hc 1 _ rfl⟩
theorem RdCks.ne {w : World} {a : Option Addr} {l : List MCk} (h : RdCks w a l) {k : Nat} (hk : k < l.length) :
    ∃ b off, a = some ⟨b, off, none⟩ ∧ b < w.heap.size ∧ w.cell? ⟨b, off + k * 3, none⟩ = some (.int .i64 l[k].hour) ∧ w.cell? ⟨b, off + k * 3 + 1, none⟩ = some (.int .i64 l[k].volt) ∧ w.cell? ⟨b, off + k * 3 + 2, none⟩ = some (.bool l[k].passed) := by
  obtain ⟨b, off, ha, hb, hc⟩ := Rd.ne h hk; exact ⟨b, off, ha, hb, hc 0 _ rfl, hc 1 _ rfl, hc 2 _ rfl⟩
/-- the first one with p; -1: none -/
def idxOf {α : Type} (p : α → Bool) (l : List α) : Int := match l.findIdx? p with | some i => i | none => -1
theorem idx_found {α : Type} {p : α → Bool} {l : List α} {k : Nat} (hk : k < l.length) (h : (l.take k).any p = false) (hp : p l[k] = true) : idxOf p l = k := by
  have : l.findIdx? p = some k := by
    rw [List.findIdx?_eq_some_iff_getElem]; refine ⟨hk, hp, fun j hj => ?_⟩; rw [List.any_eq_false] at h
    exact by simpa using h l[j] (List.mem_take_iff_getElem.2 ⟨j, by omega, rfl⟩)
  unfold idxOf; rw [this]
theorem idx_none {α : Type} {p : α → Bool} {l : List α} (h : l.any p = false) : idxOf p l = -1 := by
  have : l.findIdx? p = none := by
    rw [List.findIdx?_eq_none_iff]; intro x hx; rw [List.any_eq_false] at h
    simpa using h x hx
  unfold idxOf; rw [this]
theorem idx_any {α : Type} (p : α → Bool) (l : List α) : decide (0 ≤ idxOf p l) = l.any p := by
  cases h : l.any p with
  | false => rw [idx_none h]; rfl
  | true =>
    unfold idxOf
    cases hf : l.findIdx? p with
    | none =>
      rw [List.findIdx?_eq_none_iff] at hf; rw [List.any_eq_true] at h; obtain ⟨x, hx, hp⟩ := h; rw [hf x hx] at hp; cases hp
    | some i => simp

theorem load_t23 {w : World} {b o : Nat} {x0 x1 : Value} (h0 : w.cell? ⟨b, o, none⟩ = some x0) (h1 : w.cell? ⟨b, o + 1, none⟩ = some x1) :
    (loadVar 23 ⟨b, o, none⟩).run Try.prog w = .ok (.agg #[x0, x1]) w := by
  simp [go_sem, h0, h1]
theorem load_t37 {w : World} {b o : Nat} {x0 x1 : Value} (h0 : w.cell? ⟨b, o, none⟩ = some x0) (h1 : w.cell? ⟨b, o + 1, none⟩ = some x1) :
    (loadVar 37 ⟨b, o, none⟩).run Try.prog w = .ok (.agg #[x0, x1]) w := by
  simp [go_sem, h0, h1]

set_option maxRecDepth 100000 in
set_option maxHeartbeats 1000000 in
theorem rin_any (n a b : Int) (w : World) :
    Calls Try.prog 52 #[.int .i64 n, .int .i64 a, .int .i64 b] w (fun e w' => e = .returned (.bool (inb n a b)) ∧ w = w') := by
 refine enter_F Try.func52 rfl Try.ntmps52 (by simp) ?_
 intro s0 hs; have sl0 : s0 0 = .int .i64 n := hs 0 (by simp); have sl1 : s0 1 = .int .i64 a := hs 1 (by simp); have sl2 : s0 2 = .int .i64 b := hs 2 (by simp); clear hs; have HB := hid (OldB.refl [] w)
 repeat ((fail_if_success refine stp ?_); with_reducible go_step)
 refine region_F ?_; refine pl ?_; refine listF_abs (fun s1 z' => ?_); replace sl0 := gs 0 z' sl0; replace sl1 := gs 1 z' sl1; replace sl2 := gs 2 z' sl2; clear z'; refine listF_nil ?_
 repeat ((fail_if_success refine stp ?_); with_reducible go_step)
 refine region_F ?_
 iterate 4 refine pl ?_
 refine listF_abs (fun s2 z' => ?_); replace sl0 := gs 0 z' sl0; replace sl2 := gs 2 z' sl2; have sl10 := gu 10 z'; clear z' sl1
 refine boolG sl10 (fun sl10' h10 => ?_) (fun sl10' h10 => ?_) <;> (clear sl10; have sl10 := sl10'; clear sl10')
 ·skip
  iterate 3 refine py ?_
  refine pl ?_; refine pl ?_; refine listF_abs (fun s3 z' => ?_); have sl6 := gu 6 z'; clear z' sl0 sl2 sl10; refine listF_nil ?_
  repeat ((fail_if_success refine stp ?_); with_reducible go_step)
  refine ret_F _ (res_t Try.results52 ((getD_F (by decide)).trans sl6)) ?_; exact ⟨ret_bool (by unfold inb; simp at *; try omega), rfl⟩
 ·skip
  refine pn false ?_; refine pn false ?_; refine pn false ?_; refine pl ?_; refine pl ?_; refine listF_abs (fun s4 z' => ?_); have sl6 := gu 6 z'; clear z' sl0 sl2 sl10; refine listF_nil ?_
  repeat ((fail_if_success refine stp ?_); with_reducible go_step)
  refine ret_F _ (res_t Try.results52 ((getD_F (by decide)).trans sl6)) ?_; exact ⟨ret_bool (by unfold inb; simp at *; try omega), rfl⟩

set_option maxRecDepth 100000 in
set_option maxHeartbeats 1000000 in
theorem out1_any (hi n : Int) (B : Nat) (w : World) (hB : w.cell? ⟨B, 0, none⟩ = some (.int .i64 hi)) :
    Calls Try.prog 69 #[.int .i64 n, .pointer (some ⟨B, 0, none⟩)] w (fun e w' => e = .returned (.bool (!inb n 0 hi)) ∧ w = w') := by
 refine enter_F Try.func69 rfl Try.ntmps69 (by simp) ?_
 intro s0 hs; have sl0 : s0 0 = .int .i64 n := hs 0 (by simp); have sl1 : s0 1 = .pointer (some ⟨B, 0, none⟩) := hs 1 (by simp); clear hs; have HB := hid (OldB.refl [] w)
 repeat ((fail_if_success refine stp ?_); with_reducible go_step)
 refine region_F ?_; refine pl ?_; refine listF_abs (fun s1 z' => ?_); replace sl0 := gs 0 z' sl0; replace sl1 := gs 1 z' sl1; clear z'; refine listF_nil ?_
 repeat ((fail_if_success refine stp ?_); with_reducible go_step)
 refine region_F ?_
 iterate 3 refine pl ?_
 refine listF_abs (fun s2 z' => ?_); replace sl0 := gs 0 z' sl0; replace sl1 := gs 1 z' sl1; have sl6 := gu 6 z'; clear z'
 refine boolG sl6 (fun sl6' h6 => ?_) (fun sl6' h6 => ?_) <;> (clear sl6; have sl6 := sl6'; clear sl6')
 ·skip
  refine pn true ?_; refine pn true ?_; refine pn true ?_; refine pl ?_; refine pl ?_; refine listF_abs (fun s3 z' => ?_); have sl3 := gu 3 z'; clear z' sl0 sl1 sl6; refine listF_nil ?_
  repeat ((fail_if_success refine stp ?_); with_reducible go_step)
  refine ret_F _ (res_t Try.results69 ((getD_F (by decide)).trans sl3)) ?_; exact ⟨ret_bool (by unfold inb; rw [Bool.eq_iff_iff]; simp at *; try omega), rfl⟩
 ·skip
  iterate 3 refine py ?_
  refine pl ?_; refine pl ?_; refine listF_abs (fun s4 z' => ?_); have sl3 := gu 3 z'; clear z' sl0 sl1 sl6; refine listF_nil ?_
  repeat ((fail_if_success refine stp ?_); with_reducible go_step)
  refine ret_F _ (res_t Try.results69 ((getD_F (by decide)).trans sl3)) ?_; exact ⟨ret_bool (by unfold inb; rw [Bool.eq_iff_iff]; simp at *; try omega), rfl⟩

set_option maxRecDepth 100000 in
set_option maxHeartbeats 1000000 in
theorem idxInt_any (a : Option Addr) (c : Nat) (l : List Int) (hi : Int) (B : Nat) (w : World) (hl : l.length ≤ 9223372036854775807) (hR : RdInts w a l) (hB : w.cell? ⟨B, 0, none⟩ = some (.int .i64 hi)) (hBs : B < w.heap.size) :
    Calls Try.prog 81 #[.slice a l.length c, .func (.func 69) #[] #[.pointer (some ⟨B, 0, none⟩)]] w (fun e w' => e = .returned (.int .i64 (idxOf (fun n => !inb n 0 hi) l)) ∧ Below w.heap.size w w') := by
 have HR := hid hR; clear hR
 refine enter_F Try.func81 rfl Try.ntmps81 (by simp) ?_
 intro s0 hs; have sl0 : s0 0 = .slice a l.length c := hs 0 (by simp); have sl1 : s0 1 = .func (.func 69) #[] #[.pointer (some ⟨B, 0, none⟩)] := hs 1 (by simp); clear hs; have HB := hid (OldB.refl [] w)
 repeat ((fail_if_success refine stp ?_); with_reducible go_step)
 refine region_F ?_; refine pl ?_; refine listF_abs (fun s1 z' => ?_); replace sl0 := gs 0 z' sl0; replace sl1 := gs 1 z' sl1; clear z'; refine listF_nil ?_
 repeat ((fail_if_success refine stp ?_); with_reducible go_step)
 refine region_F ?_
 iterate 3 refine pl ?_
 refine listF_abs (fun s2 z' => ?_); replace sl0 := gs 0 z' sl0; replace sl1 := gs 1 z' sl1; have sl7 := gu 7 z'; have sl8 := gu 8 z'; clear z'; refine listF_nil ?_
 repeat ((fail_if_success refine stp ?_); with_reducible go_step)
 have hc0_0 := hid sl0; have hc0_1 := hid sl1; have hc0_7 := hid sl7; refine loop_F (n := 19) (fun kJ sJ wJ => ∃ (k : Nat), kJ = l.length - k ∧ sJ 8 = .int .i64 (k : Int) ∧ sJ 0 = s2 0 ∧ sJ 1 = s2 1 ∧ sJ 7 = s2 7 ∧ OldB [] w wJ ∧ k ≤ l.length ∧ Hid ((l.take k).any (fun n => !inb n 0 hi) = false)) ⟨0, rfl, (by first | exact sl8 | (rw [sl8]; go_num) | (rw [sl8]; rfl)), rfl, rfl, rfl, OldB.refl _ _, Nat.zero_le _, hid rfl⟩ ?_; clear sl8; rintro kJ s3 w4 ⟨k, rfl, sl8, e0, e1, e7, hb5, hkl, hno⟩; replace sl0 := e0.trans sl0; clear e0; replace sl1 := e1.trans sl1; clear e1; replace sl7 := e7.trans sl7; clear e7; have hoJ := hb5; replace HB := hid (HB.out.more hb5 (by simp; try omega)); clear hb5; have HoJ := hid hoJ; clear hoJ; have HL6 := HoJ; clear HoJ
 repeat ((fail_if_success refine stp ?_); with_reducible go_step)
 refine region_F ?_; refine pl ?_; refine listF_abs (fun s7 z' => ?_); replace sl0 := gs 0 z' sl0; replace sl1 := gs 1 z' sl1; replace sl7 := gs 7 z' sl7; replace sl8 := gs 8 z' sl8; have sl9 := gu 9 z'; clear z'; refine listF_nil ?_
 repeat ((fail_if_success refine stp ?_); with_reducible go_step)
 refine cond_E sl9 (by decide) ?_ ?_ <;> (clear sl9; intro h9 sl9)
 ·skip
  have hlt : k < l.length := by simpa using h9
  obtain ⟨b, off, rfl, hb, h0⟩ := RdInts.ne (Rd.oldB HR.out HB.out (by simp)) hlt
  repeat ((fail_if_success refine stp ?_); with_reducible go_step)
  refine region_F ?_; refine pl ?_; refine pl ?_; refine listF_abs (fun s8 z' => ?_); replace sl0 := gs 0 z' sl0; replace sl1 := gs 1 z' sl1; have sl5 := gu 5 z'; replace sl7 := gs 7 z' sl7; replace sl8 := gs 8 z' sl8; clear z' sl9; refine listF_nil ?_
  repeat ((fail_if_success refine stp ?_); with_reducible go_step)
  refine region_F ?_
  iterate 5 refine pl ?_
  refine listF_step rfl (fun K' hK => ?_); unfold opF; go_simp; refine (out1_any hi l[k] B _ ((HB.out.toBelow.cell (p := ⟨B, 0, none⟩) hBs).trans hB)).mono ?_; rintro e w' ⟨rfl, rfl⟩; refine ⟨_, rfl, hK _ _ ?_⟩; clear hK K'; refine listF_abs (fun s10 z' => ?_); replace sl0 := gs 0 z' sl0; replace sl1 := gs 1 z' sl1; replace sl5 := gs 5 z' sl5; replace sl7 := gs 7 z' sl7; replace sl8 := gs 8 z' sl8; have sl16 := gu 16 z'; clear z'; refine listF_nil ?_
  repeat ((fail_if_success refine stp ?_); with_reducible go_step)
  refine cond_E sl16 (by decide) ?_ ?_ <;> (clear sl16; intro h16 sl16)
  ·skip
   have Hpk := hid (idx_found hlt hno.out h16)
   repeat ((fail_if_success refine stp ?_); with_reducible go_step)
   refine region_F ?_; refine pl ?_; refine pl ?_; refine listF_abs (fun s11 z' => ?_); have sl4 := gu 4 z'; clear z' sl0 sl1 sl5 sl7 sl8 sl16; refine listF_nil ?_
   repeat ((fail_if_success refine stp ?_); with_reducible go_step)
   refine ret_F _ (res_t Try.results81 ((getD_F (by decide)).trans sl4)) ?_; exact ⟨ret_int Hpk.out.symm, HB.out.toBelow⟩
  ·skip
   have hpk := hid h16
   repeat ((fail_if_success refine stp ?_); with_reducible go_step)
   refine region_F ?_; refine pl ?_; refine pl ?_; refine listF_abs (fun s12 z' => ?_); replace sl0 := gs 0 z' sl0; replace sl1 := gs 1 z' sl1; replace sl7 := gs 7 z' sl7; replace sl8 := gu 8 z'; clear z' sl5 sl16; refine listF_nil ?_
   repeat ((fail_if_success refine stp ?_); with_reducible go_step)
   refine ⟨_, _, rfl, ?_, k + 1, rfl, (by first | (with_reducible exact sl8) | (rw [sl8]; (with_reducible go_num); done) | (rw [sl8, IntWalk.i64_in] <;> first | ((with_reducible go_num); done) | omega) | (rw [sl8]; go_num; done) | (rw [sl8]; simp; done) | (rw [sl8]; simp; omega)), (sl0.trans hc0_0.out.symm), (sl1.trans hc0_1.out.symm), (sl7.trans hc0_7.out.symm), HL6.out, by omega, hid (by rw [any_take_succ _ _ _ hlt, hno.out, hpk.out]; rfl)⟩
   omega
 ·skip
  have hge : l.length ≤ k := by simpa using h9
  have hno2 : l.any (fun n => !inb n 0 hi) = false := by have := hno.out; rwa [List.take_of_length_le hge] at this
  have Hno := hid hno2; clear hno2
  repeat ((fail_if_success refine stp ?_); with_reducible go_step)
  clear HL6; clear hc0_0 hc0_1 hc0_7; refine region_F ?_; refine pl ?_; refine listF_abs (fun s13 z' => ?_); have sl4 := gu 4 z'; clear z' sl0 sl1 sl7 sl8 sl9; refine listF_nil ?_
  repeat ((fail_if_success refine stp ?_); with_reducible go_step)
  refine ret_F _ (res_t Try.results81 ((getD_F (by decide)).trans sl4)) ?_; exact ⟨ret_int (idx_none Hno.out).symm, HB.out.toBelow⟩
end

section
open Go.RowKit


theorem idx_any' {α : Type} (p : α → Bool) (l : List α) : decide (idxOf p l ≥ 0) = l.any p := idx_any p l
theorem rd1 {w : World} {g : Nat} {x : Int} (h : Cells w g [.int .i64 x]) : RdInts w (some ⟨g, 0, none⟩) [x] := Cells.rd (f := int1) (m := 1) (l := [x]) (fun _ => rfl) h
theorem rd2 {w : World} {g : Nat} {x y : Int} (h : Cells w g [.int .i64 x, .int .i64 y]) : RdInts w (some ⟨g, 0, none⟩) [x, y] := Cells.rd (f := int1) (m := 1) (l := [x, y]) (fun _ => rfl) h
def outB (hi : Int) (l : List Int) : Bool := l.any (fun n => !inb n 0 hi)
/-- the cells of a valve -/
abbrev vC (k : Kd) (a : Option Addr) (c : Nat) (s : Span) (h : Int) : List Value := [.int .i64 k.new, .int .i64 k.wear.lo, .int .i64 k.wear.hi, .slice a k.steps.length c, .int .i64 s.lo, .int .i64 s.hi, .int .i64 h]
abbrev leV (v : Int) (s : Stp) : Bool := decide (s.volt ≤ v)
theorem idx_needed {k : Kd} (hK : KOk k) {v : Int} (hv : voltOk k v = true) : ∃ i, ∃ h : i < k.steps.length, idxOf (leV v) k.steps = i ∧ needed k v = k.steps[i].need := by
  obtain ⟨i, hi, h1, h2, h3⟩ := needed_ex hK hv; refine ⟨i, hi, idx_found hi ?_ (by simpa using h1), h3⟩; rw [List.any_eq_false]; intro x hx; obtain ⟨j, hj, rfl⟩ := List.mem_take_iff_getElem.1 hx; have := h2 j (by omega)
  simp; omega

set_option maxRecDepth 100000 in
set_option maxHeartbeats 1000000 in
theorem conInt_any (a : Option Addr) (c : Nat) (l : List Int) (hi : Int) (B : Nat) (w : World) (hl : l.length ≤ 9223372036854775807) (hR : RdInts w a l) (hB : w.cell? ⟨B, 0, none⟩ = some (.int .i64 hi)) (hBs : B < w.heap.size) :
    Calls Try.prog 68 #[.slice a l.length c, .func (.func 69) #[] #[.pointer (some ⟨B, 0, none⟩)]] w (fun e w' => e = .returned (.bool (outB hi l)) ∧ Below w.heap.size w w') := by
 have HR := hid hR; clear hR
 refine enter_F Try.func68 rfl Try.ntmps68 (by simp) ?_
 intro s0 hs; have sl0 : s0 0 = .slice a l.length c := hs 0 (by simp); have sl1 : s0 1 = .func (.func 69) #[] #[.pointer (some ⟨B, 0, none⟩)] := hs 1 (by simp); clear hs; have HB := hid (OldB.refl [] w)
 repeat ((fail_if_success refine stp ?_); with_reducible go_step)
 refine region_F ?_; refine pl ?_; refine listF_abs (fun s1 z' => ?_); replace sl0 := gs 0 z' sl0; replace sl1 := gs 1 z' sl1; clear z'; refine listF_nil ?_
 repeat ((fail_if_success refine stp ?_); with_reducible go_step)
 refine region_F ?_; refine pl ?_; refine pl ?_; refine listF_step rfl (fun K' hK => ?_); unfold opF; go_simp; refine (idxInt_any a c l hi B _ hl HR.out hB hBs).mono ?_; rintro e w2 ⟨rfl, hb3⟩; refine ⟨_, rfl, hK _ _ ?_⟩; clear hK K'; replace HB := hid (HB.out.below hb3); clear hb3; refine pl ?_; refine pl ?_; refine listF_abs (fun s4 z' => ?_); have sl4 := gu 4 z'; clear z' sl0 sl1; refine listF_nil ?_
 repeat ((fail_if_success refine stp ?_); with_reducible go_step)
 refine ret_F _ (res_t Try.results68 ((getD_F (by decide)).trans sl4)) ?_; exact ⟨ret_bool (idx_any' _ _), HB.out.toBelow⟩

set_option maxRecDepth 100000 in
set_option maxHeartbeats 1000000 in
theorem out_any (hi : Int) (a : Option Addr) (c : Nat) (l : List Int) (w : World) (hl : l.length ≤ 9223372036854775807) (hR : RdInts w a l) :
    Calls Try.prog 51 #[.int .i64 hi, .slice a l.length c] w (fun e w' => e = .returned (.bool (outB hi l)) ∧ Below w.heap.size w w') := by
 have HR := hid hR; clear hR
 refine enter_F Try.func51 rfl Try.ntmps51 (by simp) ?_
 intro s0 hs; have sl0 : s0 0 = .int .i64 hi := hs 0 (by simp); have sl1 : s0 1 = .slice a l.length c := hs 1 (by simp); clear hs; have HB := hid (OldB.refl [] w)
 repeat ((fail_if_success refine stp ?_); with_reducible go_step)
 refine region_F ?_; refine pa (fun w1 B2 hB kb2' hb2 => ?_); have gb2 := HB.out.gB hB; have eb2 := eB hB; clear hB; replace HB := hid (HB.out.below hb2); clear hb2; have kb2 := kb2'; clear kb2'; have qb2 := kb2.1; refine pl ?_; refine listF_abs (fun s3 z' => ?_); replace sl1 := gs 1 z' sl1; have sl2 := gu 2 z'; clear z' sl0; refine listF_nil ?_
 repeat ((fail_if_success refine stp ?_); with_reducible go_step)
 refine region_F ?_; refine pl ?_; refine pl ?_; refine listF_step rfl (fun K' hK => ?_); unfold opF; go_simp; refine (conInt_any a c l hi B2 _ hl (Rd.oldB HR.out HB.out (by simp)) (kb2.cell 0 rfl) kb2.1).mono ?_; rintro e w4 ⟨rfl, hb5⟩; refine ⟨_, rfl, hK _ _ ?_⟩; clear hK K'; clear qb2; replace kb2 := kb2.at hb5; replace HB := hid (HB.out.below hb5); clear hb5; have qb2 := kb2.1; refine pl ?_; refine listF_abs (fun s6 z' => ?_); have sl4 := gu 4 z'; clear z' sl1 sl2; refine listF_nil ?_
 repeat ((fail_if_success refine stp ?_); with_reducible go_step)
 refine ret_F _ (res_t Try.results51 ((getD_F (by decide)).trans sl4)) ?_; exact ⟨rfl, HB.out.toBelow⟩

set_option maxRecDepth 100000 in
set_option maxHeartbeats 1000000 in
theorem need1_any (s : Stp) (v : Int) (B : Nat) (w : World) (hB : w.cell? ⟨B, 0, none⟩ = some (.int .i64 v)) (hBs : B < w.heap.size) :
    Calls Try.prog 67 #[.agg #[.int .i64 s.volt, .int .i64 s.need], .pointer (some ⟨B, 0, none⟩)] w (fun e w' => e = .returned (.bool (leV v s)) ∧ Below w.heap.size w w') := by
 refine enter_F Try.func67 rfl Try.ntmps67 (by simp) ?_
 intro s0 hs; have sl0 : s0 0 = .agg #[.int .i64 s.volt, .int .i64 s.need] := hs 0 (by simp); have sl1 : s0 1 = .pointer (some ⟨B, 0, none⟩) := hs 1 (by simp); clear hs; have HB := hid (OldB.refl [] w)
 repeat ((fail_if_success refine stp ?_); with_reducible go_step)
 refine region_F ?_; refine pa (fun w1 B2 hB kb2' hb2 => ?_); have gb2 := HB.out.gB hB; have eb2 := eB hB; clear hB; replace HB := hid (HB.out.below hb2); clear hb2; have kb2 := kb2'; clear kb2'; have qb2 := kb2.1; refine pl ?_; refine listF_abs (fun s3 z' => ?_); replace sl1 := gs 1 z' sl1; have sl2 := gu 2 z'; clear z' sl0; refine listF_nil ?_
 repeat ((fail_if_success refine stp ?_); with_reducible go_step)
 refine region_F ?_; refine pl ?_; have cb2_0 := kb2.cell 0 rfl; have cb2_1 := kb2.cell 1 rfl; refine pl ?_; have hB' := (HB.out.toBelow.cell (p := ⟨B, 0, none⟩) hBs).trans hB
 iterate 3 refine pl ?_
 refine listF_abs (fun s4 z' => ?_); have sl3 := gu 3 z'; clear z' sl1 sl2; refine listF_nil ?_
 repeat ((fail_if_success refine stp ?_); with_reducible go_step)
 refine ret_F _ (res_t Try.results67 ((getD_F (by decide)).trans sl3)) ?_; exact ⟨rfl, HB.out.toBelow⟩

set_option maxRecDepth 100000 in
set_option maxHeartbeats 1000000 in
theorem idxStp_any (a : Option Addr) (c : Nat) (l : List Stp) (v : Int) (B : Nat) (w : World) (hl : l.length ≤ 9223372036854775807) (hR : RdSteps w a l) (hB : w.cell? ⟨B, 0, none⟩ = some (.int .i64 v)) (hBs : B < w.heap.size) :
    Calls Try.prog 66 #[.slice a l.length c, .func (.func 67) #[] #[.pointer (some ⟨B, 0, none⟩)]] w (fun e w' => e = .returned (.int .i64 (idxOf (leV v) l)) ∧ Below w.heap.size w w') := by
 have HR := hid hR; clear hR
 refine enter_F Try.func66 rfl Try.ntmps66 (by simp) ?_
 intro s0 hs; have sl0 : s0 0 = .slice a l.length c := hs 0 (by simp); have sl1 : s0 1 = .func (.func 67) #[] #[.pointer (some ⟨B, 0, none⟩)] := hs 1 (by simp); clear hs; have HB := hid (OldB.refl [] w)
 repeat ((fail_if_success refine stp ?_); with_reducible go_step)
 refine region_F ?_; refine pl ?_; refine listF_abs (fun s1 z' => ?_); replace sl0 := gs 0 z' sl0; replace sl1 := gs 1 z' sl1; clear z'; refine listF_nil ?_
 repeat ((fail_if_success refine stp ?_); with_reducible go_step)
 refine region_F ?_
 iterate 3 refine pl ?_
 refine listF_abs (fun s2 z' => ?_); replace sl0 := gs 0 z' sl0; replace sl1 := gs 1 z' sl1; have sl7 := gu 7 z'; have sl8 := gu 8 z'; clear z'; refine listF_nil ?_
 repeat ((fail_if_success refine stp ?_); with_reducible go_step)
 have hc0_0 := hid sl0; have hc0_1 := hid sl1; have hc0_7 := hid sl7; refine loop_F (n := 19) (fun kJ sJ wJ => ∃ (k : Nat), kJ = l.length - k ∧ sJ 8 = .int .i64 (k : Int) ∧ sJ 0 = s2 0 ∧ sJ 1 = s2 1 ∧ sJ 7 = s2 7 ∧ OldB [] w wJ ∧ k ≤ l.length ∧ Hid ((l.take k).any (leV v) = false)) ⟨0, rfl, (by first | exact sl8 | (rw [sl8]; go_num) | (rw [sl8]; rfl)), rfl, rfl, rfl, OldB.refl _ _, Nat.zero_le _, hid rfl⟩ ?_; clear sl8; rintro kJ s3 w4 ⟨k, rfl, sl8, e0, e1, e7, hb5, hkl, hno⟩; replace sl0 := e0.trans sl0; clear e0; replace sl1 := e1.trans sl1; clear e1; replace sl7 := e7.trans sl7; clear e7; have hoJ := hb5; replace HB := hid (HB.out.more hb5 (by simp; try omega)); clear hb5; have HoJ := hid hoJ; clear hoJ; have HL6 := HoJ; clear HoJ
 repeat ((fail_if_success refine stp ?_); with_reducible go_step)
 refine region_F ?_; refine pl ?_; refine listF_abs (fun s7 z' => ?_); replace sl0 := gs 0 z' sl0; replace sl1 := gs 1 z' sl1; replace sl7 := gs 7 z' sl7; replace sl8 := gs 8 z' sl8; have sl9 := gu 9 z'; clear z'; refine listF_nil ?_
 repeat ((fail_if_success refine stp ?_); with_reducible go_step)
 refine cond_E sl9 (by decide) ?_ ?_ <;> (clear sl9; intro h9 sl9)
 ·skip
  have hlt : k < l.length := by simpa using h9
  obtain ⟨b, off, rfl, hb, h0, h1⟩ := RdSteps.ne (Rd.oldB HR.out HB.out (by simp)) hlt
  repeat ((fail_if_success refine stp ?_); with_reducible go_step)
  refine region_F ?_; refine pl ?_; refine pl ?_; refine listF_abs (fun s8 z' => ?_); replace sl0 := gs 0 z' sl0; replace sl1 := gs 1 z' sl1; have sl5 := gu 5 z'; replace sl7 := gs 7 z' sl7; replace sl8 := gs 8 z' sl8; clear z' sl9; refine listF_nil ?_
  repeat ((fail_if_success refine stp ?_); with_reducible go_step)
  refine region_F ?_
  iterate 5 refine pl ?_
  refine listF_step rfl (fun K' hK => ?_); unfold opF; go_simp; refine (need1_any l[k] v B _ ((HB.out.toBelow.cell (p := ⟨B, 0, none⟩) hBs).trans hB) (Nat.lt_of_lt_of_le hBs HB.out.size)).mono ?_; rintro e w9 ⟨rfl, hb10⟩; refine ⟨_, rfl, hK _ _ ?_⟩; clear hK K'; replace HL6 := hid (HL6.out.below hb10); replace HB := hid (HB.out.below hb10); clear hb10; refine listF_abs (fun s11 z' => ?_); replace sl0 := gs 0 z' sl0; replace sl1 := gs 1 z' sl1; replace sl5 := gs 5 z' sl5; replace sl7 := gs 7 z' sl7; replace sl8 := gs 8 z' sl8; have sl16 := gu 16 z'; clear z'; refine listF_nil ?_
  repeat ((fail_if_success refine stp ?_); with_reducible go_step)
  refine cond_E sl16 (by decide) ?_ ?_ <;> (clear sl16; intro h16 sl16)
  ·skip
   have Hpk := hid (idx_found hlt hno.out h16)
   repeat ((fail_if_success refine stp ?_); with_reducible go_step)
   refine region_F ?_; refine pl ?_; refine pl ?_; refine listF_abs (fun s12 z' => ?_); have sl4 := gu 4 z'; clear z' sl0 sl1 sl5 sl7 sl8 sl16; refine listF_nil ?_
   repeat ((fail_if_success refine stp ?_); with_reducible go_step)
   refine ret_F _ (res_t Try.results66 ((getD_F (by decide)).trans sl4)) ?_; exact ⟨ret_int Hpk.out.symm, HB.out.toBelow⟩
  ·skip
   have hpk := hid h16
   repeat ((fail_if_success refine stp ?_); with_reducible go_step)
   refine region_F ?_; refine pl ?_; refine pl ?_; refine listF_abs (fun s13 z' => ?_); replace sl0 := gs 0 z' sl0; replace sl1 := gs 1 z' sl1; replace sl7 := gs 7 z' sl7; replace sl8 := gu 8 z'; clear z' sl5 sl16; refine listF_nil ?_
   repeat ((fail_if_success refine stp ?_); with_reducible go_step)
   refine ⟨_, _, rfl, ?_, k + 1, rfl, (by first | (with_reducible exact sl8) | (rw [sl8]; (with_reducible go_num); done) | (rw [sl8, IntWalk.i64_in] <;> first | ((with_reducible go_num); done) | omega) | (rw [sl8]; go_num; done) | (rw [sl8]; simp; done) | (rw [sl8]; simp; omega)), (sl0.trans hc0_0.out.symm), (sl1.trans hc0_1.out.symm), (sl7.trans hc0_7.out.symm), HL6.out, by omega, hid (by rw [any_take_succ _ _ _ hlt, hno.out, hpk.out]; rfl)⟩
   omega
 ·skip
  have hge : l.length ≤ k := by simpa using h9
  have hno2 : l.any (leV v) = false := by have := hno.out; rwa [List.take_of_length_le hge] at this
  have Hno := hid hno2; clear hno2
  repeat ((fail_if_success refine stp ?_); with_reducible go_step)
  clear HL6; clear hc0_0 hc0_1 hc0_7; refine region_F ?_; refine pl ?_; refine listF_abs (fun s14 z' => ?_); have sl4 := gu 4 z'; clear z' sl0 sl1 sl7 sl8 sl9; refine listF_nil ?_
  repeat ((fail_if_success refine stp ?_); with_reducible go_step)
  refine ret_F _ (res_t Try.results66 ((getD_F (by decide)).trans sl4)) ?_; exact ⟨ret_int (idx_none Hno.out).symm, HB.out.toBelow⟩

set_option maxRecDepth 100000 in
set_option maxHeartbeats 1000000 in
theorem need_any (V : Nat) (k : Kd) (a : Option Addr) (c : Nat) (s : Span) (h : Int) (v : Int) (w : World) (hV : Cells w V (vC k a c s h)) (hR : RdSteps w a k.steps) (hK : KOk k) (hv : voltOk k v = true) :
    Calls Try.prog 49 #[.pointer (some ⟨V, 0, none⟩), .int .i64 v] w (fun e w' => e = .returned (.int .i64 (needed k v)) ∧ Below w.heap.size w w') := by
 have HR := hid hR; have hsl := hK.l1; obtain ⟨i, hi, hix, hn⟩ := idx_needed hK hv; have Hix := hid hix; have Hn := hid hn; clear hR hix hn hK hv; have kV := hV
 refine enter_F Try.func49 rfl Try.ntmps49 (by simp) ?_
 intro s0 hs; have sl0 : s0 0 = .pointer (some ⟨V, 0, none⟩) := hs 0 (by simp); have sl1 : s0 1 = .int .i64 v := hs 1 (by simp); clear hs; have HB := hid (OldB.refl [] w); have qV := kV.1
 repeat ((fail_if_success refine stp ?_); with_reducible go_step)
 refine region_F ?_; refine pa (fun w1 B3 hB kb3' hb2 => ?_); have gb3 := HB.out.gB hB; have oV_b3 := oB qV hB; have eb3 := eB hB; clear hB; clear qV; replace kV := kV.at hb2; replace HB := hid (HB.out.below hb2); clear hb2; have qV := kV.1; have kb3 := kb3'; clear kb3'; have qb3 := kb3.1; refine pl ?_; refine listF_abs (fun s3 z' => ?_); replace sl0 := gs 0 z' sl0; have sl3 := gu 3 z'; clear z' sl1; refine listF_nil ?_
 repeat ((fail_if_success refine stp ?_); with_reducible go_step)
 refine region_F ?_
 iterate 4 refine pl ?_
 have cV_0 := kV.cell 0 rfl; have cV_1 := kV.cell 1 rfl; have cV_2 := kV.cell 2 rfl; have cV_3 := kV.cell 3 rfl; have cV_4 := kV.cell 4 rfl; have cV_5 := kV.cell 5 rfl; have cV_6 := kV.cell 6 rfl; refine pl ?_; refine pl ?_; refine listF_step rfl (fun K' hK => ?_); unfold opF; go_simp; refine (idxStp_any a c k.steps v B3 _ (by omega) (Rd.oldB HR.out HB.out (by simp)) (kb3.cell 0 rfl) kb3.1).mono ?_; rintro e w4 ⟨rfl, hb5⟩; rw [Hix.out]; refine ⟨_, rfl, hK _ _ ?_⟩; clear hK K'; clear cV_0 cV_1 cV_2 cV_3 cV_4 cV_5 cV_6; clear qV qb3; replace kV := kV.at hb5; replace kb3 := kb3.at hb5; replace HB := hid (HB.out.below hb5); clear hb5; have qV := kV.1; have qb3 := kb3.1; refine pl ?_; refine listF_abs (fun s6 z' => ?_); replace sl0 := gs 0 z' sl0; have sl5 := gu 5 z'; clear z' sl3; refine listF_nil ?_
 repeat ((fail_if_success refine stp ?_); with_reducible go_step)
 refine region_F ?_
 iterate 4 refine pl ?_
 have cV_0 := kV.cell 0 rfl; have cV_1 := kV.cell 1 rfl; have cV_2 := kV.cell 2 rfl; have cV_3 := kV.cell 3 rfl; have cV_4 := kV.cell 4 rfl; have cV_5 := kV.cell 5 rfl; have cV_6 := kV.cell 6 rfl; refine pl ?_; refine pl ?_; obtain ⟨b, off, rfl, hbs, h0, h1⟩ := RdSteps.ne (Rd.oldB HR.out HB.out (by simp)) hi
 iterate 4 refine pl ?_
 refine listF_abs (fun s7 z' => ?_); have sl4 := gu 4 z'; clear z' sl0 sl5; refine listF_nil ?_
 repeat ((fail_if_success refine stp ?_); with_reducible go_step)
 refine ret_F _ (res_t Try.results49 ((getD_F (by decide)).trans sl4)) ?_; exact ⟨ret_int Hn.out.symm, HB.out.toBelow⟩

set_option maxRecDepth 100000 in
set_option maxHeartbeats 1000000 in
theorem silent_any (V : Nat) (k : Kd) (a : Option Addr) (c : Nat) (s : Span) (h : Int) (v : Int) (w : World) (hV : Cells w V (vC k a c s h)) (hR : RdSteps w a k.steps) (hK : KOk k) :
    Calls Try.prog 48 #[.pointer (some ⟨V, 0, none⟩), .int .i64 v] w (fun e w' => e = .returned (.bool (!voltOk k v)) ∧ Below w.heap.size w w') := by
 obtain ⟨m, hm⟩ : ∃ m, k.steps.length = m + 1 := ⟨k.steps.length - 1, by have := hK.l0; omega⟩; have hsl := hK.l1
 have hlt : m < k.steps.length := by omega
 have hm8 : m ≤ 7 := by omega
 have hm9 : (m : Int) < (m : Int) + 1 := by omega
 have hwm : IntKind.i64.wrap (m : Int) = m := IntWalk.i64_in _ (by omega); have Hok := hid (show voltOk k v = inb v k.steps[m].volt 1000 by unfold voltOk; simp only [hm, Nat.add_sub_cancel]; rw [getD_get hlt]); have HR := hid hR; clear hR hK; have kV := hV
 refine enter_F Try.func48 rfl Try.ntmps48 (by simp) ?_
 intro s0 hs; have sl0 : s0 0 = .pointer (some ⟨V, 0, none⟩) := hs 0 (by simp); have sl1 : s0 1 = .int .i64 v := hs 1 (by simp); clear hs; have HB := hid (OldB.refl [] w); have qV := kV.1
 repeat ((fail_if_success refine stp ?_); with_reducible go_step)
 refine region_F ?_; refine pl ?_; refine listF_abs (fun s1 z' => ?_); replace sl0 := gs 0 z' sl0; replace sl1 := gs 1 z' sl1; clear z'; refine listF_nil ?_
 repeat ((fail_if_success refine stp ?_); with_reducible go_step)
 obtain ⟨b, off, rfl, hbs, h0, h1⟩ := RdSteps.ne (Rd.oldB HR.out HB.out (by simp)) hlt
 rcases dec_or (v < k.steps[m].volt) with t1 | t1
 ·skip
  have cV_0 := kV.cell 0 rfl; have cV_1 := kV.cell 1 rfl; have cV_2 := kV.cell 2 rfl; have cV_3 := kV.cell 3 rfl; have cV_4 := kV.cell 4 rfl; have cV_5 := kV.cell 5 rfl; have cV_6 := kV.cell 6 rfl; refine regionQ_F (Below w.heap.size w) (by kernel_rfl) (by kernel_rfl) (Below.refl _ _).drew ?_
  iterate 18 refine lq ?_
  refine lqn true ?_; refine lqn true ?_; refine lq ?_; refine lq ?_; refine listQ_nil ?_; intro w2 hb3; clear cV_0 cV_1 cV_2 cV_3 cV_4 cV_5 cV_6; clear qV; replace kV := kV.at hb3; replace HB := hid (HB.out.below hb3); clear hb3; have qV := kV.1
  repeat ((fail_if_success refine stp ?_); with_reducible go_step)
  refine ret_abs (fun s4 z' => ?_); have sl4 := gu 4 z'; clear z' sl0 sl1; refine ret_F _ (res_t Try.results48 ((getD_F (by decide)).trans sl4)) ?_; refine ⟨ret_bool ?_, HB.out.toBelow⟩; rw [Hok.out]; unfold inb; rw [Bool.eq_iff_iff]; simp at *; try omega
 ·skip
  have cV_0 := kV.cell 0 rfl; have cV_1 := kV.cell 1 rfl; have cV_2 := kV.cell 2 rfl; have cV_3 := kV.cell 3 rfl; have cV_4 := kV.cell 4 rfl; have cV_5 := kV.cell 5 rfl; have cV_6 := kV.cell 6 rfl; refine regionQ_F (Below w.heap.size w) (by kernel_rfl) (by kernel_rfl) (Below.refl _ _).drew ?_
  iterate 18 refine lq ?_
  refine lqy ?_; refine lqy ?_; refine lq ?_; refine lq ?_; refine listQ_nil ?_; intro w5 hb6; clear cV_0 cV_1 cV_2 cV_3 cV_4 cV_5 cV_6; clear qV; replace kV := kV.at hb6; replace HB := hid (HB.out.below hb6); clear hb6; have qV := kV.1
  repeat ((fail_if_success refine stp ?_); with_reducible go_step)
  refine ret_abs (fun s7 z' => ?_); have sl4 := gu 4 z'; clear z' sl0 sl1; refine ret_F _ (res_t Try.results48 ((getD_F (by decide)).trans sl4)) ?_; refine ⟨ret_bool ?_, HB.out.toBelow⟩; rw [Hok.out]; unfold inb; rw [Bool.eq_iff_iff]; simp at *; try omega
end


end Go.Proofs.Ytndcmmghgljinaa
