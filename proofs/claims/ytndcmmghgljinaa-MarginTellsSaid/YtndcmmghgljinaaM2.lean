/- Plain laws of valves: which strengths are possible, said without an order of the checks. -/
import Derived.Test.YtndcmmghgljinaaM1
set_option linter.all false
namespace Go.Proofs.Ytndcmmghgljinaa

def loC (k : Kd) (cs : List MCk) (t : Int) : Int := cs.foldl (fun m c => if c.passed then max m (needed k c.volt - (t - c.hour) * k.wear.hi) else m) (max 0 (k.new - t * k.wear.hi))
def hiC (k : Kd) (cs : List MCk) (t : Int) : Int := cs.foldl (fun m c => if c.passed then m else min m (needed k c.volt - 1 - (t - c.hour) * k.wear.lo)) (k.new - t * k.wear.lo)

theorem loC_snoc (k : Kd) (l : List MCk) (c : MCk) (t : Int) : loC k (l ++ [c]) t = if c.passed then max (loC k l t) (needed k c.volt - (t - c.hour) * k.wear.hi) else loC k l t := by
  unfold loC; rw [List.foldl_append]; rfl
theorem hiC_snoc (k : Kd) (l : List MCk) (c : MCk) (t : Int) : hiC k (l ++ [c]) t = if c.passed then hiC k l t else min (hiC k l t) (needed k c.volt - 1 - (t - c.hour) * k.wear.lo) := by
  unfold hiC; rw [List.foldl_append]; rfl
theorem foldmax {f : MCk → Int} (p : MCk → Bool) : ∀ (l : List MCk) (m y : Int), l.foldl (fun m c => if p c then max m (f c) else m) m ≤ y ↔ m ≤ y ∧ ∀ c ∈ l, p c = true → f c ≤ y
  | [], m, y => by simp
  | c :: l, m, y => by
    rw [List.foldl_cons, foldmax p l]
    by_cases h : p c = true
    · rw [if_pos h]
      constructor
      · rintro ⟨h1, h2⟩
        exact ⟨by omega, fun x hx hp => by rcases List.mem_cons.1 hx with rfl | hx; omega; exact h2 x hx hp⟩
      · rintro ⟨h1, h2⟩
        have := h2 c (by simp) h
        exact ⟨by omega, fun x hx hp => h2 x (by simp [hx]) hp⟩
    · rw [if_neg h]
      constructor
      · rintro ⟨h1, h2⟩
        exact ⟨h1, fun x hx hp => by rcases List.mem_cons.1 hx with rfl | hx; exact absurd hp h; exact h2 x hx hp⟩
      · rintro ⟨h1, h2⟩
        exact ⟨h1, fun x hx hp => h2 x (by simp [hx]) hp⟩
theorem foldmin {f : MCk → Int} (p : MCk → Bool) : ∀ (l : List MCk) (m y : Int), y ≤ l.foldl (fun m c => if p c then m else min m (f c)) m ↔ y ≤ m ∧ ∀ c ∈ l, p c = false → y ≤ f c
  | [], m, y => by simp
  | c :: l, m, y => by
    rw [List.foldl_cons, foldmin p l]
    by_cases h : p c = true
    · rw [if_pos h]
      constructor
      · rintro ⟨h1, h2⟩
        exact ⟨h1, fun x hx hp => by rcases List.mem_cons.1 hx with rfl | hx; rw [h] at hp; cases hp; exact h2 x hx hp⟩
      · rintro ⟨h1, h2⟩
        exact ⟨h1, fun x hx hp => h2 x (by simp [hx]) hp⟩
    · rw [if_neg h]
      constructor
      · rintro ⟨h1, h2⟩
        exact ⟨by omega, fun x hx hp => by rcases List.mem_cons.1 hx with rfl | hx; omega; exact h2 x hx hp⟩
      · rintro ⟨h1, h2⟩
        have := h2 c (by simp) (by simpa using h)
        exact ⟨by omega, fun x hx hp => h2 x (by simp [hx]) hp⟩
/-- the least strength, by what it is not above -/
theorem loC_le {k : Kd} {cs : List MCk} {t y : Int} : loC k cs t ≤ y ↔ 0 ≤ y ∧ k.new - t * k.wear.hi ≤ y ∧ ∀ c ∈ cs, c.passed = true → needed k c.volt - (t - c.hour) * k.wear.hi ≤ y := by
  unfold loC
  rw [foldmax (fun c => c.passed)]
  constructor
  · rintro ⟨h1, h2⟩; exact ⟨by omega, by omega, h2⟩
  · rintro ⟨h1, h2, h3⟩; exact ⟨by omega, h3⟩
theorem le_hiC {k : Kd} {cs : List MCk} {t y : Int} : y ≤ hiC k cs t ↔ y ≤ k.new - t * k.wear.lo ∧ ∀ c ∈ cs, c.passed = false → y ≤ needed k c.volt - 1 - (t - c.hour) * k.wear.lo := by
  unfold hiC
  exact foldmin (fun c => c.passed) cs _ _
theorem loC_nn (k : Kd) (cs : List MCk) (t : Int) : 0 ≤ loC k cs t := (loC_le.1 (Int.le_refl (loC k cs t))).1
/-- they hang on which checks there are, alone -/
theorem loC_mono {k : Kd} {l l' : List MCk} (h : ∀ c ∈ l, c ∈ l') (t : Int) : loC k l t ≤ loC k l' t := by
  obtain ⟨h1, h2, h3⟩ := loC_le.1 (Int.le_refl (loC k l' t))
  exact loC_le.2 ⟨h1, h2, fun c hc hp => h3 c (h c hc) hp⟩
theorem hiC_mono {k : Kd} {l l' : List MCk} (h : ∀ c ∈ l, c ∈ l') (t : Int) : hiC k l' t ≤ hiC k l t := by
  obtain ⟨h1, h2⟩ := le_hiC.1 (Int.le_refl (hiC k l' t))
  exact le_hiC.2 ⟨h1, fun c hc hp => h2 c (h c hc) hp⟩
theorem loC_same {k : Kd} {l l' : List MCk} (h : ∀ c, c ∈ l ↔ c ∈ l') (t : Int) : loC k l t = loC k l' t := Int.le_antisymm (loC_mono (fun c hc => (h c).1 hc) t) (loC_mono (fun c hc => (h c).2 hc) t)
theorem hiC_same {k : Kd} {l l' : List MCk} (h : ∀ c, c ∈ l ↔ c ∈ l') (t : Int) : hiC k l t = hiC k l' t := Int.le_antisymm (hiC_mono (fun c hc => (h c).2 hc) t) (hiC_mono (fun c hc => (h c).1 hc) t)
/-- hours later -/
theorem loC_later {k : Kd} (l : List MCk) {t d : Int} (hw : 0 ≤ k.wear.hi) (hd : 0 ≤ d) : max 0 (loC k l t - d * k.wear.hi) = loC k l (t + d) := by
  have hdw : 0 ≤ d * k.wear.hi := Int.mul_nonneg hd hw
  have e : ∀ x : Int, x - (t + d) * k.wear.hi = x - t * k.wear.hi - d * k.wear.hi := by intro x; rw [Int.add_mul]; omega
  have e2 : ∀ x h : Int, x - (t + d - h) * k.wear.hi = x - (t - h) * k.wear.hi - d * k.wear.hi := by intro x h; rw [show t + d - h = (t - h) + d by omega, Int.add_mul]; omega
  refine Int.le_antisymm ?_ ?_
  · obtain ⟨h1, h2, h3⟩ := loC_le.1 (Int.le_refl (loC k l (t + d)))
    have : loC k l t ≤ loC k l (t + d) + d * k.wear.hi := loC_le.2 ⟨by omega, by rw [e] at h2; omega, fun c hc hp => by have := h3 c hc hp; rw [e2] at this; omega⟩
    omega
  · obtain ⟨h1, h2, h3⟩ := loC_le.1 (Int.le_refl (loC k l t))
    exact loC_le.2 ⟨by omega, by rw [e]; omega, fun c hc hp => by have := h3 c hc hp; rw [e2]; omega⟩
theorem hiC_later {k : Kd} (l : List MCk) {t d : Int} : hiC k l t - d * k.wear.lo = hiC k l (t + d) := by
  have e : ∀ x : Int, x - (t + d) * k.wear.lo = x - t * k.wear.lo - d * k.wear.lo := by intro x; rw [Int.add_mul]; omega
  have e2 : ∀ x h : Int, x - (t + d - h) * k.wear.lo = x - (t - h) * k.wear.lo - d * k.wear.lo := by intro x h; rw [show t + d - h = (t - h) + d by omega, Int.add_mul]; omega
  refine Int.le_antisymm ?_ ?_
  · obtain ⟨h1, h2⟩ := le_hiC.1 (Int.le_refl (hiC k l t))
    exact le_hiC.2 ⟨by rw [e]; omega, fun c hc hp => by have := h2 c hc hp; rw [e2]; omega⟩
  · obtain ⟨h1, h2⟩ := le_hiC.1 (Int.le_refl (hiC k l (t + d)))
    have : hiC k l (t + d) + d * k.wear.lo ≤ hiC k l t := le_hiC.2 ⟨by rw [e] at h1; omega, fun c hc hp => by have := h2 c hc hp; rw [e2] at this; omega⟩
    omega

/-- the checks up to an hour -/
def upto (l : List MCk) (h : Int) : List MCk := l.filter fun c => decide (c.hour ≤ h)
/-- a truth is left -/
def Valid (k : Kd) (l : List MCk) : Prop := ∀ c ∈ l, loC k (upto l c.hour) c.hour ≤ max 0 (hiC k (upto l c.hour) c.hour) ∧ (c.passed = false → 1 ≤ needed k c.volt)
theorem upto_same {l l' : List MCk} (h : ∀ c, c ∈ l ↔ c ∈ l') (t : Int) (c : MCk) : c ∈ upto l t ↔ c ∈ upto l' t := by simp [upto, h]
theorem valid_same {k : Kd} {l l' : List MCk} (h : ∀ c, c ∈ l ↔ c ∈ l') (hv : Valid k l) : Valid k l' := by
  intro c hc
  have := hv c ((h c).2 hc)
  rw [loC_same (upto_same h c.hour), hiC_same (upto_same h c.hour)] at this
  exact this
def lastH (l : List MCk) : Int := l.foldl (fun m c => max m c.hour) 0
def SortedC (l : List MCk) : Prop := l.Pairwise fun a b => a.hour ≤ b.hour

theorem runC_snoc (k : Kd) : ∀ (l : List MCk) (c : MCk) (s : Span × Int), runC k (l ++ [c]) s = (runC k l s).bind fun s' => runC k [c] s'
  | [], c, s => rfl
  | x :: l, c, (s, h) => by
    simp only [List.cons_append, runC]
    split
    · rfl
    · exact runC_snoc k l c _

theorem snoc_ind {α : Type} {p : List α → Prop} (h0 : p []) (hs : ∀ l a, p l → p (l ++ [a])) (l : List α) : p l := by
  have key : ∀ l : List α, p l.reverse := by
    intro l
    induction l with
    | nil => exact h0
    | cons a l ih => rw [List.reverse_cons]; exact hs _ _ ih
  have := key l.reverse
  rwa [List.reverse_reverse] at this
theorem lastH_snoc (l : List MCk) (c : MCk) : lastH (l ++ [c]) = max (lastH l) c.hour := by unfold lastH; rw [List.foldl_append]; rfl
theorem lastH_le {l : List MCk} {y : Int} (h0 : 0 ≤ y) (h : ∀ c ∈ l, c.hour ≤ y) : lastH l ≤ y := by
  induction l using snoc_ind with
  | h0 => exact h0
  | hs l a ih =>
    rw [lastH_snoc]
    have := ih (fun c hc => h c (by simp [hc]))
    have := h a (by simp)
    omega
theorem upto_all {l : List MCk} {t : Int} (h : ∀ c ∈ l, c.hour ≤ t) : upto l t = l := by
  unfold upto
  exact List.filter_eq_self.2 fun c hc => by simpa using h c hc
theorem valid_snoc {k : Kd} {l : List MCk} {c : MCk} (hs : ∀ x ∈ l, x.hour ≤ c.hour) :
    Valid k (l ++ [c]) ↔ Valid k l ∧ loC k (l ++ [c]) c.hour ≤ max 0 (hiC k (l ++ [c]) c.hour) ∧ (c.passed = false → 1 ≤ needed k c.volt) := by
  have hall : upto (l ++ [c]) c.hour = l ++ [c] := upto_all fun x hx => by
    rcases List.mem_append.1 hx with h | h
    · exact hs x h
    · simp at h; rw [h]; exact Int.le_refl _
  constructor
  · intro hv
    refine ⟨fun x hx => ?_, ?_⟩
    · obtain ⟨h1, h2⟩ := hv x (by simp [hx])
      refine ⟨?_, h2⟩
      have hsub : ∀ y ∈ upto l x.hour, y ∈ upto (l ++ [c]) x.hour := by
        intro y hy; unfold upto at hy ⊢; rw [List.mem_filter] at hy ⊢; exact ⟨by simp [hy.1], hy.2⟩
      have a1 := loC_mono (k := k) hsub x.hour
      have a2 := hiC_mono (k := k) hsub x.hour
      omega
    · have := hv c (by simp)
      rw [hall] at this; exact this
  · rintro ⟨h1, h2, h3⟩ x hx
    rcases List.mem_append.1 hx with h | h
    · obtain ⟨a1, a2⟩ := h1 x h
      refine ⟨?_, a2⟩
      by_cases he : x.hour = c.hour
      · rw [he, hall]; exact h2
      · have hne : upto (l ++ [c]) x.hour = upto l x.hour := by
          unfold upto
          rw [List.filter_append, List.filter_cons_of_neg (by have := hs x h; simp; omega)]
          simp
        rw [hne]; exact a1
    · simp at h; subst h
      rw [hall]; exact ⟨h2, h3⟩
open Classical in
/-- check by check, in order of the hours: what the closed form says -/
theorem runC_eq {k : Kd} (hK : KOk k) (l : List MCk) : SortedC l → (∀ c ∈ l, 0 ≤ c.hour ∧ voltOk k c.volt = true) →
    runC k l (⟨k.new, k.new⟩, 0) = if Valid k l then some (⟨loC k l (lastH l), max 0 (hiC k l (lastH l))⟩, lastH l) else none := by
  have hn0 := hK.n0
  have hw0 := hK.w0
  have hw1 := hK.w1
  induction l using snoc_ind with
  | h0 =>
    intro _ _
    have hv0 : Valid k [] := fun c hc => by cases hc
    rw [if_pos hv0]
    have e1 : loC k [] (lastH []) = k.new := by show max 0 (k.new - 0 * k.wear.hi) = _; omega
    have e2 : hiC k [] (lastH []) = k.new := by show k.new - 0 * k.wear.lo = _; omega
    rw [e1, e2]
    show some _ = some _
    rw [show max 0 k.new = k.new by omega]
    rfl
  | hs l c ih =>
    intro hs hok
    unfold SortedC at hs
    rw [List.pairwise_append] at hs
    have hle : ∀ x ∈ l, x.hour ≤ c.hour := fun x hx => hs.2.2 x hx c (by simp)
    obtain ⟨hc0, hcv⟩ := hok c (by simp)
    have hn := needed_bd hK hcv
    rw [runC_snoc, ih hs.1 (fun x hx => hok x (by simp [hx])), lastH_snoc]
    have hlh : lastH l ≤ c.hour := lastH_le hc0 hle
    have hmx : max (lastH l) c.hour = c.hour := by omega
    rw [hmx]
    by_cases hv : Valid k l
    · rw [if_pos hv]
      have hd : 0 ≤ c.hour - lastH l := by omega
      have e1 := loC_later (k := k) l (t := lastH l) (d := c.hour - lastH l) (by omega) hd
      have e2 := hiC_later (k := k) l (t := lastH l) (d := c.hour - lastH l)
      rw [show lastH l + (c.hour - lastH l) = c.hour by omega] at e1 e2
      have hdw : 0 ≤ (c.hour - lastH l) * k.wear.lo := Int.mul_nonneg hd hw0
      have e3 : max 0 (max 0 (hiC k l (lastH l)) - (c.hour - lastH l) * k.wear.lo) = max 0 (hiC k l c.hour) := by omega
      have hnn := loC_nn k l c.hour
      simp only [Option.bind_some, runC, later, e1, e3]
      have hz : ∀ w : Int, (c.hour - c.hour) * w = 0 := by intro w; rw [Int.sub_self, Int.zero_mul]
      cases hp : c.passed with
      | true =>
        have l1 : loC k (l ++ [c]) c.hour = max (loC k l c.hour) (needed k c.volt) := by rw [loC_snoc, if_pos hp, hz]; omega
        have l2 : hiC k (l ++ [c]) c.hour = hiC k l c.hour := by rw [hiC_snoc, if_pos hp]
        simp only [agreed, if_true]
        by_cases hb : max 0 (hiC k l c.hour) < max (loC k l c.hour) (needed k c.volt)
        · rw [if_pos hb, if_neg]
          rw [valid_snoc hle, l1, l2]
          rintro ⟨_, h2, _⟩; omega
        · rw [if_neg hb, if_pos ((valid_snoc hle).2 ⟨hv, by rw [l1, l2]; omega, fun h => by rw [hp] at h; cases h⟩), l1, l2]
      | false =>
        have l1 : loC k (l ++ [c]) c.hour = loC k l c.hour := by rw [loC_snoc, if_neg (by rw [hp]; decide)]
        have l2 : hiC k (l ++ [c]) c.hour = min (hiC k l c.hour) (needed k c.volt - 1) := by rw [hiC_snoc, if_neg (by rw [hp]; decide), hz]; omega
        simp only [agreed, Bool.false_eq_true, if_false]
        by_cases hb : min (max 0 (hiC k l c.hour)) (needed k c.volt - 1) < loC k l c.hour
        · rw [if_pos hb, if_neg]
          rw [valid_snoc hle, l1, l2]
          rintro ⟨_, h2, h3⟩
          have := h3 hp
          omega
        · rw [if_neg hb, if_pos ((valid_snoc hle).2 ⟨hv, by rw [l1, l2]; omega, fun _ => by omega⟩), l1, l2]
          congr 3
          omega
    · rw [if_neg hv, if_neg (fun h => hv ((valid_snoc hle).1 h).1)]
      rfl

end Go.Proofs.Ytndcmmghgljinaa
