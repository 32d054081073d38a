/- Plain laws of valves: when it fails, of two spans; more wear; hours, one after the other. -/
import Derived.Test.YtndcmmghgljinaaM5
set_option linter.all false
namespace Go.Proofs.Ytndcmmghgljinaa

/-- more wear fails no later -/
theorem below_wear {s n w w' : Int} (hw : 0 ≤ w) (h : w ≤ w') : below s n w < 0 ∨ (0 ≤ below s n w' ∧ below s n w' ≤ below s n w) := by
  unfold below
  by_cases h1 : s < n
  · right; rw [if_pos h1, if_pos h1]; omega
  · rw [if_neg h1, if_neg h1]
    by_cases h2 : n = 0 ∨ w = 0
    · left; rw [if_pos h2]; decide
    · right
      rw [if_neg h2, if_neg (by omega)]
      have hp : 0 < w := by omega
      have hp' : 0 < w' := by omega
      refine ⟨Int.ediv_nonneg (by omega) (by omega), ?_⟩
      have e1 : (s - n + w) / w = (s - n) / w + 1 := by rw [Int.add_ediv_of_dvd_right (Int.dvd_refl w), Int.ediv_self (by omega)]
      have e2 : (s - n + w') / w' = (s - n) / w' + 1 := by rw [Int.add_ediv_of_dvd_right (Int.dvd_refl w'), Int.ediv_self (by omega)]
      rw [e1, e2]
      have h3 := Int.ediv_mul_le (s - n) (b := w') (by omega)
      have h4 : 0 ≤ (s - n) / w' := Int.ediv_nonneg (by omega) (by omega)
      have h5 : (s - n) / w' * w ≤ (s - n) / w' * w' := Int.mul_le_mul_of_nonneg_left h h4
      have := Int.le_ediv_of_mul_le hp (Int.le_trans h5 h3)
      omega
/-- what fails of a lesser strength, with more wear -/
theorem below_cmp {s s' n w w' : Int} (hn : 0 ≤ n) (hs : s' ≤ s) (hw0 : 0 ≤ w) (hw : w ≤ w') : below s n w < 0 ∨ (0 ≤ below s' n w' ∧ below s' n w' ≤ below s n w) := by
  rcases below_wear (s := s) (n := n) hw0 hw with h | ⟨h1, h2⟩
  · exact .inl h
  · rcases below_mono (n := n) (w := w') hn (by omega) hs with h3 | ⟨h3, h4⟩
    · omega
    · right; omega
theorem failAt_cmp {a b f : Int} (hf : 0 ≤ f) (h : a < 0 ∨ (0 ≤ b ∧ b ≤ a)) : failAt f a < 0 ∨ (0 ≤ failAt f b ∧ failAt f b ≤ failAt f a) := by
  unfold failAt
  rcases h with h | ⟨h1, h2⟩
  · left; rw [if_pos h]; exact h
  · right; rw [if_neg (by omega), if_neg (by omega)]; omega
/-- a kind of more wear -/
def widK (k : Kd) (a b : Int) : Kd := ⟨k.new, ⟨max 0 (k.wear.lo - a), min 1000 (k.wear.hi + b)⟩, k.steps⟩
theorem widK_wear {k : Kd} (hK : KOk k) {a b : Int} (ha : 0 ≤ a) (hb : 0 ≤ b) : 0 ≤ (widK k a b).wear.lo ∧ (widK k a b).wear.lo ≤ k.wear.lo ∧ k.wear.hi ≤ (widK k a b).wear.hi ∧ (widK k a b).wear.hi ≤ 1000 := by
  have h1 := hK.w0; have h2 := hK.w1; have h3 := hK.w2
  show 0 ≤ max 0 (k.wear.lo - a) ∧ max 0 (k.wear.lo - a) ≤ k.wear.lo ∧ k.wear.hi ≤ min 1000 (k.wear.hi + b) ∧ min 1000 (k.wear.hi + b) ≤ 1000
  omega
theorem widK_err {k : Kd} (h : kdErr k = 0) {a b : Int} (ha : 0 ≤ a) (hb : 0 ≤ b) : kdErr (widK k a b) = 0 := by
  have hK := kok_of h
  obtain ⟨w1, w2, w3, w4⟩ := widK_wear hK ha hb
  have h0 := hK.n0; have h1 := hK.n1; have h2 := hK.w0; have h3 := hK.w1; have h4 := hK.w2
  have g1 : ¬ (inb k.new 1 1000000 = false ∨ inb k.wear.lo 0 1000 = false ∨ inb k.wear.hi 0 1000 = false) := by
    simp only [not_or, Bool.not_eq_false, inb_iff]; omega
  have e1 : ¬ (inb (widK k a b).new 1 1000000 = false ∨ inb (widK k a b).wear.lo 0 1000 = false ∨ inb (widK k a b).wear.hi 0 1000 = false) := by
    have : (widK k a b).new = k.new := rfl
    simp only [not_or, Bool.not_eq_false, inb_iff]; omega
  unfold kdErr at h ⊢
  rw [if_neg g1, if_neg (by omega)] at h
  rw [if_neg e1, if_neg (by omega)]
  exact h
theorem lo_wid {k : Kd} (hK : KOk k) {a b : Int} (ha : 0 ≤ a) (hb : 0 ≤ b) {cs : List MCk} {t : Int} (ht : 0 ≤ t) (hc : ∀ c ∈ cs, c.hour ≤ t) : loC (widK k a b) cs t ≤ loC k cs t := by
  obtain ⟨w1, w2, w3, w4⟩ := widK_wear hK ha hb
  obtain ⟨h1, h2, h3⟩ := loC_le.1 (Int.le_refl (loC k cs t))
  refine loC_le.2 ⟨h1, ?_, fun c hm hp => ?_⟩
  · have : t * k.wear.hi ≤ t * (widK k a b).wear.hi := Int.mul_le_mul_of_nonneg_left w3 ht
    show k.new - _ ≤ _
    omega
  · have := h3 c hm hp
    have h4 : (t - c.hour) * k.wear.hi ≤ (t - c.hour) * (widK k a b).wear.hi := Int.mul_le_mul_of_nonneg_left w3 (by have := hc c hm; omega)
    show needed k c.volt - _ ≤ _
    omega
theorem hi_wid {k : Kd} (hK : KOk k) {a b : Int} (ha : 0 ≤ a) (hb : 0 ≤ b) {cs : List MCk} {t : Int} (ht : 0 ≤ t) (hc : ∀ c ∈ cs, c.hour ≤ t) : hiC k cs t ≤ hiC (widK k a b) cs t := by
  obtain ⟨w1, w2, w3, w4⟩ := widK_wear hK ha hb
  obtain ⟨h1, h2⟩ := le_hiC.1 (Int.le_refl (hiC k cs t))
  refine le_hiC.2 ⟨?_, fun c hm hp => ?_⟩
  · have : t * (widK k a b).wear.lo ≤ t * k.wear.lo := Int.mul_le_mul_of_nonneg_left w2 ht
    show _ ≤ k.new - _
    omega
  · have := h2 c hm hp
    have h4 : (t - c.hour) * (widK k a b).wear.lo ≤ (t - c.hour) * k.wear.lo := Int.mul_le_mul_of_nonneg_left w2 (by have := hc c hm; omega)
    show _ ≤ needed k c.volt - 1 - _
    omega
theorem aok_wid {k : Kd} {cs : List MCk} {h : Int} (hA : AOk k cs h) {a b : Int} (ha : 0 ≤ a) (hb : 0 ≤ b) : AOk (widK k a b) cs h ∧ (closed (widK k a b) cs h).lo ≤ (closed k cs h).lo ∧ (closed k cs h).hi ≤ (closed (widK k a b) cs h).hi := by
  obtain ⟨hE, hl, hc, hv, h0, h1, hh⟩ := hA
  have hK := kok_of hE
  have hle : ∀ c ∈ cs, c.hour ≤ h := (lastH_iff.1 hh).2
  refine ⟨⟨widK_err hE ha hb, hl, hc, fun c hm => ?_, h0, h1, hh⟩, lo_wid hK ha hb h0 hle, ?_⟩
  · obtain ⟨v1, v2⟩ := hv c hm
    have hu : ∀ x ∈ upto cs c.hour, x.hour ≤ c.hour := fun x hx => by unfold upto at hx; rw [List.mem_filter] at hx; simpa using hx.2
    have hp : 0 ≤ c.hour := (chk_bd (hc c hm)).1.1
    have a1 := lo_wid hK ha hb hp hu
    have a2 := hi_wid hK ha hb hp hu
    exact ⟨by omega, v2⟩
  · have := hi_wid hK ha hb h0 hle
    show max 0 (hiC k cs h) ≤ max 0 (hiC _ cs h)
    omega
def noLater (a b : Fail) : Prop := (a.earliest < 0 ∨ (0 ≤ b.earliest ∧ b.earliest ≤ a.earliest)) ∧ (b.latest < 0 ∨ (0 ≤ a.latest ∧ a.latest ≤ b.latest))
/-- a wider span, with wider wear: earlier the earliest, later the latest -/
theorem fails_cmp {k k' : Kd} {s s' : Span} {f : Int} (hn : 0 ≤ needed k 1000) (hnn : needed k' 1000 = needed k 1000) (hf : 0 ≤ f) (hlo : s'.lo ≤ s.lo) (hhi : s.hi ≤ s'.hi) (hw0 : 0 ≤ k'.wear.lo) (hw1 : k'.wear.lo ≤ k.wear.lo) (hw2 : k.wear.hi ≤ k'.wear.hi) (hw3 : 0 ≤ k.wear.hi) : noLater (failsOf k s f) (failsOf k' s' f) := by
  unfold noLater failsOf
  simp only [hnn]
  exact ⟨failAt_cmp hf (below_cmp hn hlo hw3 hw2), failAt_cmp hf (below_cmp hn hhi hw0 hw1)⟩
theorem top_ok {k : Kd} (hK : KOk k) : voltOk k 1000 = true := by
  unfold voltOk
  rw [getD_get (show k.steps.length - 1 < k.steps.length by have := hK.l0; omega), inb_iff]
  exact ⟨(hK.st _ _).1.2, Int.le_refl _⟩
/-- with a later hour, and with more wear -/
theorem law_later {k : Kd} {cs : List MCk} {h x y z : Int} (he : (asked k cs h).2 = 0) (hh : h ≤ 100000) (hx : 0 ≤ x) (hy : 0 ≤ y) (hz : 0 ≤ z) :
    ((asked k cs (min 100000 (h + x))).2 = 0 ∧ (asked k cs (min 100000 (h + x))).1.lo ≤ (asked k cs h).1.lo ∧ (asked k cs (min 100000 (h + x))).1.hi ≤ (asked k cs h).1.hi) ∧
    (asked (widK k y z) cs h).2 = 0 ∧ noLater (failsOf k (asked k cs h).1 h) (failsOf (widK k y z) (asked (widK k y z) cs h).1 h) := by
  have hA := asked_ok he
  have hK := kok_of hA.1
  have hA2 : AOk k cs (min 100000 (h + x)) := by
    obtain ⟨hE, hl, hc, hv, h0, h1, hh⟩ := hA
    exact ⟨hE, hl, hc, hv, by omega, by omega, by omega⟩
  obtain ⟨hA3, l1, l2⟩ := aok_wid hA hy hz
  have hc := closed_later hK (cs := cs) (h := h) (h' := min 100000 (h + x)) (by omega)
  rw [asked_of hA, asked_of hA2, asked_of hA3]
  obtain ⟨w1, w2, w3, w4⟩ := widK_wear hK hy hz
  exact ⟨⟨rfl, hc.1, hc.2⟩, rfl, fails_cmp (needed_bd hK (top_ok hK)).1 rfl hA.2.2.2.2.1 l1 l2 w1 w2 w3 (by have := hK.w0; have := hK.w1; omega)⟩
/-- the same checks in another order, some twice; and with a check less -/
theorem law_order {k : Kd} {cs cs' less : List MCk} {h : Int} (he : (asked k cs h).2 = 0) (hm : ∀ c, c ∈ cs ↔ c ∈ cs') (hl : cs'.length ≤ 30) (hs : ∀ c ∈ less, c ∈ cs) (hl2 : less.length ≤ 30) :
    asked k cs' h = asked k cs h ∧ (asked k less h).2 = 0 ∧ (asked k less h).1.lo ≤ (asked k cs h).1.lo ∧ (asked k cs h).1.hi ≤ (asked k less h).1.hi ∧ noLater (failsOf k (asked k cs h).1 h) (failsOf k (asked k less h).1 h) := by
  have hA := asked_ok he
  have hK := kok_of hA.1
  obtain ⟨hA2, e2⟩ := aok_same hA hm hl
  obtain ⟨hA3, l1, l2⟩ := aok_sub hA hs hl2
  rw [asked_of hA, asked_of hA2, asked_of hA3, e2]
  have := hK.w0; have := hK.w1
  exact ⟨rfl, rfl, l1, l2, fails_cmp (needed_bd hK (top_ok hK)).1 rfl hA.2.2.2.2.1 l1 l2 (by omega) (by omega) (by omega) (by omega)⟩

end Go.Proofs.Ytndcmmghgljinaa
