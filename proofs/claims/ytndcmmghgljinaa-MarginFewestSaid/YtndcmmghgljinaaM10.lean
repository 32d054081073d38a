/- Plain laws of valves: nights in which a valve is replaced: the plan is safe, and no safe one replaces fewer. -/
import Derived.Test.YtndcmmghgljinaaW33
import Derived.Test.YtndcmmghgljinaaM8
set_option linter.all false
namespace Go.Proofs.Ytndcmmghgljinaa

def Incr (l : List Int) : Prop := ∀ i j, i < j → j < l.length → l.getD i 0 < l.getD j 0
theorem Incr.le {l : List Int} (h : Incr l) {i j : Nat} (hij : i ≤ j) (hj : j < l.length) : l.getD i 0 ≤ l.getD j 0 := by
  by_cases e : i = j
  · subst e; exact Int.le_refl _
  · have := h i j (by omega) hj; omega
theorem lastIn_in (l : List Int) (f c : Int) (a : Nat) : ∀ i, 0 ≤ lastIn l f c a i → f ≤ l.getD (lastIn l f c a i).toNat 0 ∧ l.getD (lastIn l f c a i).toNat 0 ≤ c
  | 0, h => by unfold lastIn at h; omega
  | i + 1, h => by
    unfold lastIn at h ⊢
    by_cases hc : a ≤ i ∧ f ≤ l.getD i 0 ∧ l.getD i 0 ≤ c
    · rw [if_pos hc]; exact hc.2
    · rw [if_neg hc] at h ⊢; exact lastIn_in l f c a i h
theorem lastIn_max (l : List Int) (f c : Int) (a : Nat) : ∀ n i : Nat, i < n → a ≤ i → f ≤ l.getD i 0 → l.getD i 0 ≤ c → (i : Int) ≤ lastIn l f c a n
  | 0, i, h, _, _, _ => by omega
  | n + 1, i, h, ha, h1, h2 => by
    unfold lastIn
    by_cases hc : a ≤ n ∧ f ≤ l.getD n 0 ∧ l.getD n 0 ≤ c
    · rw [if_pos hc]; omega
    · rw [if_neg hc]
      by_cases e : i = n
      · subst e; exact absurd ⟨ha, h1, h2⟩ hc
      · exact lastIn_max l f c a n i (by omega) ha h1 h2
theorem plan_go {k : Kd} {l : List Int} {f u : Int} {n : Nat} {can : Int} {a : Nat} {p : List Int} (h : planGo k l f u (n + 1) can a = some p) :
    ((can < 0 ∨ u < can) ∧ p = []) ∨ (¬ (can < 0 ∨ u < can) ∧ ∃ (j : Nat) (p' : List Int), p = (j : Int) :: p' ∧ a ≤ j ∧ j < l.length ∧ f ≤ l.getD j 0 ∧ l.getD j 0 ≤ can ∧ planGo k l f u n (canAt k (l.getD j 0)) (j + 1) = some p') := by
  unfold planGo at h
  by_cases hc : can < 0 ∨ u < can
  · rw [if_pos hc] at h; left; exact ⟨hc, by cases h; rfl⟩
  · rw [if_neg hc] at h; right
    by_cases hl : lastIn l f can a l.length < 0
    · rw [if_pos hl] at h; cases h
    · rw [if_neg hl] at h
      obtain ⟨b1, b2, b3⟩ := lastIn_bd l f can a l.length
      have b4 := b3 (by omega)
      obtain ⟨c1, c2⟩ := lastIn_in l f can a l.length (by omega)
      obtain ⟨j, hj⟩ : ∃ j : Nat, lastIn l f can a l.length = j := ⟨(lastIn l f can a l.length).toNat, by omega⟩
      rw [hj, Int.toNat_natCast] at h c1 c2
      rw [Option.map_eq_some_iff] at h
      obtain ⟨p', h1, h2⟩ := h
      exact ⟨hc, j, p', h2.symm, by omega, by omega, c1, c2, h1⟩
theorem plan_in {k : Kd} {l : List Int} {f u : Int} : ∀ (n : Nat) {can : Int} {a : Nat} {p : List Int}, planGo k l f u n can a = some p → ∀ x ∈ p, (a : Int) ≤ x ∧ x < l.length ∧ f ≤ l.getD x.toNat 0
  | 0, _, _, _, h => by cases h
  | n + 1, can, a, p, h => by
    rcases plan_go h with ⟨_, rfl⟩ | ⟨_, j, p', rfl, h1, h2, h3, h4, h5⟩
    · intro x hx; cases hx
    · intro x hx
      rcases List.mem_cons.1 hx with rfl | hx
      · exact ⟨by omega, by omega, by rw [Int.toNat_natCast]; exact h3⟩
      · have := plan_in n h5 x hx
        exact ⟨by omega, this.2⟩
theorem below_reach {s n w : Int} {d : Nat} (hn : 0 < n) (hw : 0 ≤ w) (h : s - (d : Int) * w < n) : 0 ≤ below s n w ∧ below s n w ≤ d := by
  have hex : 0 ≤ below s n w := by
    unfold below
    split
    · exact Int.le_refl _
    · rename_i h1
      have h0 : ¬ w = 0 := by intro e; rw [e] at h; simp at h; omega
      rw [if_neg (by omega)]
      exact Int.ediv_nonneg (by omega) hw
  exact ⟨hex, (below_spec hw (by omega)).1 h hex⟩
/-- strengths, hour by hour, with what is replaced in the hours of R -/
structure Path (k : Kd) (R : Int → Prop) (F : Nat → Int) (b U : Nat) : Prop where
  new : ∀ t, b ≤ t → t < U → R ((t + 1 : Nat) : Int) → F (t + 1) = k.new
  dn : ∀ t, b ≤ t → t < U → ¬ R ((t + 1 : Nat) : Int) → max 0 (F t - k.wear.hi) ≤ F (t + 1)
theorem path_seg {k : Kd} {R : Int → Prop} {F : Nat → Int} {b U : Nat} (h : Path k R F b U) : ∀ d : Nat, b + d ≤ U → (∀ t, b < t → t ≤ b + d → ¬ R (t : Int)) → F b - (d : Int) * k.wear.hi ≤ F (b + d)
  | 0, _, _ => by simp
  | d + 1, hd, hR => by
    have h1 := path_seg h d (by omega) (fun t h2 h3 => hR t h2 (by omega))
    have h2 := h.dn (b + d) (by omega) (by omega) (hR (b + d + 1) (by omega) (by omega))
    have : ((d + 1 : Nat) : Int) * k.wear.hi = d * k.wear.hi + k.wear.hi := by rw [Int.natCast_add, Int.add_mul]; simp
    rw [show b + (d + 1) = b + d + 1 by omega]
    omega
theorem seg_safe {k : Kd} (hK : KOk k) {R : Int → Prop} {F : Nat → Int} {b U : Nat} (h : Path k R F b U) {s : Span} (hs : s.lo ≤ F b) (hnn : ∀ t, 0 ≤ F t) {t : Nat} (hb : b ≤ t) (hU : t ≤ U) (hR : ∀ t', b < t' → t' ≤ t → ¬ R (t' : Int)) (hc : (failsOf k s b).earliest < 0 ∨ (t : Int) < (failsOf k s b).earliest) : needed k 1000 ≤ F t := by
  by_cases hlt : needed k 1000 ≤ F t
  · exact hlt
  · exfalso
    obtain ⟨d, rfl⟩ : ∃ d, t = b + d := ⟨t - b, by omega⟩
    have h1 := path_seg h d hU hR
    have h2 := hnn (b + d)
    have hw0 := hK.w0; have hw1 := hK.w1
    obtain ⟨r1, r2⟩ := below_reach (s := s.lo) (n := needed k 1000) (w := k.wear.hi) (d := d) (by omega) (by omega) (by omega)
    unfold failsOf failAt at hc
    simp only at hc
    rw [if_neg (by omega)] at hc
    omega
theorem plan_safe {k : Kd} {l : List Int} {f : Int} (hK : KOk k) (hi : Incr l) {F : Nat → Int} (hnn : ∀ t, 0 ≤ F t) {U : Nat} : ∀ (n : Nat) {can : Int} {a : Nat} {p : List Int} {b : Nat} {s : Span}, planGo k l f U n can a = some p → can = (failsOf k s b).earliest → s.lo ≤ F b →
    (∀ x ∈ p, (b : Int) < l.getD x.toNat 0) → Path k (fun t => ∃ x ∈ p, l.getD x.toNat 0 = t) F b U → ∀ t, b ≤ t → t ≤ U → needed k 1000 ≤ F t
  | 0, _, _, _, _, _, h => by cases h
  | n + 1, can, a, p, b, s, h => by
    intro hcan hs hbp hP t hbt htU
    rcases plan_go h with ⟨hc, rfl⟩ | ⟨hc, j, p', rfl, h1, h2, h3, h4, h5⟩
    · exact seg_safe hK hP hs hnn hbt htU (fun t' _ _ hR => by obtain ⟨x, hx, _⟩ := hR; cases hx) (by rw [← hcan]; omega)
    · have hbj := hbp j (by simp)
      rw [Int.toNat_natCast] at hbj
      have hin := plan_in n h5
      obtain ⟨g, hg⟩ : ∃ g : Nat, l.getD j 0 = g := ⟨(l.getD j 0).toNat, by omega⟩
      have hlt : ∀ x ∈ p', (g : Int) < l.getD x.toNat 0 := fun x hx => by
        obtain ⟨x1, x2, _⟩ := hin x hx
        rw [← hg]; exact hi j x.toNat (by omega) (by omega)
      by_cases htg : t < g
      · refine seg_safe hK hP hs hnn hbt htU (fun t' ht1 ht2 hR => ?_) (by rw [← hcan]; omega)
        obtain ⟨x, hx, he⟩ := hR
        rcases List.mem_cons.1 hx with rfl | hx
        · rw [Int.toNat_natCast] at he; omega
        · have := hlt x hx; omega
      · have hgU : g ≤ U := by omega
        have hFg : F g = k.new := by
          have := hP.new (g - 1) (by omega) (by omega) ⟨j, by simp, by rw [Int.toNat_natCast, hg]; congr 1; omega⟩
          rw [show g - 1 + 1 = g by omega] at this
          exact this
        refine plan_safe hK hi hnn n h5 (b := g) (s := newSpan k) (by unfold canAt; rw [hg]) (by rw [hFg]; exact Int.le_refl _) hlt ⟨fun t' e1 e2 hR => ?_, fun t' e1 e2 hR => ?_⟩ t (by omega) htU
        · obtain ⟨x, hx, he⟩ := hR
          exact hP.new t' (by omega) e2 ⟨x, by simp [hx], he⟩
        · refine hP.dn t' (by omega) e2 ?_
          rintro ⟨x, hx, he⟩
          rcases List.mem_cons.1 hx with rfl | hx
          · rw [Int.toNat_natCast] at he; omega
          · exact hR ⟨x, hx, he⟩
/-- from an hour on, in which it may be replaced, too -/
theorem plan_all {k : Kd} {l : List Int} (hK : KOk k) (hi : Incr l) {F : Nat → Int} (hnn : ∀ t, 0 ≤ F t) {b U : Nat} {p : List Int} {s : Span} (h : planR k l (failsOf k s b).earliest b U = some p)
    (h0 : (∃ x ∈ p, l.getD x.toNat 0 = (b : Int)) → F b = k.new) (h1 : (¬ ∃ x ∈ p, l.getD x.toNat 0 = (b : Int)) → s.lo ≤ F b) (hP : Path k (fun t => ∃ x ∈ p, l.getD x.toNat 0 = t) F b U) : ∀ t, b ≤ t → t ≤ U → needed k 1000 ≤ F t := by
  unfold planR at h
  have hin := plan_in _ h
  by_cases hR : ∃ x ∈ p, l.getD x.toNat 0 = (b : Int)
  · rcases plan_go h with ⟨hc, rfl⟩ | ⟨hc, j, p', rfl, g1, g2, g3, g4, g5⟩
    · obtain ⟨x, hx, _⟩ := hR; cases hx
    · have hin' := plan_in _ g5
      have hjb : l.getD j 0 = (b : Int) := by
        obtain ⟨x, hx, he⟩ := hR
        rcases List.mem_cons.1 hx with rfl | hx
        · rw [Int.toNat_natCast] at he; exact he
        · obtain ⟨x1, x2, x3⟩ := hin' x hx
          have := hi j x.toNat (by omega) (by omega)
          omega
      have hlt : ∀ x ∈ p', (b : Int) < l.getD x.toNat 0 := fun x hx => by
        obtain ⟨x1, x2, _⟩ := hin' x hx
        rw [← hjb]; exact hi j x.toNat (by omega) (by omega)
      refine plan_safe hK hi hnn _ g5 (b := b) (s := newSpan k) (by unfold canAt; rw [hjb]) (by rw [h0 hR]; exact Int.le_refl _) hlt ⟨fun t' e1 e2 hR' => ?_, fun t' e1 e2 hR' => ?_⟩
      · obtain ⟨x, hx, he⟩ := hR'
        exact hP.new t' (by omega) e2 ⟨x, by simp [hx], he⟩
      · refine hP.dn t' (by omega) e2 ?_
        rintro ⟨x, hx, he⟩
        rcases List.mem_cons.1 hx with rfl | hx
        · rw [Int.toNat_natCast] at he; omega
        · exact hR' ⟨x, hx, he⟩
  · refine plan_safe hK hi hnn _ h rfl (h1 hR) (fun x hx => ?_) hP
    have := (hin x hx).2.2
    by_cases e : l.getD x.toNat 0 = (b : Int)
    · exact absurd ⟨x, hx, e⟩ hR
    · omega

/- the fewest -/
theorem countP_lt {p q : Nat → Bool} (h : ∀ x, p x = true → q x = true) {i : Nat} (hq : q i = true) (hp : p i = false) : ∀ {l : List Nat}, i ∈ l → l.countP p + 1 ≤ l.countP q
  | [], hm => by cases hm
  | x :: l, hm => by
    rw [List.countP_cons, List.countP_cons]
    by_cases e : i = x
    · subst e
      have := List.countP_mono_left (l := l) (fun y _ => h y)
      rw [hq, hp]; simp; omega
    · have hm' : i ∈ l := by rcases List.mem_cons.1 hm with h | h; exact absurd h e; exact h
      have := countP_lt h hq hp hm'
      have h2 := h x
      cases hpx : p x with
      | true => rw [h2 hpx]; simp; omega
      | false => cases q x <;> simp <;> omega
/-- another plan's path, with the greatest wear -/
structure Worst (k : Kd) (l : List Int) (W : Nat → Bool) (F : Nat → Int) (b U : Nat) : Prop where
  new : ∀ t, b ≤ t → t < U → (∃ i, i < l.length ∧ W i = true ∧ l.getD i 0 = ((t + 1 : Nat) : Int)) → F (t + 1) = k.new
  up : ∀ t, b ≤ t → t < U → (¬ ∃ i, i < l.length ∧ W i = true ∧ l.getD i 0 = ((t + 1 : Nat) : Int)) → F (t + 1) ≤ max 0 (F t - k.wear.hi)
theorem Worst.from {k : Kd} {l : List Int} {W : Nat → Bool} {F : Nat → Int} {b b' U : Nat} (h : Worst k l W F b U) (hb : b ≤ b') : Worst k l W F b' U := ⟨fun t h1 => h.new t (by omega), fun t h1 => h.up t (by omega)⟩
theorem worst_seg {k : Kd} (hK : KOk k) {l : List Int} {W : Nat → Bool} {F : Nat → Int} {b U : Nat} (h : Worst k l W F b U) : ∀ d : Nat, b + d ≤ U → (∀ i, i < l.length → W i = true → (b : Int) < l.getD i 0 → l.getD i 0 ≤ ((b + d : Nat) : Int) → False) → F (b + d) ≤ max 0 (F b - (d : Int) * k.wear.hi)
  | 0, _, _ => by simp; omega
  | d + 1, hd, hN => by
    have hw0 := hK.w0; have hw1 := hK.w1
    have h1 := worst_seg hK h d (by omega) (fun i a1 a2 a3 a4 => hN i a1 a2 a3 (by omega))
    have h2 := h.up (b + d) (by omega) (by omega) (by rintro ⟨i, a1, a2, a3⟩; exact hN i a1 a2 (by omega) (by omega))
    have : ((d + 1 : Nat) : Int) * k.wear.hi = d * k.wear.hi + k.wear.hi := by rw [Int.natCast_add, Int.add_mul]; simp
    have h4 : 0 ≤ (d : Int) * k.wear.hi := Int.mul_nonneg (by omega) (by omega)
    rw [show b + (d + 1) = b + d + 1 by omega]
    omega
theorem worst_le {k : Kd} (hK : KOk k) {l : List Int} {W : Nat → Bool} {F : Nat → Int} {b U : Nat} (h : Worst k l W F b U) (h0 : F b ≤ k.new) : ∀ d : Nat, b + d ≤ U → F (b + d) ≤ k.new
  | 0, _ => h0
  | d + 1, hd => by
    have hw0 := hK.w0; have hw1 := hK.w1; have hn := hK.n0
    have h1 := worst_le hK h h0 d (by omega)
    rw [show b + (d + 1) = b + d + 1 by omega]
    by_cases hR : ∃ i, i < l.length ∧ W i = true ∧ l.getD i 0 = ((b + d + 1 : Nat) : Int)
    · rw [h.new (b + d) (by omega) (by omega) hR]; exact Int.le_refl _
    · have := h.up (b + d) (by omega) (by omega) hR; omega
/-- a safe plan replaces the valve up to the hour at which it can fail -/
theorem worst_must {k : Kd} (hK : KOk k) {l : List Int} {W : Nat → Bool} {F : Nat → Int} {b U : Nat} {s : Span} (h : Worst k l W F b U) (hs : F b ≤ s.lo) (hs0 : 0 ≤ s.lo) (hsafe : ∀ t, b ≤ t → t ≤ U → needed k 1000 ≤ F t)
    (hc : ¬ ((failsOf k s b).earliest < 0 ∨ (U : Int) < (failsOf k s b).earliest)) : (b : Int) ≤ (failsOf k s b).earliest ∧ ∃ i, i < l.length ∧ W i = true ∧ (b : Int) < l.getD i 0 ∧ l.getD i 0 ≤ (failsOf k s b).earliest := by
  have hw0 := hK.w0; have hw1 := hK.w1
  have e : (failsOf k s b).earliest = failAt b (below s.lo (needed k 1000) k.wear.hi) := rfl
  rw [e] at hc ⊢
  rcases below_nn (s := s.lo) (n := needed k 1000) (w := k.wear.hi) (by omega) with h0 | h0
  · exfalso; unfold failAt at hc; rw [if_pos (by omega)] at hc; omega
  · unfold failAt at hc ⊢
    rw [if_neg (by omega)] at hc ⊢
    refine ⟨by omega, ?_⟩
    obtain ⟨d, hd⟩ : ∃ d : Nat, below s.lo (needed k 1000) k.wear.hi = d := ⟨(below s.lo (needed k 1000) k.wear.hi).toNat, (Int.toNat_of_nonneg h0).symm⟩
    rw [hd] at hc ⊢
    apply Classical.byContradiction
    intro hno
    have h1 := worst_seg hK h d (by omega) (fun i a1 a2 a3 a4 => hno ⟨i, a1, a2, a3, by omega⟩)
    have h2 := hsafe (b + d) (by omega) (by omega)
    have h3 := (below_spec (s := s.lo) (n := needed k 1000) (w := k.wear.hi) (t := (d : Int)) (by omega) (by omega)).2 h0 (by omega)
    have h4 := (needed_bd hK (top_ok hK)).1
    by_cases hz : needed k 1000 = 0
    · unfold below at h0
      rw [hz, if_neg (by omega), if_pos (.inl rfl)] at h0
      omega
    · rcases h3 with h3 | h3 <;> omega
def cntW (l : List Int) (W : Nat → Bool) (b : Int) : Nat := (List.range l.length).countP fun i => W i && decide (b < l.getD i 0)
theorem cntW_lt {l : List Int} {W : Nat → Bool} {b g : Int} {i : Nat} (hi : i < l.length) (hW : W i = true) (h1 : b < l.getD i 0) (h2 : l.getD i 0 ≤ g) (_hbg : b ≤ g) : cntW l W g + 1 ≤ cntW l W b :=
  countP_lt (fun x hx => by simp only [Bool.and_eq_true, decide_eq_true_eq] at hx ⊢; exact ⟨hx.1, by omega⟩) (by simp only [hW, Bool.true_and, decide_eq_true_eq]; exact h1) (by simp only [hW, Bool.true_and, decide_eq_false_iff_not]; omega) (List.mem_range.2 hi)
theorem plan_few {k : Kd} {l : List Int} {f : Int} (hK : KOk k) (hi : Incr l) {F : Nat → Int} {W : Nat → Bool} {U : Nat} : ∀ (n : Nat) {can : Int} {a b : Nat} {s : Span}, l.length < n + a → a ≤ l.length → can = (failsOf k s b).earliest → F b ≤ s.lo → 0 ≤ s.lo → F b ≤ k.new → f ≤ b →
    (∀ i, i < l.length → (b : Int) < l.getD i 0 → a ≤ i) → Worst k l W F b U → (∀ t, b ≤ t → t ≤ U → needed k 1000 ≤ F t) → ∃ p, planGo k l f U n can a = some p ∧ p.length ≤ cntW l W b
  | 0, _, _, _, _ => by intro h1 h2; omega
  | n + 1, can, a, b, s => by
    intro hn ha hcan hs hs0 hnew hfb hidx hP hsafe
    by_cases hc : can < 0 ∨ (U : Int) < can
    · exact ⟨[], by unfold planGo; rw [if_pos hc], Nat.zero_le _⟩
    · rw [hcan] at hc
      obtain ⟨hbc, i, i1, i2, i3, i4⟩ := worst_must hK hP hs hs0 hsafe hc
      rw [← hcan] at hc i4 hbc
      have hai := hidx i i1 i3
      have hm := lastIn_max l f can a l.length i i1 hai (by omega) i4
      obtain ⟨b1, b2, b3⟩ := lastIn_bd l f can a l.length
      obtain ⟨c1, c2⟩ := lastIn_in l f can a l.length (by omega)
      obtain ⟨j, hj⟩ : ∃ j : Nat, lastIn l f can a l.length = j := ⟨(lastIn l f can a l.length).toNat, by omega⟩
      rw [hj, Int.toNat_natCast] at c1 c2
      have hij := hi.le (i := i) (j := j) (by omega) (by omega)
      obtain ⟨g, hg⟩ : ∃ g : Nat, l.getD j 0 = g := ⟨(l.getD j 0).toNat, by omega⟩
      have hgU : g ≤ U := by omega
      have hFg := worst_le hK hP hnew (g - b) (by omega)
      rw [show b + (g - b) = g by omega] at hFg
      obtain ⟨p', hp', hlen⟩ := plan_few (f := f) hK hi n (can := canAt k (l.getD j 0)) (a := j + 1) (b := g) (s := newSpan k) (by omega) (by omega) (by unfold canAt; rw [hg]) hFg (by have := hK.n0; show 0 ≤ k.new; omega) hFg (by omega)
        (fun i' g1 g2 => by
          by_cases e : j + 1 ≤ i'
          · exact e
          · have := hi.le (i := i') (j := j) (by omega) (by omega); omega)
        (hP.from (by omega)) (fun t g1 g2 => hsafe t (by omega) g2)
      refine ⟨(j : Int) :: p', ?_, ?_⟩
      · unfold planGo
        rw [if_neg hc, if_neg (by omega), hj, Int.toNat_natCast, hp']
        rfl
      · have := cntW_lt (l := l) (W := W) (b := b) (g := g) i1 i2 i3 (by omega) (by omega)
        simp only [List.length_cons]
        omega
/-- from an hour on, in which it may be replaced, too -/
theorem few_all {k : Kd} {l : List Int} (hK : KOk k) (hi : Incr l) {F : Nat → Int} {W : Nat → Bool} {b U : Nat} {s : Span} (hs0 : 0 ≤ s.lo) (hsn : s.lo ≤ k.new)
    (h0 : (∃ i, i < l.length ∧ W i = true ∧ l.getD i 0 = (b : Int)) → F b = k.new) (h1 : (¬ ∃ i, i < l.length ∧ W i = true ∧ l.getD i 0 = (b : Int)) → F b ≤ s.lo) (hP : Worst k l W F b U) (hsafe : ∀ t, b ≤ t → t ≤ U → needed k 1000 ≤ F t) :
    ∃ p, planR k l (failsOf k s b).earliest b U = some p ∧ p.length ≤ (List.range l.length).countP W := by
  unfold planR
  by_cases hc : (failsOf k s b).earliest < 0 ∨ (U : Int) < (failsOf k s b).earliest
  · exact ⟨[], by unfold planGo; rw [if_pos hc], Nat.zero_le _⟩
  · have hex : (b : Int) ≤ (failsOf k s b).earliest ∧ ∃ i, i < l.length ∧ W i = true ∧ (b : Int) ≤ l.getD i 0 ∧ l.getD i 0 ≤ (failsOf k s b).earliest := by
      by_cases hR : ∃ i, i < l.length ∧ W i = true ∧ l.getD i 0 = (b : Int)
      · have hbc : (b : Int) ≤ (failsOf k s b).earliest := by
          unfold failsOf failAt at hc ⊢
          simp only at hc ⊢
          split
          · rename_i h; rw [if_pos h] at hc; omega
          · omega
        obtain ⟨i, i1, i2, i3⟩ := hR
        exact ⟨hbc, i, i1, i2, by omega, by omega⟩
      · obtain ⟨hbc, i, i1, i2, i3, i4⟩ := worst_must hK hP (h1 hR) hs0 hsafe hc
        exact ⟨hbc, i, i1, i2, by omega, i4⟩
    obtain ⟨hbc, i, i1, i2, i3, i4⟩ := hex
    have hm := lastIn_max l b (failsOf k s b).earliest 0 l.length i i1 (Nat.zero_le _) i3 i4
    obtain ⟨b1, b2, b3⟩ := lastIn_bd l b (failsOf k s b).earliest 0 l.length
    obtain ⟨c1, c2⟩ := lastIn_in l b (failsOf k s b).earliest 0 l.length (by omega)
    obtain ⟨j, hj⟩ : ∃ j : Nat, lastIn l b (failsOf k s b).earliest 0 l.length = j := ⟨(lastIn l b (failsOf k s b).earliest 0 l.length).toNat, by omega⟩
    rw [hj, Int.toNat_natCast] at c1 c2
    have hij := hi.le (i := i) (j := j) (by omega) (by omega)
    obtain ⟨g, hg⟩ : ∃ g : Nat, l.getD j 0 = g := ⟨(l.getD j 0).toNat, by omega⟩
    have hgU : g ≤ U := by omega
    have hFb : F b ≤ k.new := by
      by_cases hR : ∃ i, i < l.length ∧ W i = true ∧ l.getD i 0 = (b : Int)
      · rw [h0 hR]; exact Int.le_refl _
      · have := h1 hR; omega
    have hFg := worst_le hK hP hFb (g - b) (by omega)
    rw [show b + (g - b) = g by omega] at hFg
    obtain ⟨p', hp', hlen⟩ := plan_few (f := b) hK hi l.length (can := canAt k (l.getD j 0)) (a := j + 1) (b := g) (s := newSpan k) (by omega) (by omega) (by unfold canAt; rw [hg]) hFg (by have := hK.n0; show 0 ≤ k.new; omega) hFg (by omega)
      (fun i' g1 g2 => by
        by_cases e : j + 1 ≤ i'
        · exact e
        · have := hi.le (i := i') (j := j) (by omega) (by omega); omega)
      (hP.from (by omega)) (fun t g1 g2 => hsafe t (by omega) g2)
    refine ⟨(j : Int) :: p', ?_, ?_⟩
    · unfold planGo
      rw [if_neg hc, if_neg (by omega), hj, Int.toNat_natCast, hp']
      rfl
    · have : cntW l W g + 1 ≤ (List.range l.length).countP W := countP_lt (fun x hx => by simp only [Bool.and_eq_true] at hx; exact hx.1) i2 (by simp only [i2, Bool.true_and, decide_eq_false_iff_not]; omega) (List.mem_range.2 i1)
      simp only [List.length_cons]
      omega

end Go.Proofs.Ytndcmmghgljinaa
