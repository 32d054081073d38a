/- Plain laws of valves: strengths hour by hour; a truth, what is asked of it and when it fails; what a further check tells. -/
import Derived.Test.YtndcmmghgljinaaM7
import Derived.Test.YtndcmmghgljinaaM6
set_option linter.all false
namespace Go.Proofs.Ytndcmmghgljinaa

/-- strengths hour by hour, with wear by turns -/
def wornS (k : Kd) (u : Nat → Int) (s : Int) : Nat → Int
  | 0 => s
  | t + 1 => max 0 (wornS k u s t - k.wear.lo - u t % (k.wear.hi - k.wear.lo + 1))
theorem wornS_succ (k : Kd) (u : Nat → Int) (s : Int) (t : Nat) : wornS k u s (t + 1) = max 0 (wornS k u s t - k.wear.lo - u t % (k.wear.hi - k.wear.lo + 1)) := rfl
theorem wornS_worn {k : Kd} (hK : KOk k) {u : Nat → Int} {s : Int} (hs : 0 ≤ s) : Worn k (wornS k u s) := by
  have h1 := hK.w1
  refine ⟨hs, fun t => ?_, fun t => ?_⟩
  all_goals
    have h2 := Int.emod_nonneg (u t) (b := k.wear.hi - k.wear.lo + 1) (by omega)
    have h3 := Int.emod_lt_of_pos (u t) (b := k.wear.hi - k.wear.lo + 1) (by omega)
    rw [wornS_succ]
    omega
theorem wornS_bd {k : Kd} (hK : KOk k) {u : Nat → Int} {s : Int} (hs : 0 ≤ s) (hb : s ≤ 1000000) (t : Nat) : 0 ≤ wornS k u s t ∧ wornS k u s t ≤ 1000000 := by
  have hw := wornS_worn hK (u := u) hs
  refine ⟨truth_nn hw t, ?_⟩
  have := truth_up hK hw 0 t
  rw [Nat.zero_add] at this
  have h2 : 0 ≤ (t : Int) * k.wear.lo := Int.mul_nonneg (by omega) hK.w0
  have h3 : wornS k u s 0 = s := rfl
  omega
theorem needed_top {k : Kd} (hK : KOk k) : needed k 1000 = (k.steps.getD 0 Stp.zero).need := by
  obtain ⟨i, hi, _, h2, h3⟩ := needed_ex hK (top_ok hK)
  by_cases h0 : i = 0
  · subst h0; rw [h3, getD_get hi]
  · have := h2 0 (by omega)
    rw [hK.top] at this
    omega
/-- never below: then not surely below -/
theorem truth_late {k : Kd} {f : Nat → Int} (hK : KOk k) (hf : Worn k f) {s : Span} {a : Nat} {n : Int} (hn : 0 ≤ n) (h2 : f a ≤ s.hi) {m : Nat} (hall : ∀ e, e ≤ m → n ≤ f (a + e)) : below s.hi n k.wear.lo < 0 ∨ (m : Int) < below s.hi n k.wear.lo := by
  have hw0 := hK.w0
  have hnn := truth_nn hf a
  rcases below_nn (s := s.hi) (n := n) (w := k.wear.lo) hw0 with h | h
  · left; omega
  · right
    by_cases hd : (m : Int) < below s.hi n k.wear.lo
    · exact hd
    · exfalso
      obtain ⟨e, he⟩ : ∃ e : Nat, below s.hi n k.wear.lo = e := ⟨(below s.hi n k.wear.lo).toNat, (Int.toNat_of_nonneg h).symm⟩
      have h5 := (below_spec (s := s.hi) (n := n) (w := k.wear.lo) (t := (e : Int)) hw0 (by omega)).2 h (by omega)
      have h6 := hall e (by omega)
      have h7 := truth_up hK hf a e
      by_cases h0 : n = 0
      · unfold below at h
        rw [if_neg (by omega), if_pos (.inl h0)] at h
        omega
      · rcases h5 with h5 | h5 <;> omega
/-- what is claimed of the first hour below, from an hour on -/
def firstOk (g : Fail) (from0 t : Int) : Prop := from0 ≤ g.earliest ∧ g.earliest ≤ t ∧ (g.latest < 0 ∨ t ≤ g.latest)
theorem first_ok {k : Kd} {f : Nat → Int} (hK : KOk k) (hf : Worn k f) {s : Span} {a : Nat} (h1 : s.lo ≤ f a) (h2 : f a ≤ s.hi) {t : Nat} (hat : a ≤ t) (hb : f t < needed k 1000) (hfirst : ∀ e, a ≤ e → e < t → needed k 1000 ≤ f e) : firstOk (failsOf k s a) a t := by
  obtain ⟨d, rfl⟩ : ∃ d, t = a + d := ⟨t - a, by omega⟩
  obtain ⟨r1, r2, r3⟩ := truth_fails hK hf (needed_bd hK (top_ok hK)).1 h1 h2 hb (fun e he => hfirst _ (by omega) (by omega))
  unfold firstOk failsOf failAt
  simp only
  rw [if_neg (by omega)]
  refine ⟨by omega, by omega, ?_⟩
  rcases r3 with r3 | r3
  · left; rw [if_pos r3]; exact r3
  · right; rw [if_neg (by omega)]; omega
theorem first_none {k : Kd} {f : Nat → Int} (hK : KOk k) (hf : Worn k f) {s : Span} {a : Nat} (h2 : f a ≤ s.hi) {m : Nat} (ham : a ≤ m) (hall : ∀ e, a ≤ e → e ≤ m → needed k 1000 ≤ f e) : (failsOf k s a).latest < 0 ∨ (m : Int) < (failsOf k s a).latest := by
  obtain ⟨d, rfl⟩ : ∃ d, m = a + d := ⟨m - a, by omega⟩
  have r := truth_late hK hf (needed_bd hK (top_ok hK)).1 h2 (m := d) (fun e he => hall _ (by omega) (by omega))
  unfold failsOf failAt
  simp only
  rcases r with r | r
  · left; rw [if_pos r]; exact r
  · right; rw [if_neg (by omega)]; omega
/-- in a truth, with checks as they come out -/
theorem law_true {k : Kd} {f : Nat → Int} (hE : kdErr k = 0) (hf : Truth k f) {cs : List MCk} {a : Nat} (ha : a ≤ 100000) (hl : cs.length ≤ 30) (hc : ∀ c ∈ cs, Agrees k f c ∧ chkOk k c = true ∧ c.hour ≤ a) :
    (asked k cs a).2 = 0 ∧ (asked k cs a).1.lo ≤ f a ∧ f a ≤ (asked k cs a).1.hi := by
  have hK := kok_of hE
  have hA : AOk k cs a := ⟨hE, hl, fun c h => (hc c h).2.1, truth_valid hK hf (fun c h => (hc c h).1), by omega, by omega, lastH_iff.2 ⟨by omega, fun c h => (hc c h).2.2⟩⟩
  rw [asked_of hA]
  have := truth_in hK hf (fun c h => ⟨(hc c h).1, (hc c h).2.2⟩)
  exact ⟨rfl, this.1, this.2⟩
open Classical in
/-- a further check at the hour -/
theorem asked_snoc {k : Kd} {cs : List MCk} {h v : Int} (he : (asked k cs h).2 = 0) (hl : cs.length < 30) (hv : voltOk k v = true) (p : Bool) :
    asked k (cs ++ [⟨h, v, p⟩]) h = if (agreed k (asked k cs h).1 v p).hi < (agreed k (asked k cs h).1 v p).lo then (Span.zero, 9) else (agreed k (asked k cs h).1 v p, 0) := by
  have hA := asked_ok he
  rw [asked_of hA]
  obtain ⟨hE, _, hc, hvd, h0, h1, hh⟩ := hA
  have hK := kok_of hE
  have hle : ∀ c ∈ cs, c.hour ≤ h := (lastH_iff.1 hh).2
  have hn := needed_bd hK hv
  have hlo := loC_nn k cs h
  have hcs : ∀ c ∈ cs ++ [⟨h, v, p⟩], chkOk k c = true := by
    intro c hm
    rcases List.mem_append.1 hm with hm | hm
    · exact hc c hm
    · simp at hm; subst hm
      unfold chkOk
      rw [Bool.and_eq_true, inb_iff]
      exact ⟨⟨h0, h1⟩, hv⟩
  have hlast : lastH (cs ++ [⟨h, v, p⟩]) = h := by rw [lastH_snoc]; show max (lastH cs) h = h; omega
  have hz : ∀ w : Int, (h - h) * w = 0 := by intro w; rw [Int.sub_self, Int.zero_mul]
  have key : asked k (cs ++ [⟨h, v, p⟩]) h = if Valid k (cs ++ [⟨h, v, p⟩]) then (closed k (cs ++ [⟨h, v, p⟩]) h, 0) else (Span.zero, 9) := by
    by_cases hvv : Valid k (cs ++ [⟨h, v, p⟩])
    · rw [if_pos hvv]
      exact asked_of ⟨hE, by simp; omega, hcs, hvv, h0, h1, by omega⟩
    · rw [if_neg hvv]
      unfold asked
      rw [if_neg (by simp [hE]), if_neg (by simp; omega), if_neg (by simp only [List.any_eq_true, not_exists, not_and]; intro c hm; rw [hcs c hm]; decide), known_closed hK hcs, if_neg hvv]
  have hval := valid_snoc (k := k) (l := cs) (c := ⟨h, v, p⟩) hle
  rw [key]
  cases p with
  | true =>
    have l1 : loC k (cs ++ [⟨h, v, true⟩]) h = max (loC k cs h) (needed k v) := by rw [loC_snoc, if_pos rfl, hz]; dsimp only; omega
    have l2 : hiC k (cs ++ [⟨h, v, true⟩]) h = hiC k cs h := by rw [hiC_snoc, if_pos rfl]
    dsimp only at hval
    simp only [l1, l2] at hval
    have ha : agreed k (closed k cs h) v true = ⟨max (loC k cs h) (needed k v), max 0 (hiC k cs h)⟩ := rfl
    have hcl : closed k (cs ++ [⟨h, v, true⟩]) h = ⟨max (loC k cs h) (needed k v), max 0 (hiC k cs h)⟩ := by unfold closed; rw [l1, l2]
    rw [ha, hcl]
    simp only
    by_cases hb : max 0 (hiC k cs h) < max (loC k cs h) (needed k v)
    · rw [if_pos hb, if_neg (fun hx => by have := (hval.1 hx).2.1; omega)]
    · rw [if_neg hb, if_pos (hval.2 ⟨hvd, by omega, fun hx => by cases hx⟩)]
  | false =>
    have l1 : loC k (cs ++ [⟨h, v, false⟩]) h = loC k cs h := by rw [loC_snoc, if_neg Bool.false_ne_true]
    have l2 : hiC k (cs ++ [⟨h, v, false⟩]) h = min (hiC k cs h) (needed k v - 1) := by rw [hiC_snoc, if_neg Bool.false_ne_true, hz]; dsimp only; omega
    dsimp only at hval
    simp only [l1, l2] at hval
    have ha : agreed k (closed k cs h) v false = ⟨loC k cs h, min (max 0 (hiC k cs h)) (needed k v - 1)⟩ := rfl
    have hcl : closed k (cs ++ [⟨h, v, false⟩]) h = ⟨loC k cs h, max 0 (min (hiC k cs h) (needed k v - 1))⟩ := by unfold closed; rw [l1, l2]
    rw [ha, hcl]
    simp only
    by_cases hb : min (max 0 (hiC k cs h)) (needed k v - 1) < loC k cs h
    · rw [if_pos hb, if_neg (fun hx => by have h3 := (hval.1 hx).2.1; have h4 := (hval.1 hx).2.2 trivial; omega)]
    · rw [if_neg hb, if_pos (hval.2 ⟨hvd, by omega, fun _ => by omega⟩)]
      congr 2
      omega
/-- the widest that is left, over what a check can show -/
def oneW (r : Span × Int) : Int := if r.2 = 0 then r.1.hi - r.1.lo else -1
theorem worst_eq {k : Kd} {cs : List MCk} {h v : Int} (he : (asked k cs h).2 = 0) (hl : cs.length < 30) (hv : voltOk k v = true) (hle : (asked k cs h).1.lo ≤ (asked k cs h).1.hi) :
    max (max (-1) (oneW (asked k (cs ++ [⟨h, v, false⟩]) h))) (oneW (asked k (cs ++ [⟨h, v, true⟩]) h)) = widthAt k (asked k cs h).1 v := by
  rw [asked_snoc he hl hv, asked_snoc he hl hv]
  generalize (asked k cs h).1 = s at *
  unfold widthAt Span.width
  have e1 : agreed k s v true = ⟨max s.lo (needed k v), s.hi⟩ := rfl
  have e2 : agreed k s v false = ⟨s.lo, min s.hi (needed k v - 1)⟩ := rfl
  rw [e1, e2]
  simp only [oneW]
  by_cases h1 : s.hi < max s.lo (needed k v)
  · rw [if_pos h1]
    by_cases h2 : min s.hi (needed k v - 1) < s.lo
    · omega
    · rw [if_neg h2]; simp only [if_true]; simp; omega
  · rw [if_neg h1]
    by_cases h2 : min s.hi (needed k v - 1) < s.lo
    · rw [if_pos h2]; simp; omega
    · rw [if_neg h2]; simp; omega
theorem snoc_or {k : Kd} {cs : List MCk} {h v : Int} (he : (asked k cs h).2 = 0) (hl : cs.length < 30) (hv : voltOk k v = true) (p : Bool) : (asked k (cs ++ [⟨h, v, p⟩]) h).2 = 0 ∨ (asked k (cs ++ [⟨h, v, p⟩]) h).2 = 9 := by
  rw [asked_snoc he hl hv]
  split
  · exact .inr rfl
  · exact .inl rfl
theorem volt_step {k : Kd} (hK : KOk k) {i : Nat} (hi : i < k.steps.length) : voltOk k k.steps[i].volt = true := by
  unfold voltOk
  rw [getD_get (show k.steps.length - 1 < k.steps.length by omega), inb_iff]
  refine ⟨?_, (hK.st i hi).1.2⟩
  have key : ∀ d, (hd : i + d < k.steps.length) → k.steps[i + d].volt ≤ k.steps[i].volt := by
    intro d
    induction d with
    | zero => intro _; exact Int.le_refl _
    | succ d ih =>
      intro hd
      have := hK.dn (i + d) (by omega)
      have := ih (by omega)
      have e : k.steps[i + (d + 1)] = k.steps[i + d + 1] := rfl
      rw [e]; omega
  have := key (k.steps.length - 1 - i) (by omega)
  have e : k.steps[i + (k.steps.length - 1 - i)]'(by omega) = k.steps[k.steps.length - 1]'(by omega) := by congr 1; omega
  rw [e] at this
  exact this
theorem best_volt {k : Kd} (hK : KOk k) {s : Span} : voltOk k (best k s) = true := by
  have := hK.l0
  obtain ⟨i, h1, h2⟩ := best_ex (k := k) (s := s) (k.steps.length - 1)
  have hb : best k s = _ := h2
  rw [hb, getD_get (show i < k.steps.length by omega)]
  exact volt_step hK _

end Go.Proofs.Ytndcmmghgljinaa
