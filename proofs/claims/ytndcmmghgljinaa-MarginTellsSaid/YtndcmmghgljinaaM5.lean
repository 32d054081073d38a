/- Plain laws of valves: a truth, and what is asked. -/
import Derived.Test.YtndcmmghgljinaaM4
set_option linter.all false
namespace Go.Proofs.Ytndcmmghgljinaa

/-- strengths hour by hour, with any wear of the kind -/
structure Worn (k : Kd) (f : Nat → Int) : Prop where
  nn : 0 ≤ f 0
  up : ∀ t, f (t + 1) ≤ max 0 (f t - k.wear.lo)
  dn : ∀ t, max 0 (f t - k.wear.hi) ≤ f (t + 1)
/-- .. of a valve that was new -/
structure Truth (k : Kd) (f : Nat → Int) : Prop where
  worn : Worn k f
  zero : f 0 = k.new
def Agrees (k : Kd) (f : Nat → Int) (c : MCk) : Prop := ∃ n : Nat, c.hour = n ∧ c.passed = decide (needed k c.volt ≤ f n)

theorem truth_nn {k : Kd} {f : Nat → Int} (hf : Worn k f) : ∀ t, 0 ≤ f t
  | 0 => hf.nn
  | t + 1 => by have := hf.dn t; omega
theorem truth_dn {k : Kd} {f : Nat → Int} (hf : Worn k f) (s : Nat) : ∀ d : Nat, f s - (d : Int) * k.wear.hi ≤ f (s + d)
  | 0 => by simp
  | d + 1 => by
    have h1 := truth_dn hf s d
    have h2 := hf.dn (s + d)
    have : ((d + 1 : Nat) : Int) * k.wear.hi = d * k.wear.hi + k.wear.hi := by rw [Int.natCast_add, Int.add_mul]; simp
    rw [show s + (d + 1) = s + d + 1 by omega]
    omega
theorem truth_up {k : Kd} {f : Nat → Int} (hK : KOk k) (hf : Worn k f) (s : Nat) : ∀ d : Nat, f (s + d) ≤ max 0 (f s - (d : Int) * k.wear.lo)
  | 0 => by simp; omega
  | d + 1 => by
    have h1 := truth_up hK hf s d
    have h2 := hf.up (s + d)
    have h3 := hK.w0
    have : ((d + 1 : Nat) : Int) * k.wear.lo = d * k.wear.lo + k.wear.lo := by rw [Int.natCast_add, Int.add_mul]; simp
    have h4 : 0 ≤ (d : Int) * k.wear.lo := Int.mul_nonneg (by omega) h3
    rw [show s + (d + 1) = s + d + 1 by omega]
    omega
/-- in any truth the strength is in the closed form's span -/
theorem truth_in {k : Kd} {f : Nat → Int} (hK : KOk k) (hf : Truth k f) {cs : List MCk} {t : Nat} (hc : ∀ c ∈ cs, Agrees k f c ∧ c.hour ≤ t) : loC k cs t ≤ f t ∧ f t ≤ max 0 (hiC k cs t) := by
  have hnn := truth_nn hf.worn t
  constructor
  · refine loC_le.2 ⟨hnn, ?_, fun c hc' hp => ?_⟩
    · have := truth_dn hf.worn 0 t
      rw [hf.zero, Nat.zero_add] at this; exact this
    · obtain ⟨⟨n, hn, hpd⟩, hle⟩ := hc c hc'
      rw [hp] at hpd
      have h1 : needed k c.volt ≤ f n := by simpa using hpd.symm
      obtain ⟨d, rfl⟩ : ∃ d, t = n + d := ⟨t - n, by omega⟩
      have := truth_dn hf.worn n d
      rw [hn, show ((n + d : Nat) : Int) - (n : Int) = d by omega]
      omega
  · by_cases h0 : f t = 0
    · omega
    · have key : f t ≤ hiC k cs t := by
        refine le_hiC.2 ⟨?_, fun c hc' hp => ?_⟩
        · have := truth_up hK hf.worn 0 t
          rw [hf.zero, Nat.zero_add] at this; omega
        · obtain ⟨⟨n, hn, hpd⟩, hle⟩ := hc c hc'
          rw [hp] at hpd
          have h1 : f n < needed k c.volt := by
            have := hpd.symm
            simpa using this
          obtain ⟨d, rfl⟩ : ∃ d, t = n + d := ⟨t - n, by omega⟩
          have := truth_up hK hf.worn n d
          rw [hn, show ((n + d : Nat) : Int) - (n : Int) = d by omega]
          omega
      omega
theorem truth_valid {k : Kd} {f : Nat → Int} (hK : KOk k) (hf : Truth k f) {cs : List MCk} (hc : ∀ c ∈ cs, Agrees k f c) : Valid k cs := by
  intro c hc'
  obtain ⟨n, hn, hpd⟩ := hc c hc'
  refine ⟨?_, fun hp => ?_⟩
  · have := truth_in hK hf (cs := upto cs c.hour) (t := n) (fun x hx => by
      unfold upto at hx
      rw [List.mem_filter] at hx
      exact ⟨hc x hx.1, by have := hx.2; simp at this; omega⟩)
    rw [hn] at this ⊢
    omega
  · rw [hp] at hpd
    have h1 : f n < needed k c.volt := by have := hpd.symm; simpa using this
    have := truth_nn hf.worn n
    omega
/-- the first hour below what is needed, from an hour on -/
theorem truth_fails {k : Kd} {f : Nat → Int} (hK : KOk k) (hf : Worn k f) {s : Span} {a : Nat} {n : Int} (hn : 0 ≤ n) (h1 : s.lo ≤ f a) (h2 : f a ≤ s.hi) {d : Nat} (hb : f (a + d) < n) (hfirst : ∀ e, e < d → n ≤ f (a + e)) :
    0 ≤ below s.lo n k.wear.hi ∧ below s.lo n k.wear.hi ≤ d ∧ (below s.hi n k.wear.lo < 0 ∨ (d : Int) ≤ below s.hi n k.wear.lo) := by
  have hw0 := hK.w0
  have hw1 := hK.w1
  have hnn := truth_nn hf (a + d)
  have hdn := truth_dn hf a d
  have hnb : s.lo - (d : Int) * k.wear.hi < n := by omega
  have hex : 0 ≤ below s.lo n k.wear.hi := by
    rcases below_nn (s := s.lo) (n := n) (w := k.wear.hi) (by omega) with h | h
    · exfalso
      unfold below at h
      split at h
      · omega
      · rename_i h3
        split at h
        · rename_i h4
          rcases h4 with h4 | h4
          · omega
          · rw [h4] at hnb; simp at hnb; omega
        · have := Int.ediv_nonneg (a := s.lo - n + k.wear.hi) (b := k.wear.hi) (by omega) (by omega); omega
    · exact h
  refine ⟨hex, (below_spec (by omega) (by omega)).1 hnb hex, ?_⟩
  rcases below_nn (s := s.hi) (n := n) (w := k.wear.lo) hw0 with h | h
  · left; omega
  · right
    by_cases hd : (d : Int) ≤ below s.hi n k.wear.lo
    · exact hd
    · exfalso
      -- below says e < d hours; there the strength is below, too
      obtain ⟨e, he⟩ : ∃ e : Nat, below s.hi n k.wear.lo = e := ⟨(below s.hi n k.wear.lo).toNat, (Int.toNat_of_nonneg h).symm⟩
      have hed : e < d := by omega
      have h5 := (below_spec (s := s.hi) (n := n) (w := k.wear.lo) (t := (e : Int)) hw0 (by omega)).2 h (by omega)
      have h6 := hfirst e hed
      have h7 := truth_up hK hf a e
      have h8 : 0 < n := by omega
      rcases h5 with h5 | h5 <;> omega

end Go.Proofs.Ytndcmmghgljinaa
