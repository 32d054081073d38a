/- Plain laws of valves: which check tells most; a group. -/
import Derived.Test.YtndcmmghgljinaaM5
set_option linter.all false
namespace Go.Proofs.Ytndcmmghgljinaa

def Span.width (s : Span) : Int := s.hi - s.lo
/-- the greatest width that a check at a voltage leaves -/
def widthAt (k : Kd) (s : Span) (v : Int) : Int := max (agreed k s v true).width (agreed k s v false).width
/-- the first step with the least such width -/
def bestUpto (k : Kd) (s : Span) : Nat → Int
  | 0 => (k.steps.getD 0 Stp.zero).volt
  | i + 1 => if widthAt k s (k.steps.getD (i + 1) Stp.zero).volt < widthAt k s (bestUpto k s i) then (k.steps.getD (i + 1) Stp.zero).volt else bestUpto k s i
def best (k : Kd) (s : Span) : Int := bestUpto k s (k.steps.length - 1)
theorem best_least {k : Kd} {s : Span} : ∀ (n i : Nat), i ≤ n → widthAt k s (bestUpto k s n) ≤ widthAt k s (k.steps.getD i Stp.zero).volt
  | 0, i, h => by obtain rfl : i = 0 := by omega
                  exact Int.le_refl _
  | n + 1, i, h => by
    unfold bestUpto
    by_cases hi : i = n + 1
    · subst hi
      split <;> omega
    · have := best_least (k := k) (s := s) n i (by omega)
      split <;> omega
theorem best_ex {k : Kd} {s : Span} : ∀ (n : Nat), ∃ i, i ≤ n ∧ bestUpto k s n = (k.steps.getD i Stp.zero).volt
  | 0 => ⟨0, Nat.le_refl _, rfl⟩
  | n + 1 => by
    unfold bestUpto
    split
    · exact ⟨n + 1, Nat.le_refl _, rfl⟩
    · obtain ⟨i, h1, h2⟩ := best_ex (k := k) (s := s) n
      exact ⟨i, by omega, h2⟩
/-- a voltage tells what the greatest step's voltage not above it does -/
theorem width_step {k : Kd} (hK : KOk k) {s : Span} {v : Int} (hv : voltOk k v = true) : ∃ i, i < k.steps.length ∧ widthAt k s v = widthAt k s (k.steps.getD i Stp.zero).volt := by
  obtain ⟨i, hi, h1, h2, h3⟩ := needed_ex hK hv
  refine ⟨i, hi, ?_⟩
  have e : needed k (k.steps.getD i Stp.zero).volt = needed k v := by
    rw [getD_get hi, h3]
    unfold needed
    have : (k.steps.find? fun x => decide (x.volt ≤ k.steps[i].volt)) = some k.steps[i] := by
      rw [List.find?_eq_some_iff_getElem]
      refine ⟨by simp, i, hi, rfl, fun j hj => ?_⟩
      have hd : ∀ d, (hd : i - d < k.steps.length) → 0 < d → d ≤ i → k.steps[i].volt < (k.steps[i - d]'hd).volt := by
        intro d
        induction d with
        | zero => intro _ h; omega
        | succ d ih =>
          intro hdl _ hle
          have hdn := hK.dn (i - (d + 1)) (by omega)
          have e1 : k.steps[i - (d + 1) + 1]'(by omega) = k.steps[i - d]'(by omega) := by congr 1; omega
          rw [e1] at hdn
          by_cases h0 : d = 0
          · subst h0; exact hdn.1
          · have := ih (by omega) (by omega) (by omega); omega
      have := hd (i - j) (by omega) (by omega) (by omega)
      have e2 : k.steps[i - (i - j)]'(by omega) = k.steps[j]'(by omega) := by congr 1; omega
      rw [e2] at this
      simp; omega
    rw [this]; rfl
  unfold widthAt agreed
  simp only [if_true, Bool.false_eq_true, if_false, e]
/-- no voltage tells more than the best one -/
theorem best_tells {k : Kd} (hK : KOk k) {s : Span} {v : Int} (hv : voltOk k v = true) : widthAt k s (best k s) ≤ widthAt k s v := by
  obtain ⟨i, hi, e⟩ := width_step hK hv (s := s)
  rw [e]
  exact best_least _ i (by omega)

end Go.Proofs.Ytndcmmghgljinaa
