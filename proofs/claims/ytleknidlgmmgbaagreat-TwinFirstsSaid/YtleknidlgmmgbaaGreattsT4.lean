/- Plain laws of the two machines: a run cut, the first order that differs, stretches, marks. -/
import Derived.Test.YtleknidlgmmgbaaGreattsT3
set_option linter.all false
namespace Go.Proofs.YtleknidlgmmgbaaGreat

theorem run_nil (s : St4) (n : Nat) : run12 s [] n = run4 n s := after_nil n 0 s
theorem run12_snoc (s : St4) (fs : List Flt) (n : Nat) : run12 s fs (n + 1) = do12 fs n (run12 s fs n) := by
  unfold run12
  rw [after_snoc, Nat.zero_add]

/- the first order after which they differ -/
/- stretches -/
theorem end_gt {every most i : Nat} (he : 1 ≤ every) (hi : i < cntN every most) : i * every < endN every most i ∧ endN every most i ≤ most ∧ endN every most i ≤ i * every + every := by
  unfold cntN at hi
  unfold endN
  have h1 : i * every < most := by
    have h2 : (i + 1) * every ≤ most + every - 1 := Nat.le_trans (Nat.mul_le_mul_right every (show i + 1 ≤ (most + every - 1) / every from hi)) (Nat.div_mul_le_self _ _)
    rw [Nat.add_mul, Nat.one_mul] at h2
    omega
  rw [Nat.add_mul, Nat.one_mul]
  omega
theorem cnt_last {every most : Nat} (he : 1 ≤ every) {i : Nat} (h : cntN every most ≤ i) : most ≤ i * every := by
  unfold cntN at h
  have h1 := Nat.lt_div_mul_add (a := most + every - 1) (b := every) (by omega)
  have h2 := Nat.mul_le_mul_right every h
  omega
theorem cnt_one (most : Nat) : cntN 1 most = most := by unfold cntN; simp

end Go.Proofs.YtleknidlgmmgbaaGreat
