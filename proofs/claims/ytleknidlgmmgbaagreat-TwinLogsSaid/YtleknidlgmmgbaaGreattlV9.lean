/- TwinMarked. -/
import Derived.Test.YtleknidlgmmgbaaGreattlR7
import Derived.Test.YtleknidlgmmgbaaGreattlW57
set_option linter.all false
namespace Go.Proofs.YtleknidlgmmgbaaGreat

open Go.RowKit


theorem logR_err {s : St4} {fs : List Flt} {ev most e : Int} {l : List Mrk} (h : logR s fs ev most = (l, e)) (he : ¬ e = 0) : l = [] := by
  unfold logR at h
  by_cases h1 : askErr12 s fs most ≠ 0
  · rw [if_pos h1] at h; exact (congrArg Prod.fst h).symm
  · rw [if_neg h1] at h
    by_cases h2 : inI ev 1 1000 = false
    · rw [if_pos h2] at h; exact (congrArg Prod.fst h).symm
    · rw [if_neg h2] at h; exact absurd (congrArg Prod.snd h).symm he
theorem logR_fine {s : St4} {fs : List Flt} {ev most : Int} {l : List Mrk} (h : logR s fs ev most = (l, 0)) : askErr12 s fs most = 0 ∧ (1 ≤ ev ∧ ev ≤ 1000) ∧ l = logL s fs ev.toNat most.toNat := by
  unfold logR at h
  by_cases h1 : askErr12 s fs most ≠ 0
  · rw [if_pos h1] at h; exact absurd (congrArg Prod.snd h) h1
  · rw [if_neg h1] at h
    by_cases h2 : inI ev 1 1000 = false
    · rw [if_pos h2] at h; exact absurd (congrArg Prod.snd h) (by simp)
    · rw [if_neg h2] at h
      refine ⟨Decidable.not_not.1 h1, (inI_iff _ _ _).1 (by simpa using h2), (congrArg Prod.fst h).symm⟩
theorem logL_len (s : St4) (fs : List Flt) (ev mn : Nat) : (logL s fs ev mn).length = cntN ev mn := by simp [logL]

end Go.Proofs.YtleknidlgmmgbaaGreat
