/- Lengths of what Run answers. -/
import Derived.Test.YtleknidlgmmgbaaGreattgR2
import Derived.Test.YtleknidlgmmgbaaGreattgW33
set_option linter.all false
namespace Go.Proofs.YtleknidlgmmgbaaGreat

open Go.RowKit


theorem runR_len {s : St4} {fs : List Flt} {most : Int} : LenI (runR s fs most) := by
  unfold runR
  split
  · rename_i h; have h9 := ask12_zero.1 h; exact (after_ok h9.2.2.1 h9.1).len
  · exact ⟨by simp [St4.zero], by simp [St4.zero], by simp [St4.zero]⟩

end Go.Proofs.YtleknidlgmmgbaaGreat
