/- The reference: Run. -/
import Derived.Test.YtleknidlgmmgbaaGreattoW50
set_option linter.all false
namespace Go.Proofs.YtleknidlgmmgbaaGreat

open Go.RowKit


def St4.zero : St4 := ⟨[], [], 0, [], 0, 0, 0, 0⟩
def SA.none : SA := ⟨Option.none, 0, Option.none, 0, Option.none, 0⟩
theorem RdSt.zero (w : World) : RdSt w St4.zero SA.none := ⟨.inl rfl, .inl rfl, .inl rfl⟩
/-- what Run answers -/
def runR (s : St4) (fs : List Flt) (most : Int) : St4 := if askErr12 s fs most = 0 then run12 s fs most.toNat else St4.zero

end Go.Proofs.YtleknidlgmmgbaaGreat
