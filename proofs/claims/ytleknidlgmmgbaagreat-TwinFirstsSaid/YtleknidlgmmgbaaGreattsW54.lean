/- The reference's Log. -/
import Derived.Test.YtleknidlgmmgbaaGreattsW53
import Derived.Test.YtleknidlgmmgbaaGreattsW31
import Derived.Test.YtleknidlgmmgbaaGreattsW8
import Derived.Test.YtleknidlgmmgbaaGreattsW25
import Derived.Test.YtleknidlgmmgbaaGreattsG14
set_option linter.all false
namespace Go.Proofs.YtleknidlgmmgbaaGreat

open Go.RowKit


theorem RdSt.grown {w w' : World} {s : St4} {A : SA} {v : Value} (h : RdSt w s A) (hG : w.grownBy w' v.ownBlock) (hv : ∀ k, v.ownBlock = some k → A.free s k) : RdSt w' s A :=
  ⟨Rd.grown h.st hG (fun hn b hb e => (hv _ e).1 hn b hb rfl), Rd.grown h.tp hG (fun hn b hb e => (hv _ e).2.1 hn b hb rfl), Rd.grown h.pr hG (fun hn b hb e => (hv _ e).2.2 hn b hb rfl)⟩

end Go.Proofs.YtleknidlgmmgbaaGreat
