/- Lengths of what Run answers. -/
import Derived.Test.YtleknidlgmmgbaaGreattsR2
import Derived.Test.YtleknidlgmmgbaaGreattsW33
set_option linter.all false
namespace Go.Proofs.YtleknidlgmmgbaaGreat

open Go.RowKit

end Go.Proofs.YtleknidlgmmgbaaGreat
