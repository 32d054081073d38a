/- Lengths of what Run answers. -/
import Derived.Test.YtleknidlgmmgbaaGreattoR2
import Derived.Test.YtleknidlgmmgbaaGreattoW33
set_option linter.all false
namespace Go.Proofs.YtleknidlgmmgbaaGreat

open Go.RowKit

end Go.Proofs.YtleknidlgmmgbaaGreat
