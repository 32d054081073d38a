/- Lengths of what Run answers. -/
import Derived.Test.YtleknidlgmmgbaaGreattlR2
set_option linter.all false
namespace Go.Proofs.YtleknidlgmmgbaaGreat

open Go.RowKit

end Go.Proofs.YtleknidlgmmgbaaGreat
