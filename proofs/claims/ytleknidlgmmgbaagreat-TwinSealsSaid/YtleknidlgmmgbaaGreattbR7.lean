/- Lengths of what Run answers. -/
import Derived.Test.YtleknidlgmmgbaaGreattbR2
import Derived.Test.YtleknidlgmmgbaaGreattbW33
set_option linter.all false
namespace Go.Proofs.YtleknidlgmmgbaaGreat

open Go.RowKit

end Go.Proofs.YtleknidlgmmgbaaGreat
