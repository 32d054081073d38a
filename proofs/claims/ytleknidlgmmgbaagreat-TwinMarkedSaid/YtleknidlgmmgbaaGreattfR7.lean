/- Lengths of what Run answers. -/
import Derived.Test.YtleknidlgmmgbaaGreattfR2
import Derived.Test.YtleknidlgmmgbaaGreattfW33
set_option linter.all false
namespace Go.Proofs.YtleknidlgmmgbaaGreat

open Go.RowKit

end Go.Proofs.YtleknidlgmmgbaaGreat
