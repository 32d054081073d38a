/- The reference's sealed, Seal. -/
import Derived.Test.YtleknidlgmmgbaaGreattfW24
import Derived.Test.YtleknidlgmmgbaaGreattfW7
import Derived.Test.YtleknidlgmmgbaaGreattfW17
set_option linter.all false
namespace Go.Proofs.YtleknidlgmmgbaaGreat

open Go.RowKit

end Go.Proofs.YtleknidlgmmgbaaGreat
