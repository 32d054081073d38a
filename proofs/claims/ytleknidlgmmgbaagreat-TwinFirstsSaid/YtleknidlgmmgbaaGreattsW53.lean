/- The reference's sealed, Seal. -/
import Derived.Test.YtleknidlgmmgbaaGreattsW24
import Derived.Test.YtleknidlgmmgbaaGreattsW7
import Derived.Test.YtleknidlgmmgbaaGreattsW17
set_option linter.all false
namespace Go.Proofs.YtleknidlgmmgbaaGreat

open Go.RowKit

end Go.Proofs.YtleknidlgmmgbaaGreat
