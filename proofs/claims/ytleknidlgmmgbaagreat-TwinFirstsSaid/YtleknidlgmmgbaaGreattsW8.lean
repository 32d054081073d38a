/- The reference: ends. -/
import Derived.Test.YtleknidlgmmgbaaGreattsW7
set_option linter.all false
namespace Go.Proofs.YtleknidlgmmgbaaGreat

open Go.RowKit

end Go.Proofs.YtleknidlgmmgbaaGreat
