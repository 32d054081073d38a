/- The program: seal, Seal. -/
import Derived.Test.YtleknidlgmmgbaaGreattsW23
set_option linter.all false
namespace Go.Proofs.YtleknidlgmmgbaaGreat

open Go.RowKit

end Go.Proofs.YtleknidlgmmgbaaGreat
