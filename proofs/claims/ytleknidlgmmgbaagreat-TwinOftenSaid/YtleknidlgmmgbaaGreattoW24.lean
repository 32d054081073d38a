/- The program: seal, Seal. -/
import Derived.Test.YtleknidlgmmgbaaGreattoW23
set_option linter.all false
namespace Go.Proofs.YtleknidlgmmgbaaGreat

open Go.RowKit

end Go.Proofs.YtleknidlgmmgbaaGreat
