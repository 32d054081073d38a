/- TwinHalf: the facts that the kernel reckons, in a text of their own (memory). -/
import Derived.Test.YtleknidlgmmgbaaGreatRows
import Derived.ProofKit
set_option linter.all false
namespace Go.Proofs.YtleknidlgmmgbaaGreat

theorem half_facts : joinedFacts Tryz.pinned.checked.prog 6 Tryz.f6 Rows.twinHalfSpec Rows.twinHalfRow = true := by kernel_rfl

end Go.Proofs.YtleknidlgmmgbaaGreat
