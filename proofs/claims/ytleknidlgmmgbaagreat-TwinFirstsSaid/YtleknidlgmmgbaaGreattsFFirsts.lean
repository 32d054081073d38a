/- TwinFirsts: the facts that the kernel reckons, in a text of their own (memory). -/
import Derived.Test.YtleknidlgmmgbaaGreatRows
import Derived.ProofKit
set_option linter.all false
namespace Go.Proofs.YtleknidlgmmgbaaGreat

theorem firsts_facts : joinedFacts Tryz.pinned.checked.prog 3 Tryz.f3 Rows.twinFirstsSpec Rows.twinFirstsRow = true := by kernel_rfl

end Go.Proofs.YtleknidlgmmgbaaGreat
