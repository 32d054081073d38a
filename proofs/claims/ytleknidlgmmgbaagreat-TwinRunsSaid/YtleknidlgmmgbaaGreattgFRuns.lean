/- TwinRuns: the facts that the kernel reckons, in a text of their own (memory). -/
import Derived.Test.YtleknidlgmmgbaaGreatRows
import Derived.ProofKit
set_option linter.all false
namespace Go.Proofs.YtleknidlgmmgbaaGreat

theorem runs_facts : joinedFacts Tryz.pinned.checked.prog 12 Tryz.f12 Rows.twinRunsSpec Rows.twinRunsRow = true := by kernel_rfl

end Go.Proofs.YtleknidlgmmgbaaGreat
