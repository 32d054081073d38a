/- TwinMarked: the facts that the kernel reckons, in a text of their own (memory). -/
import Derived.Test.YtleknidlgmmgbaaGreatRows
import Derived.ProofKit
set_option linter.all false
namespace Go.Proofs.YtleknidlgmmgbaaGreat

theorem marked_facts : joinedFacts Tryz.pinned.checked.prog 15 Tryz.f15 Rows.twinMarkedSpec Rows.twinMarkedRow = true := by kernel_rfl

end Go.Proofs.YtleknidlgmmgbaaGreat
