/- TwinOften: the facts that the kernel reckons, in a text of their own (memory). -/
import Derived.Test.YtleknidlgmmgbaaGreatRows
import Derived.ProofKit
set_option linter.all false
namespace Go.Proofs.YtleknidlgmmgbaaGreat

theorem often_facts : joinedFacts Tryz.pinned.checked.prog 9 Tryz.f9 Rows.twinOftenSpec Rows.twinOftenRow = true := by kernel_rfl

end Go.Proofs.YtleknidlgmmgbaaGreat
