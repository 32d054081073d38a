/- TwinSeals: the facts that the kernel reckons, in a text of their own (memory). -/
import Derived.Test.YtleknidlgmmgbaaGreatRows
import Derived.ProofKit
set_option linter.all false
namespace Go.Proofs.YtleknidlgmmgbaaGreat

theorem seals_facts : joinedFacts Tryz.pinned.checked.prog 13 Tryz.f13 Rows.twinSealsSpec Rows.twinSealsRow = true := by kernel_rfl

end Go.Proofs.YtleknidlgmmgbaaGreat
