/- TwinKnown: the facts that the kernel reckons, in a text of their own (memory). -/
import Derived.Test.YtleknidlgmmgbaaGreatRows
import Derived.ProofKit
set_option linter.all false
namespace Go.Proofs.YtleknidlgmmgbaaGreat

theorem known_facts : joinedFacts Tryz.pinned.checked.prog 5 Tryz.f5 Rows.twinKnownSpec Rows.twinKnownRow = true := by kernel_rfl

end Go.Proofs.YtleknidlgmmgbaaGreat
