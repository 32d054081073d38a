/- TwinMarks: the facts that the kernel reckons, in a text of their own (memory). -/
import Derived.Test.YtleknidlgmmgbaaGreatRows
import Derived.ProofKit
set_option linter.all false
namespace Go.Proofs.YtleknidlgmmgbaaGreat

theorem marks_facts : joinedFacts Tryz.pinned.checked.prog 11 Tryz.f11 Rows.twinMarksSpec Rows.twinMarksRow = true := by kernel_rfl

end Go.Proofs.YtleknidlgmmgbaaGreat
