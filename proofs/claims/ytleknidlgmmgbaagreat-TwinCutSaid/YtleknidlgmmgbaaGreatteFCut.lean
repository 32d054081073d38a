/- TwinCut: the facts that the kernel reckons, in a text of their own (memory). -/
import Derived.Test.YtleknidlgmmgbaaGreatRows
import Derived.ProofKit
set_option linter.all false
namespace Go.Proofs.YtleknidlgmmgbaaGreat

theorem cut_facts : joinedFacts Tryz.pinned.checked.prog 7 Tryz.f7 Rows.twinCutSpec Rows.twinCutRow = true := by kernel_rfl

end Go.Proofs.YtleknidlgmmgbaaGreat
