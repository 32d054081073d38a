/- MarginSuspects: the facts that the kernel reckons, in a text of their own (memory). -/
import Derived.Test.YtndcmmghgljinaaRows
import Derived.ProofKit
set_option linter.all false
namespace Go.Proofs.Ytndcmmghgljinaa

theorem suspects_facts : joinedFacts Try.pinned.checked.prog 14 Try.f14 Rows.marginSuspectsSpec Rows.marginSuspectsRow = true := by kernel_rfl

end Go.Proofs.Ytndcmmghgljinaa
