/- MarginNows: the facts that the kernel reckons, in a text of their own (memory). -/
import Derived.Test.YtndcmmghgljinaaRows
import Derived.ProofKit
set_option linter.all false
namespace Go.Proofs.Ytndcmmghgljinaa

theorem nows_facts : joinedFacts Try.pinned.checked.prog 4 Try.f4 Rows.marginNowsSpec Rows.marginNowsRow = true := by kernel_rfl

end Go.Proofs.Ytndcmmghgljinaa
