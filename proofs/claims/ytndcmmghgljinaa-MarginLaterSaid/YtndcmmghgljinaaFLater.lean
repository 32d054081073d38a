/- MarginLater: the facts that the kernel reckons, in a text of their own (memory). -/
import Derived.Test.YtndcmmghgljinaaRows
import Derived.ProofKit
set_option linter.all false
namespace Go.Proofs.Ytndcmmghgljinaa

theorem later_facts : joinedFacts Try.pinned.checked.prog 17 Try.f17 Rows.marginLaterSpec Rows.marginLaterRow = true := by kernel_rfl

end Go.Proofs.Ytndcmmghgljinaa
