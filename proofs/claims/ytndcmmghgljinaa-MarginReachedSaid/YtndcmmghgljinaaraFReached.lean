/- MarginReached: the facts that the kernel reckons, in a text of their own (memory). -/
import Derived.Test.YtndcmmghgljinaaRows
import Derived.ProofKit
set_option linter.all false
namespace Go.Proofs.Ytndcmmghgljinaa

theorem reached_facts : joinedFacts Try.pinned.checked.prog 10 Try.f10 Rows.marginReachedSpec Rows.marginReachedRow = true := by kernel_rfl

end Go.Proofs.Ytndcmmghgljinaa
