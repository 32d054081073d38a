/- MarginTrue: the facts that the kernel reckons, in a text of their own (memory). -/
import Derived.Test.YtndcmmghgljinaaRows
import Derived.ProofKit
set_option linter.all false
namespace Go.Proofs.Ytndcmmghgljinaa

theorem true_facts : joinedFacts Try.pinned.checked.prog 9 Try.f9 Rows.marginTrueSpec Rows.marginTrueRow = true := by kernel_rfl

end Go.Proofs.Ytndcmmghgljinaa
