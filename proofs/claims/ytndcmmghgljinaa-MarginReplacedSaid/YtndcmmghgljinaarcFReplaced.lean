/- MarginReplaced: the facts that the kernel reckons, in a text of their own (memory). -/
import Derived.Test.YtndcmmghgljinaaRows
import Derived.ProofKit
set_option linter.all false
namespace Go.Proofs.Ytndcmmghgljinaa

theorem replaced_facts : joinedFacts Try.pinned.checked.prog 15 Try.f15 Rows.marginReplacedSpec Rows.marginReplacedRow = true := by kernel_rfl

end Go.Proofs.Ytndcmmghgljinaa
