/- MarginFewest: the facts that the kernel reckons, in a text of their own (memory). -/
import Derived.Test.YtndcmmghgljinaaRows
import Derived.ProofKit
set_option linter.all false
namespace Go.Proofs.Ytndcmmghgljinaa

theorem fewest_facts : joinedFacts Try.pinned.checked.prog 16 Try.f16 Rows.marginFewestSpec Rows.marginFewestRow = true := by kernel_rfl

end Go.Proofs.Ytndcmmghgljinaa
