/- MarginGroups: the facts that the kernel reckons, in a text of their own (memory). -/
import Derived.Test.YtndcmmghgljinaaRows
import Derived.ProofKit
set_option linter.all false
namespace Go.Proofs.Ytndcmmghgljinaa

theorem groups_facts : joinedFacts Try.pinned.checked.prog 6 Try.f6 Rows.marginGroupsSpec Rows.marginGroupsRow = true := by kernel_rfl

end Go.Proofs.Ytndcmmghgljinaa
