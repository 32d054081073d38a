/- MarginPlans: the facts that the kernel reckons, in a text of their own (memory). -/
import Derived.Test.YtndcmmghgljinaaRows
import Derived.ProofKit
set_option linter.all false
namespace Go.Proofs.Ytndcmmghgljinaa

theorem plans_facts : joinedFacts Try.pinned.checked.prog 7 Try.f7 Rows.marginPlansSpec Rows.marginPlansRow = true := by kernel_rfl

end Go.Proofs.Ytndcmmghgljinaa
