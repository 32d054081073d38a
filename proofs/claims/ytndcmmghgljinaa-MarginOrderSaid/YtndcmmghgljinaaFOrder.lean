/- MarginOrder: the facts that the kernel reckons, in a text of their own (memory). -/
import Derived.Test.YtndcmmghgljinaaRows
import Derived.ProofKit
set_option linter.all false
namespace Go.Proofs.Ytndcmmghgljinaa

theorem order_facts : joinedFacts Try.pinned.checked.prog 12 Try.f12 Rows.marginOrderSpec Rows.marginOrderRow = true := by kernel_rfl

end Go.Proofs.Ytndcmmghgljinaa
