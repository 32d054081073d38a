/- MarginMeasured: the facts that the kernel reckons, in a text of their own (memory). -/
import Derived.Test.YtndcmmghgljinaaRows
import Derived.ProofKit
set_option linter.all false
namespace Go.Proofs.Ytndcmmghgljinaa

theorem measured_facts : joinedFacts Try.pinned.checked.prog 11 Try.f11 Rows.marginMeasuredSpec Rows.marginMeasuredRow = true := by kernel_rfl

end Go.Proofs.Ytndcmmghgljinaa
