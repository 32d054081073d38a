/- MarginTells: the facts that the kernel reckons, in a text of their own (memory). -/
import Derived.Test.YtndcmmghgljinaaRows
import Derived.ProofKit
set_option linter.all false
namespace Go.Proofs.Ytndcmmghgljinaa

theorem tells_facts : joinedFacts Try.pinned.checked.prog 13 Try.f13 Rows.marginTellsSpec Rows.marginTellsRow = true := by kernel_rfl

end Go.Proofs.Ytndcmmghgljinaa
