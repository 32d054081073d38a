/- MarginKnown: the facts that the kernel reckons, in a text of their own (memory). -/
import Derived.Test.YtndcmmghgljinaaRows
import Derived.ProofKit
set_option linter.all false
namespace Go.Proofs.Ytndcmmghgljinaa

theorem known_facts : joinedFacts Try.pinned.checked.prog 8 Try.f8 Rows.marginKnownSpec Rows.marginKnownRow = true := by kernel_rfl

end Go.Proofs.Ytndcmmghgljinaa
