/- LayoutKnown: the facts that the kernel reckons, in a text of their own (memory). -/
import Derived.Test.YtigehmghcafblaaRows
import Derived.ProofKit
set_option linter.all false
namespace Go.Proofs.Ytigehmghcafblaa

section

theorem known_facts : joinedFacts Try.pinned.checked.prog 3 Try.f3 Rows.layoutKnownSpec Rows.layoutKnownRow = true := by kernel_rfl
end


end Go.Proofs.Ytigehmghcafblaa
