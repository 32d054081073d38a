/- LayoutTurned: the facts that the kernel reckons, in a text of their own (memory). -/
import Derived.Test.YtigehmghcafblaaRows
import Derived.ProofKit
set_option linter.all false
namespace Go.Proofs.Ytigehmghcafblaa

section

theorem turned_facts : joinedFacts Try.pinned.checked.prog 5 Try.f5 Rows.layoutTurnedSpec Rows.layoutTurnedRow = true := by kernel_rfl
end


end Go.Proofs.Ytigehmghcafblaa
