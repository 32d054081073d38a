/- LayoutBest: the facts that the kernel reckons, in a text of their own (memory). -/
import Derived.Test.YtigehmghcafblaaRows
import Derived.ProofKit
set_option linter.all false
namespace Go.Proofs.Ytigehmghcafblaa

section

theorem best_facts : joinedFacts Try.pinned.checked.prog 4 Try.f4 Rows.layoutBestSpec Rows.layoutBestRow = true := by kernel_rfl
end


end Go.Proofs.Ytigehmghcafblaa
