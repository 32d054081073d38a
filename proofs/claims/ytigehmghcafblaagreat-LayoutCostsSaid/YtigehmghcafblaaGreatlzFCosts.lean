/- LayoutCosts: the facts that the kernel reckons, in a text of their own (memory). -/
import Derived.Test.YtigehmghcafblaaGreatRows
import Derived.ProofKit
set_option linter.all false
namespace Go.Proofs.YtigehmghcafblaaGreat

section

theorem costs_facts : joinedFacts Tryz.pinned.checked.prog 3 Tryz.f3 Rows.layoutCostsSpec Rows.layoutCostsRow = true := by kernel_rfl
end


end Go.Proofs.YtigehmghcafblaaGreat
