/- LayoutGood: the facts that the kernel reckons, in a text of their own (memory). -/
import Derived.Test.YtigehmghcafblaaGreatRows
import Derived.ProofKit
set_option linter.all false
namespace Go.Proofs.YtigehmghcafblaaGreat

section

theorem good_facts : joinedFacts Tryz.pinned.checked.prog 8 Tryz.f8 Rows.layoutGoodSpec Rows.layoutGoodRow = true := by kernel_rfl
end


end Go.Proofs.YtigehmghcafblaaGreat
