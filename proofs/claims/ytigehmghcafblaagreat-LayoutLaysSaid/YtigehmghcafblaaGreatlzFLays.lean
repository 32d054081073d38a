/- LayoutLays: the facts that the kernel reckons, in a text of their own (memory). -/
import Derived.Test.YtigehmghcafblaaGreatRows
import Derived.ProofKit
set_option linter.all false
namespace Go.Proofs.YtigehmghcafblaaGreat

section

theorem lays_facts : joinedFacts Tryz.pinned.checked.prog 6 Tryz.f6 Rows.layoutLaysSpec Rows.layoutLaysRow = true := by kernel_rfl
end


end Go.Proofs.YtigehmghcafblaaGreat
