/- LayoutLess: the facts that the kernel reckons, in a text of their own (memory). -/
import Derived.Test.YtigehmghcafblaaRows
import Derived.ProofKit
set_option linter.all false
namespace Go.Proofs.Ytigehmghcafblaa

section

theorem less_facts : joinedFacts Try.pinned.checked.prog 6 Try.f6 Rows.layoutLessSpec Rows.layoutLessRow = true := by kernel_rfl
end


end Go.Proofs.Ytigehmghcafblaa
