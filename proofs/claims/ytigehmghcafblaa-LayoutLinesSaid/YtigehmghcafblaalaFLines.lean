/- LayoutLines: the facts that the kernel reckons, in a text of their own (memory). -/
import Derived.Test.YtigehmghcafblaaRows
import Derived.ProofKit
set_option linter.all false
namespace Go.Proofs.Ytigehmghcafblaa

section

theorem lines_facts : joinedFacts Try.pinned.checked.prog 7 Try.f7 Rows.layoutLinesSpec Rows.layoutLinesRow = true := by kernel_rfl
end


end Go.Proofs.Ytigehmghcafblaa
