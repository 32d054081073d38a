/- LayoutProof: the facts that the kernel reckons, in a text of their own (memory). -/
import Derived.Test.YtigehmghcafblaaGreatRows
import Derived.ProofKit
set_option linter.all false
namespace Go.Proofs.YtigehmghcafblaaGreat

section

theorem proof_facts : joinedFacts Tryz.pinned.checked.prog 7 Tryz.f7 Rows.layoutProofSpec Rows.layoutProofRow = true := by kernel_rfl
end


end Go.Proofs.YtigehmghcafblaaGreat
