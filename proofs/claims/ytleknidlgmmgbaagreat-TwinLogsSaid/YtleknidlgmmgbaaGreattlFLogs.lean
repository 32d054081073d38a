/- TwinLogs: the facts that the kernel reckons, in a text of their own (memory). -/
import Derived.Test.YtleknidlgmmgbaaGreatRows
import Derived.ProofKit
set_option linter.all false
namespace Go.Proofs.YtleknidlgmmgbaaGreat

theorem logs_facts : joinedFacts Tryz.pinned.checked.prog 14 Tryz.f14 Rows.twinLogsSpec Rows.twinLogsRow = true := by kernel_rfl

end Go.Proofs.YtleknidlgmmgbaaGreat
