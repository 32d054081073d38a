/- LayoutGoods: the facts that the kernel reckons, in a text of their own (memory). -/
import Derived.Test.YtigehmghcafblaaGreatRows
import Derived.ProofKit
set_option linter.all false
namespace Go.Proofs.YtigehmghcafblaaGreat

section

theorem goods_facts : joinedFacts Tryz.pinned.checked.prog 5 Tryz.f5 Rows.layoutGoodsSpec Rows.layoutGoodsRow = true := by kernel_rfl
end


end Go.Proofs.YtigehmghcafblaaGreat
