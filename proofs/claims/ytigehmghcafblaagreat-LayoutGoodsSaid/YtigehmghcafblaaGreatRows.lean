/-
  No cell of these rows narrows 'for every input' (looked for: loops, veiled, ifaces, maps, wideKeys, modest, calm, conditions, laid).
  DERIVED. THE GIVEN ROWS OF THIS SEAT. 8 by the template 'for every input the law returns true; each argument reads behind the call as it read before'; 0 by the template 'total and deterministic' (their statements: YtigehmghcafblaaGreatTotals.lean).
  GIVEN WITH THE SEED: the statements are not yours to turn. If you find one false, say at which input.
  Laid BY PROGRAM, IN A SANDBOX (cutbox-rows.mjs): the forced cells as the released guide's own fill.sh prints them over the translation 9243afb7a6fc9b88… (all of the seat's roots in one cut). By AI agents, Wed Nov 11 2026. No macro, syntax, notation, axiom, sorry.
-/
import Derived.Test.YtigehmghcafblaaGreatChecked
import GoSem.Claim
import GoSem.ClaimJoined
import GoSem.ClaimMapViews
import Derived.JoinedTies
import Derived.KernelRfl
namespace Go.Proofs.YtigehmghcafblaaGreat
/- THE CELL 'sum', in the pinned program and in every row, IS THE sha256 OF THE DUMP (.gsa) THAT YtigehmghcafblaaGreatProg.lean LOADS. Nothing in Lean hashes anything: it is a label: what it is worth is what the hold of that sum in a sandbox is worth. -/
noncomputable def Tryz.pinned : Pinned := { name := "ytigehmghcafblaagreat", sum := "9243afb7a6fc9b88cf9ff7560531c19edeae26ba7cbada26491fdc4b3acbad8a", checked := Tryz.checked }
namespace Rows
def none {H : Type} : Left H := { results := [], args := [] }

/-- 'quicksilverlaw06.LayoutCosts': WHATEVER THE INPUT: true; the input reads as it did. -/
def layoutCostsSpec : ChangeSpec := { name := "layoutCosts", fn := fun _ => fun
  | [d1, d2] => { results := [.lit (.bool true)], args := [d1, d2] }
  | _ => none }
def layoutCostsRow : OpenClaim := { program := "ytigehmghcafblaagreat", sum := "9243afb7a6fc9b88cf9ff7560531c19edeae26ba7cbada26491fdc4b3acbad8a", func := "quicksilver/quicksilverlaw06.LayoutCosts", spec := "layoutCosts", unfollowed := true, recurses := true, plainKeys := false, apart := false }
def LayoutCostsSaid : Prop := layoutCostsRow.holds Tryz.pinned (OpenSpec.ofChange layoutCostsSpec)

/-- ITS FALSE NEIGHBOUR: 'it returns false'. Refute it at one input. -/
def layoutCostsWrong : ChangeSpec := { name := "layoutCosts", fn := fun _ => fun
  | [d1, d2] => { results := [.lit (.bool false)], args := [d1, d2] }
  | _ => none }
def LayoutCostsWrongFalsely : Prop := layoutCostsRow.holds Tryz.pinned (OpenSpec.ofChange layoutCostsWrong)

/-- 'quicksilverlaw06.LayoutBounds': WHATEVER THE INPUT: true; the input reads as it did. -/
def layoutBoundsSpec : ChangeSpec := { name := "layoutBounds", fn := fun _ => fun
  | [d1, d2] => { results := [.lit (.bool true)], args := [d1, d2] }
  | _ => none }
def layoutBoundsRow : OpenClaim := { program := "ytigehmghcafblaagreat", sum := "9243afb7a6fc9b88cf9ff7560531c19edeae26ba7cbada26491fdc4b3acbad8a", func := "quicksilver/quicksilverlaw06.LayoutBounds", spec := "layoutBounds", unfollowed := true, recurses := true, plainKeys := false, apart := false }
def LayoutBoundsSaid : Prop := layoutBoundsRow.holds Tryz.pinned (OpenSpec.ofChange layoutBoundsSpec)

/-- ITS FALSE NEIGHBOUR: 'it returns false'. Refute it at one input. -/
def layoutBoundsWrong : ChangeSpec := { name := "layoutBounds", fn := fun _ => fun
  | [d1, d2] => { results := [.lit (.bool false)], args := [d1, d2] }
  | _ => none }
def LayoutBoundsWrongFalsely : Prop := layoutBoundsRow.holds Tryz.pinned (OpenSpec.ofChange layoutBoundsWrong)

/-- 'quicksilverlaw06.LayoutGoods': WHATEVER THE INPUT: true; the input reads as it did. -/
def layoutGoodsSpec : ChangeSpec := { name := "layoutGoods", fn := fun _ => fun
  | [d] => { results := [.lit (.bool true)], args := [d] }
  | _ => none }
def layoutGoodsRow : OpenClaim := { program := "ytigehmghcafblaagreat", sum := "9243afb7a6fc9b88cf9ff7560531c19edeae26ba7cbada26491fdc4b3acbad8a", func := "quicksilver/quicksilverlaw06.LayoutGoods", spec := "layoutGoods", unfollowed := true, recurses := true, plainKeys := false, apart := false }
def LayoutGoodsSaid : Prop := layoutGoodsRow.holds Tryz.pinned (OpenSpec.ofChange layoutGoodsSpec)

/-- ITS FALSE NEIGHBOUR: 'it returns false'. Refute it at one input. -/
def layoutGoodsWrong : ChangeSpec := { name := "layoutGoods", fn := fun _ => fun
  | [d] => { results := [.lit (.bool false)], args := [d] }
  | _ => none }
def LayoutGoodsWrongFalsely : Prop := layoutGoodsRow.holds Tryz.pinned (OpenSpec.ofChange layoutGoodsWrong)

/-- 'quicksilverlaw06.LayoutLays': WHATEVER THE INPUT: true; the input reads as it did. -/
def layoutLaysSpec : ChangeSpec := { name := "layoutLays", fn := fun _ => fun
  | [d1, d2, d3] => { results := [.lit (.bool true)], args := [d1, d2, d3] }
  | _ => none }
def layoutLaysRow : OpenClaim := { program := "ytigehmghcafblaagreat", sum := "9243afb7a6fc9b88cf9ff7560531c19edeae26ba7cbada26491fdc4b3acbad8a", func := "quicksilver/quicksilverlaw06.LayoutLays", spec := "layoutLays", unfollowed := true, recurses := true, plainKeys := false, apart := false }
def LayoutLaysSaid : Prop := layoutLaysRow.holds Tryz.pinned (OpenSpec.ofChange layoutLaysSpec)

/-- ITS FALSE NEIGHBOUR: 'it returns false'. Refute it at one input. -/
def layoutLaysWrong : ChangeSpec := { name := "layoutLays", fn := fun _ => fun
  | [d1, d2, d3] => { results := [.lit (.bool false)], args := [d1, d2, d3] }
  | _ => none }
def LayoutLaysWrongFalsely : Prop := layoutLaysRow.holds Tryz.pinned (OpenSpec.ofChange layoutLaysWrong)

/-- 'quicksilverlaw06.LayoutProof': WHATEVER THE INPUT: true; the input reads as it did. -/
def layoutProofSpec : ChangeSpec := { name := "layoutProof", fn := fun _ => fun
  | [d1, d2, d3] => { results := [.lit (.bool true)], args := [d1, d2, d3] }
  | _ => none }
def layoutProofRow : OpenClaim := { program := "ytigehmghcafblaagreat", sum := "9243afb7a6fc9b88cf9ff7560531c19edeae26ba7cbada26491fdc4b3acbad8a", func := "quicksilver/quicksilverlaw06.LayoutProof", spec := "layoutProof", unfollowed := true, recurses := true, plainKeys := false, apart := false }
def LayoutProofSaid : Prop := layoutProofRow.holds Tryz.pinned (OpenSpec.ofChange layoutProofSpec)

/-- ITS FALSE NEIGHBOUR: 'it returns false'. Refute it at one input. -/
def layoutProofWrong : ChangeSpec := { name := "layoutProof", fn := fun _ => fun
  | [d1, d2, d3] => { results := [.lit (.bool false)], args := [d1, d2, d3] }
  | _ => none }
def LayoutProofWrongFalsely : Prop := layoutProofRow.holds Tryz.pinned (OpenSpec.ofChange layoutProofWrong)

/-- 'quicksilverlaw06.LayoutGood': WHATEVER THE INPUT: true; the input reads as it did. -/
def layoutGoodSpec : ChangeSpec := { name := "layoutGood", fn := fun _ => fun
  | [d1, d2] => { results := [.lit (.bool true)], args := [d1, d2] }
  | _ => none }
def layoutGoodRow : OpenClaim := { program := "ytigehmghcafblaagreat", sum := "9243afb7a6fc9b88cf9ff7560531c19edeae26ba7cbada26491fdc4b3acbad8a", func := "quicksilver/quicksilverlaw06.LayoutGood", spec := "layoutGood", unfollowed := true, recurses := true, plainKeys := false, apart := false }
def LayoutGoodSaid : Prop := layoutGoodRow.holds Tryz.pinned (OpenSpec.ofChange layoutGoodSpec)

/-- ITS FALSE NEIGHBOUR: 'it returns false'. Refute it at one input. -/
def layoutGoodWrong : ChangeSpec := { name := "layoutGood", fn := fun _ => fun
  | [d1, d2] => { results := [.lit (.bool false)], args := [d1, d2] }
  | _ => none }
def LayoutGoodWrongFalsely : Prop := layoutGoodRow.holds Tryz.pinned (OpenSpec.ofChange layoutGoodWrong)

/-- 'quicksilverlaw06.LayoutPrints': WHATEVER THE INPUT: true; the input reads as it did. -/
def layoutPrintsSpec : ChangeSpec := { name := "layoutPrints", fn := fun _ => fun
  | [d1, d2] => { results := [.lit (.bool true)], args := [d1, d2] }
  | _ => none }
def layoutPrintsRow : OpenClaim := { program := "ytigehmghcafblaagreat", sum := "9243afb7a6fc9b88cf9ff7560531c19edeae26ba7cbada26491fdc4b3acbad8a", func := "quicksilver/quicksilverlaw06.LayoutPrints", spec := "layoutPrints", unfollowed := true, recurses := true, plainKeys := false, apart := false }
def LayoutPrintsSaid : Prop := layoutPrintsRow.holds Tryz.pinned (OpenSpec.ofChange layoutPrintsSpec)

/-- ITS FALSE NEIGHBOUR: 'it returns false'. Refute it at one input. -/
def layoutPrintsWrong : ChangeSpec := { name := "layoutPrints", fn := fun _ => fun
  | [d1, d2] => { results := [.lit (.bool false)], args := [d1, d2] }
  | _ => none }
def LayoutPrintsWrongFalsely : Prop := layoutPrintsRow.holds Tryz.pinned (OpenSpec.ofChange layoutPrintsWrong)

/-- 'quicksilverlaw06.LayoutTimes': WHATEVER THE INPUT: true; the input reads as it did. -/
def layoutTimesSpec : ChangeSpec := { name := "layoutTimes", fn := fun _ => fun
  | [d1, d2] => { results := [.lit (.bool true)], args := [d1, d2] }
  | _ => none }
def layoutTimesRow : OpenClaim := { program := "ytigehmghcafblaagreat", sum := "9243afb7a6fc9b88cf9ff7560531c19edeae26ba7cbada26491fdc4b3acbad8a", func := "quicksilver/quicksilverlaw06.LayoutTimes", spec := "layoutTimes", unfollowed := true, recurses := true, plainKeys := false, apart := false }
def LayoutTimesSaid : Prop := layoutTimesRow.holds Tryz.pinned (OpenSpec.ofChange layoutTimesSpec)

/-- ITS FALSE NEIGHBOUR: 'it returns false'. Refute it at one input. -/
def layoutTimesWrong : ChangeSpec := { name := "layoutTimes", fn := fun _ => fun
  | [d1, d2] => { results := [.lit (.bool false)], args := [d1, d2] }
  | _ => none }
def LayoutTimesWrongFalsely : Prop := layoutTimesRow.holds Tryz.pinned (OpenSpec.ofChange layoutTimesWrong)

/- THE SECOND FORM. 'bulk': how many values and letters a reading holds, each counted each time it is reached (what is shared counts as often as it is met; a slice's spare places count too). A statement '..UptoSaid' is the law's where the arguments, and the package variables that the reading takes, are together of bulk at most 1048576: NARROWER than '..Said'. Prove '..Said' where nothing that the law and all that it calls make is longer than what came in: it says more and counts as full. Else prove '..UptoSaid'. A law counts once. -/
mutual
def uptoBulk {H : Type} : DataW H → Nat
  | .lit (.string bytes) => bytes.length + 1
  | .lit _ => 1
  | .nil => 1
  | .ptr d => uptoBulk d + 1
  | .slice elems spare => uptoBulkAll elems + uptoBulkAll spare + 1
  | .agg parts => uptoBulkAll parts + 1
  | .iface _ d => uptoBulk d + 1
  | .map entries => uptoBulkEntries entries + 1
  | .held _ => 1
def uptoBulkAll {H : Type} : List (DataW H) → Nat
  | [] => 0
  | d :: r => uptoBulk d + uptoBulkAll r
def uptoBulkEntries {H : Type} : List (Lit × DataW H) → Nat
  | [] => 0
  | x :: r => uptoBulkEntry x + uptoBulkEntries r
def uptoBulkEntry {H : Type} : Lit × DataW H → Nat
  | (.string bytes, d) => bytes.length + uptoBulk d + 1
  | (_, d) => uptoBulk d + 1
 end
def uptoSmall : (H : Type) → List (DataW H) → Bool := fun _ ds => decide (uptoBulkAll ds ≤ 1048576)
def OpenSpec.upto (s : _root_.Go.ChangeSpec) : _root_.Go.OpenSpec := { _root_.Go.OpenSpec.ofChange s with cond := some uptoSmall }

/-- 'quicksilverlaw06.LayoutCosts', WHERE WHAT IT READS IS OF BULK AT MOST 1048576: true; the input reads as it did. -/
def layoutCostsUptoRow : OpenClaim := { program := "ytigehmghcafblaagreat", sum := "9243afb7a6fc9b88cf9ff7560531c19edeae26ba7cbada26491fdc4b3acbad8a", func := "quicksilver/quicksilverlaw06.LayoutCosts", spec := "layoutCosts", unfollowed := true, recurses := true, plainKeys := false, apart := false, narrowed := true }
def LayoutCostsUptoSaid : Prop := layoutCostsUptoRow.holds Tryz.pinned (OpenSpec.upto layoutCostsSpec)

/-- 'quicksilverlaw06.LayoutBounds', WHERE WHAT IT READS IS OF BULK AT MOST 1048576: true; the input reads as it did. -/
def layoutBoundsUptoRow : OpenClaim := { program := "ytigehmghcafblaagreat", sum := "9243afb7a6fc9b88cf9ff7560531c19edeae26ba7cbada26491fdc4b3acbad8a", func := "quicksilver/quicksilverlaw06.LayoutBounds", spec := "layoutBounds", unfollowed := true, recurses := true, plainKeys := false, apart := false, narrowed := true }
def LayoutBoundsUptoSaid : Prop := layoutBoundsUptoRow.holds Tryz.pinned (OpenSpec.upto layoutBoundsSpec)

/-- 'quicksilverlaw06.LayoutGoods', WHERE WHAT IT READS IS OF BULK AT MOST 1048576: true; the input reads as it did. -/
def layoutGoodsUptoRow : OpenClaim := { program := "ytigehmghcafblaagreat", sum := "9243afb7a6fc9b88cf9ff7560531c19edeae26ba7cbada26491fdc4b3acbad8a", func := "quicksilver/quicksilverlaw06.LayoutGoods", spec := "layoutGoods", unfollowed := true, recurses := true, plainKeys := false, apart := false, narrowed := true }
def LayoutGoodsUptoSaid : Prop := layoutGoodsUptoRow.holds Tryz.pinned (OpenSpec.upto layoutGoodsSpec)

/-- 'quicksilverlaw06.LayoutLays', WHERE WHAT IT READS IS OF BULK AT MOST 1048576: true; the input reads as it did. -/
def layoutLaysUptoRow : OpenClaim := { program := "ytigehmghcafblaagreat", sum := "9243afb7a6fc9b88cf9ff7560531c19edeae26ba7cbada26491fdc4b3acbad8a", func := "quicksilver/quicksilverlaw06.LayoutLays", spec := "layoutLays", unfollowed := true, recurses := true, plainKeys := false, apart := false, narrowed := true }
def LayoutLaysUptoSaid : Prop := layoutLaysUptoRow.holds Tryz.pinned (OpenSpec.upto layoutLaysSpec)

/-- 'quicksilverlaw06.LayoutProof', WHERE WHAT IT READS IS OF BULK AT MOST 1048576: true; the input reads as it did. -/
def layoutProofUptoRow : OpenClaim := { program := "ytigehmghcafblaagreat", sum := "9243afb7a6fc9b88cf9ff7560531c19edeae26ba7cbada26491fdc4b3acbad8a", func := "quicksilver/quicksilverlaw06.LayoutProof", spec := "layoutProof", unfollowed := true, recurses := true, plainKeys := false, apart := false, narrowed := true }
def LayoutProofUptoSaid : Prop := layoutProofUptoRow.holds Tryz.pinned (OpenSpec.upto layoutProofSpec)

/-- 'quicksilverlaw06.LayoutGood', WHERE WHAT IT READS IS OF BULK AT MOST 1048576: true; the input reads as it did. -/
def layoutGoodUptoRow : OpenClaim := { program := "ytigehmghcafblaagreat", sum := "9243afb7a6fc9b88cf9ff7560531c19edeae26ba7cbada26491fdc4b3acbad8a", func := "quicksilver/quicksilverlaw06.LayoutGood", spec := "layoutGood", unfollowed := true, recurses := true, plainKeys := false, apart := false, narrowed := true }
def LayoutGoodUptoSaid : Prop := layoutGoodUptoRow.holds Tryz.pinned (OpenSpec.upto layoutGoodSpec)

/-- 'quicksilverlaw06.LayoutPrints', WHERE WHAT IT READS IS OF BULK AT MOST 1048576: true; the input reads as it did. -/
def layoutPrintsUptoRow : OpenClaim := { program := "ytigehmghcafblaagreat", sum := "9243afb7a6fc9b88cf9ff7560531c19edeae26ba7cbada26491fdc4b3acbad8a", func := "quicksilver/quicksilverlaw06.LayoutPrints", spec := "layoutPrints", unfollowed := true, recurses := true, plainKeys := false, apart := false, narrowed := true }
def LayoutPrintsUptoSaid : Prop := layoutPrintsUptoRow.holds Tryz.pinned (OpenSpec.upto layoutPrintsSpec)

/-- 'quicksilverlaw06.LayoutTimes', WHERE WHAT IT READS IS OF BULK AT MOST 1048576: true; the input reads as it did. -/
def layoutTimesUptoRow : OpenClaim := { program := "ytigehmghcafblaagreat", sum := "9243afb7a6fc9b88cf9ff7560531c19edeae26ba7cbada26491fdc4b3acbad8a", func := "quicksilver/quicksilverlaw06.LayoutTimes", spec := "layoutTimes", unfollowed := true, recurses := true, plainKeys := false, apart := false, narrowed := true }
def LayoutTimesUptoSaid : Prop := layoutTimesUptoRow.holds Tryz.pinned (OpenSpec.upto layoutTimesSpec)

end Rows
end Go.Proofs.YtigehmghcafblaaGreat
