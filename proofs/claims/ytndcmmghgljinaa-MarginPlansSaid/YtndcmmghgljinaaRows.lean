/-
  No cell of these rows narrows 'for every input' (looked for: loops, veiled, ifaces, maps, wideKeys, modest, calm, conditions, laid).
  DERIVED. THE GIVEN ROWS OF THIS SEAT. 15 by the template 'for every input the law returns true; each argument reads behind the call as it read before'; 0 by the template 'total and deterministic' (their statements: YtndcmmghgljinaaTotals.lean).
  GIVEN WITH THE SEED: the statements are not yours to turn. If you find one false, say at which input.
  Laid BY PROGRAM, IN A SANDBOX (cutbox-rows.mjs): the forced cells as the released guide's own fill.sh prints them over the translation 1d4972c2816e69c4… (all of the seat's roots in one cut). By AI agents, Wed Nov 11 2026. No macro, syntax, notation, axiom, sorry.
-/
import Derived.Test.YtndcmmghgljinaaChecked
import GoSem.Claim
import GoSem.ClaimJoined
import GoSem.ClaimMapViews
import Derived.JoinedTies
import Derived.KernelRfl
namespace Go.Proofs.Ytndcmmghgljinaa
/- THE CELL 'sum', in the pinned program and in every row, IS THE sha256 OF THE DUMP (.gsa) THAT YtndcmmghgljinaaProg.lean LOADS. Nothing in Lean hashes anything: it is a label: what it is worth is what the hold of that sum in a sandbox is worth. -/
noncomputable def Try.pinned : Pinned := { name := "ytndcmmghgljinaa", sum := "1d4972c2816e69c45ea12464bc053df962da17711d15c1205006d95ed978969e", checked := Try.checked }
namespace Rows
def none {H : Type} : Left H := { results := [], args := [] }

/-- 'quicksilverlaw03.MarginNeeds': WHATEVER THE INPUT: true; the input reads as it did. -/
def marginNeedsSpec : ChangeSpec := { name := "marginNeeds", fn := fun _ => fun
  | [d1, d2] => { results := [.lit (.bool true)], args := [d1, d2] }
  | _ => none }
def marginNeedsRow : OpenClaim := { program := "ytndcmmghgljinaa", sum := "1d4972c2816e69c45ea12464bc053df962da17711d15c1205006d95ed978969e", func := "quicksilver/quicksilverlaw03.MarginNeeds", spec := "marginNeeds", unfollowed := true, recurses := true, apart := false }
def MarginNeedsSaid : Prop := marginNeedsRow.holds Try.pinned (OpenSpec.ofChange marginNeedsSpec)

/-- ITS FALSE NEIGHBOUR: 'it returns false'. Refute it at one input. -/
def marginNeedsWrong : ChangeSpec := { name := "marginNeeds", fn := fun _ => fun
  | [d1, d2] => { results := [.lit (.bool false)], args := [d1, d2] }
  | _ => none }
def MarginNeedsWrongFalsely : Prop := marginNeedsRow.holds Try.pinned (OpenSpec.ofChange marginNeedsWrong)

/-- 'quicksilverlaw03.MarginNows': WHATEVER THE INPUT: true; the input reads as it did. -/
def marginNowsSpec : ChangeSpec := { name := "marginNows", fn := fun _ => fun
  | [d1, d2, d3] => { results := [.lit (.bool true)], args := [d1, d2, d3] }
  | _ => none }
def marginNowsRow : OpenClaim := { program := "ytndcmmghgljinaa", sum := "1d4972c2816e69c45ea12464bc053df962da17711d15c1205006d95ed978969e", func := "quicksilver/quicksilverlaw03.MarginNows", spec := "marginNows", unfollowed := true, recurses := true, apart := false }
def MarginNowsSaid : Prop := marginNowsRow.holds Try.pinned (OpenSpec.ofChange marginNowsSpec)

/-- ITS FALSE NEIGHBOUR: 'it returns false'. Refute it at one input. -/
def marginNowsWrong : ChangeSpec := { name := "marginNows", fn := fun _ => fun
  | [d1, d2, d3] => { results := [.lit (.bool false)], args := [d1, d2, d3] }
  | _ => none }
def MarginNowsWrongFalsely : Prop := marginNowsRow.holds Try.pinned (OpenSpec.ofChange marginNowsWrong)

/-- 'quicksilverlaw03.MarginLives': WHATEVER THE INPUT: true; the input reads as it did. -/
def marginLivesSpec : ChangeSpec := { name := "marginLives", fn := fun _ => fun
  | [d1, d2] => { results := [.lit (.bool true)], args := [d1, d2] }
  | _ => none }
def marginLivesRow : OpenClaim := { program := "ytndcmmghgljinaa", sum := "1d4972c2816e69c45ea12464bc053df962da17711d15c1205006d95ed978969e", func := "quicksilver/quicksilverlaw03.MarginLives", spec := "marginLives", unfollowed := true, recurses := true, apart := false }
def MarginLivesSaid : Prop := marginLivesRow.holds Try.pinned (OpenSpec.ofChange marginLivesSpec)

/-- ITS FALSE NEIGHBOUR: 'it returns false'. Refute it at one input. -/
def marginLivesWrong : ChangeSpec := { name := "marginLives", fn := fun _ => fun
  | [d1, d2] => { results := [.lit (.bool false)], args := [d1, d2] }
  | _ => none }
def MarginLivesWrongFalsely : Prop := marginLivesRow.holds Try.pinned (OpenSpec.ofChange marginLivesWrong)

/-- 'quicksilverlaw03.MarginGroups': WHATEVER THE INPUT: true; the input reads as it did. -/
def marginGroupsSpec : ChangeSpec := { name := "marginGroups", fn := fun _ => fun
  | [d1, d2] => { results := [.lit (.bool true)], args := [d1, d2] }
  | _ => none }
def marginGroupsRow : OpenClaim := { program := "ytndcmmghgljinaa", sum := "1d4972c2816e69c45ea12464bc053df962da17711d15c1205006d95ed978969e", func := "quicksilver/quicksilverlaw03.MarginGroups", spec := "marginGroups", unfollowed := true, recurses := true, apart := false }
def MarginGroupsSaid : Prop := marginGroupsRow.holds Try.pinned (OpenSpec.ofChange marginGroupsSpec)

/-- ITS FALSE NEIGHBOUR: 'it returns false'. Refute it at one input. -/
def marginGroupsWrong : ChangeSpec := { name := "marginGroups", fn := fun _ => fun
  | [d1, d2] => { results := [.lit (.bool false)], args := [d1, d2] }
  | _ => none }
def MarginGroupsWrongFalsely : Prop := marginGroupsRow.holds Try.pinned (OpenSpec.ofChange marginGroupsWrong)

/-- 'quicksilverlaw03.MarginPlans': WHATEVER THE INPUT: true; the input reads as it did. -/
def marginPlansSpec : ChangeSpec := { name := "marginPlans", fn := fun _ => fun
  | [d1, d2, d3] => { results := [.lit (.bool true)], args := [d1, d2, d3] }
  | _ => none }
def marginPlansRow : OpenClaim := { program := "ytndcmmghgljinaa", sum := "1d4972c2816e69c45ea12464bc053df962da17711d15c1205006d95ed978969e", func := "quicksilver/quicksilverlaw03.MarginPlans", spec := "marginPlans", unfollowed := true, recurses := true, apart := false }
def MarginPlansSaid : Prop := marginPlansRow.holds Try.pinned (OpenSpec.ofChange marginPlansSpec)

/-- ITS FALSE NEIGHBOUR: 'it returns false'. Refute it at one input. -/
def marginPlansWrong : ChangeSpec := { name := "marginPlans", fn := fun _ => fun
  | [d1, d2, d3] => { results := [.lit (.bool false)], args := [d1, d2, d3] }
  | _ => none }
def MarginPlansWrongFalsely : Prop := marginPlansRow.holds Try.pinned (OpenSpec.ofChange marginPlansWrong)

/-- 'quicksilverlaw03.MarginKnown': WHATEVER THE INPUT: true; the input reads as it did. -/
def marginKnownSpec : ChangeSpec := { name := "marginKnown", fn := fun _ => fun
  | [] => { results := [.lit (.bool true)], args := [] }
  | _ => none }
def marginKnownRow : OpenClaim := { program := "ytndcmmghgljinaa", sum := "1d4972c2816e69c45ea12464bc053df962da17711d15c1205006d95ed978969e", func := "quicksilver/quicksilverlaw03.MarginKnown", spec := "marginKnown", unfollowed := true, recurses := true, apart := false }
def MarginKnownSaid : Prop := marginKnownRow.holds Try.pinned (OpenSpec.ofChange marginKnownSpec)

/-- ITS FALSE NEIGHBOUR: 'it returns false'. Refute it at one input. -/
def marginKnownWrong : ChangeSpec := { name := "marginKnown", fn := fun _ => fun
  | [] => { results := [.lit (.bool false)], args := [] }
  | _ => none }
def MarginKnownWrongFalsely : Prop := marginKnownRow.holds Try.pinned (OpenSpec.ofChange marginKnownWrong)

/-- 'quicksilverlaw03.MarginTrue': WHATEVER THE INPUT: true; the input reads as it did. -/
def marginTrueSpec : ChangeSpec := { name := "marginTrue", fn := fun _ => fun
  | [d1, d2] => { results := [.lit (.bool true)], args := [d1, d2] }
  | _ => none }
def marginTrueRow : OpenClaim := { program := "ytndcmmghgljinaa", sum := "1d4972c2816e69c45ea12464bc053df962da17711d15c1205006d95ed978969e", func := "quicksilver/quicksilverlaw03.MarginTrue", spec := "marginTrue", unfollowed := true, recurses := true, apart := false }
def MarginTrueSaid : Prop := marginTrueRow.holds Try.pinned (OpenSpec.ofChange marginTrueSpec)

/-- ITS FALSE NEIGHBOUR: 'it returns false'. Refute it at one input. -/
def marginTrueWrong : ChangeSpec := { name := "marginTrue", fn := fun _ => fun
  | [d1, d2] => { results := [.lit (.bool false)], args := [d1, d2] }
  | _ => none }
def MarginTrueWrongFalsely : Prop := marginTrueRow.holds Try.pinned (OpenSpec.ofChange marginTrueWrong)

/-- 'quicksilverlaw03.MarginReached': WHATEVER THE INPUT: true; the input reads as it did. -/
def marginReachedSpec : ChangeSpec := { name := "marginReached", fn := fun _ => fun
  | [d1, d2, d3] => { results := [.lit (.bool true)], args := [d1, d2, d3] }
  | _ => none }
def marginReachedRow : OpenClaim := { program := "ytndcmmghgljinaa", sum := "1d4972c2816e69c45ea12464bc053df962da17711d15c1205006d95ed978969e", func := "quicksilver/quicksilverlaw03.MarginReached", spec := "marginReached", unfollowed := true, recurses := true, apart := false }
def MarginReachedSaid : Prop := marginReachedRow.holds Try.pinned (OpenSpec.ofChange marginReachedSpec)

/-- ITS FALSE NEIGHBOUR: 'it returns false'. Refute it at one input. -/
def marginReachedWrong : ChangeSpec := { name := "marginReached", fn := fun _ => fun
  | [d1, d2, d3] => { results := [.lit (.bool false)], args := [d1, d2, d3] }
  | _ => none }
def MarginReachedWrongFalsely : Prop := marginReachedRow.holds Try.pinned (OpenSpec.ofChange marginReachedWrong)

/-- 'quicksilverlaw03.MarginMeasured': WHATEVER THE INPUT: true; the input reads as it did. -/
def marginMeasuredSpec : ChangeSpec := { name := "marginMeasured", fn := fun _ => fun
  | [d1, d2, d3] => { results := [.lit (.bool true)], args := [d1, d2, d3] }
  | _ => none }
def marginMeasuredRow : OpenClaim := { program := "ytndcmmghgljinaa", sum := "1d4972c2816e69c45ea12464bc053df962da17711d15c1205006d95ed978969e", func := "quicksilver/quicksilverlaw03.MarginMeasured", spec := "marginMeasured", unfollowed := true, recurses := true, apart := false }
def MarginMeasuredSaid : Prop := marginMeasuredRow.holds Try.pinned (OpenSpec.ofChange marginMeasuredSpec)

/-- ITS FALSE NEIGHBOUR: 'it returns false'. Refute it at one input. -/
def marginMeasuredWrong : ChangeSpec := { name := "marginMeasured", fn := fun _ => fun
  | [d1, d2, d3] => { results := [.lit (.bool false)], args := [d1, d2, d3] }
  | _ => none }
def MarginMeasuredWrongFalsely : Prop := marginMeasuredRow.holds Try.pinned (OpenSpec.ofChange marginMeasuredWrong)

/-- 'quicksilverlaw03.MarginOrder': WHATEVER THE INPUT: true; the input reads as it did. -/
def marginOrderSpec : ChangeSpec := { name := "marginOrder", fn := fun _ => fun
  | [d1, d2, d3] => { results := [.lit (.bool true)], args := [d1, d2, d3] }
  | _ => none }
def marginOrderRow : OpenClaim := { program := "ytndcmmghgljinaa", sum := "1d4972c2816e69c45ea12464bc053df962da17711d15c1205006d95ed978969e", func := "quicksilver/quicksilverlaw03.MarginOrder", spec := "marginOrder", unfollowed := true, recurses := true, apart := false }
def MarginOrderSaid : Prop := marginOrderRow.holds Try.pinned (OpenSpec.ofChange marginOrderSpec)

/-- ITS FALSE NEIGHBOUR: 'it returns false'. Refute it at one input. -/
def marginOrderWrong : ChangeSpec := { name := "marginOrder", fn := fun _ => fun
  | [d1, d2, d3] => { results := [.lit (.bool false)], args := [d1, d2, d3] }
  | _ => none }
def MarginOrderWrongFalsely : Prop := marginOrderRow.holds Try.pinned (OpenSpec.ofChange marginOrderWrong)

/-- 'quicksilverlaw03.MarginTells': WHATEVER THE INPUT: true; the input reads as it did. -/
def marginTellsSpec : ChangeSpec := { name := "marginTells", fn := fun _ => fun
  | [d1, d2, d3] => { results := [.lit (.bool true)], args := [d1, d2, d3] }
  | _ => none }
def marginTellsRow : OpenClaim := { program := "ytndcmmghgljinaa", sum := "1d4972c2816e69c45ea12464bc053df962da17711d15c1205006d95ed978969e", func := "quicksilver/quicksilverlaw03.MarginTells", spec := "marginTells", unfollowed := true, recurses := true, apart := false }
def MarginTellsSaid : Prop := marginTellsRow.holds Try.pinned (OpenSpec.ofChange marginTellsSpec)

/-- ITS FALSE NEIGHBOUR: 'it returns false'. Refute it at one input. -/
def marginTellsWrong : ChangeSpec := { name := "marginTells", fn := fun _ => fun
  | [d1, d2, d3] => { results := [.lit (.bool false)], args := [d1, d2, d3] }
  | _ => none }
def MarginTellsWrongFalsely : Prop := marginTellsRow.holds Try.pinned (OpenSpec.ofChange marginTellsWrong)

/-- 'quicksilverlaw03.MarginSuspects': WHATEVER THE INPUT: true; the input reads as it did. -/
def marginSuspectsSpec : ChangeSpec := { name := "marginSuspects", fn := fun _ => fun
  | [d1, d2, d3] => { results := [.lit (.bool true)], args := [d1, d2, d3] }
  | _ => none }
def marginSuspectsRow : OpenClaim := { program := "ytndcmmghgljinaa", sum := "1d4972c2816e69c45ea12464bc053df962da17711d15c1205006d95ed978969e", func := "quicksilver/quicksilverlaw03.MarginSuspects", spec := "marginSuspects", unfollowed := true, recurses := true, apart := false }
def MarginSuspectsSaid : Prop := marginSuspectsRow.holds Try.pinned (OpenSpec.ofChange marginSuspectsSpec)

/-- ITS FALSE NEIGHBOUR: 'it returns false'. Refute it at one input. -/
def marginSuspectsWrong : ChangeSpec := { name := "marginSuspects", fn := fun _ => fun
  | [d1, d2, d3] => { results := [.lit (.bool false)], args := [d1, d2, d3] }
  | _ => none }
def MarginSuspectsWrongFalsely : Prop := marginSuspectsRow.holds Try.pinned (OpenSpec.ofChange marginSuspectsWrong)

/-- 'quicksilverlaw03.MarginReplaced': WHATEVER THE INPUT: true; the input reads as it did. -/
def marginReplacedSpec : ChangeSpec := { name := "marginReplaced", fn := fun _ => fun
  | [d1, d2, d3] => { results := [.lit (.bool true)], args := [d1, d2, d3] }
  | _ => none }
def marginReplacedRow : OpenClaim := { program := "ytndcmmghgljinaa", sum := "1d4972c2816e69c45ea12464bc053df962da17711d15c1205006d95ed978969e", func := "quicksilver/quicksilverlaw03.MarginReplaced", spec := "marginReplaced", unfollowed := true, recurses := true, apart := false }
def MarginReplacedSaid : Prop := marginReplacedRow.holds Try.pinned (OpenSpec.ofChange marginReplacedSpec)

/-- ITS FALSE NEIGHBOUR: 'it returns false'. Refute it at one input. -/
def marginReplacedWrong : ChangeSpec := { name := "marginReplaced", fn := fun _ => fun
  | [d1, d2, d3] => { results := [.lit (.bool false)], args := [d1, d2, d3] }
  | _ => none }
def MarginReplacedWrongFalsely : Prop := marginReplacedRow.holds Try.pinned (OpenSpec.ofChange marginReplacedWrong)

/-- 'quicksilverlaw03.MarginFewest': WHATEVER THE INPUT: true; the input reads as it did. -/
def marginFewestSpec : ChangeSpec := { name := "marginFewest", fn := fun _ => fun
  | [d1, d2, d3] => { results := [.lit (.bool true)], args := [d1, d2, d3] }
  | _ => none }
def marginFewestRow : OpenClaim := { program := "ytndcmmghgljinaa", sum := "1d4972c2816e69c45ea12464bc053df962da17711d15c1205006d95ed978969e", func := "quicksilver/quicksilverlaw03.MarginFewest", spec := "marginFewest", unfollowed := true, recurses := true, apart := false }
def MarginFewestSaid : Prop := marginFewestRow.holds Try.pinned (OpenSpec.ofChange marginFewestSpec)

/-- ITS FALSE NEIGHBOUR: 'it returns false'. Refute it at one input. -/
def marginFewestWrong : ChangeSpec := { name := "marginFewest", fn := fun _ => fun
  | [d1, d2, d3] => { results := [.lit (.bool false)], args := [d1, d2, d3] }
  | _ => none }
def MarginFewestWrongFalsely : Prop := marginFewestRow.holds Try.pinned (OpenSpec.ofChange marginFewestWrong)

/-- 'quicksilverlaw03.MarginLater': WHATEVER THE INPUT: true; the input reads as it did. -/
def marginLaterSpec : ChangeSpec := { name := "marginLater", fn := fun _ => fun
  | [d1, d2, d3] => { results := [.lit (.bool true)], args := [d1, d2, d3] }
  | _ => none }
def marginLaterRow : OpenClaim := { program := "ytndcmmghgljinaa", sum := "1d4972c2816e69c45ea12464bc053df962da17711d15c1205006d95ed978969e", func := "quicksilver/quicksilverlaw03.MarginLater", spec := "marginLater", unfollowed := true, recurses := true, apart := false }
def MarginLaterSaid : Prop := marginLaterRow.holds Try.pinned (OpenSpec.ofChange marginLaterSpec)

/-- ITS FALSE NEIGHBOUR: 'it returns false'. Refute it at one input. -/
def marginLaterWrong : ChangeSpec := { name := "marginLater", fn := fun _ => fun
  | [d1, d2, d3] => { results := [.lit (.bool false)], args := [d1, d2, d3] }
  | _ => none }
def MarginLaterWrongFalsely : Prop := marginLaterRow.holds Try.pinned (OpenSpec.ofChange marginLaterWrong)

/- THE SECOND FORM. 'bulk': how many values and letters a reading holds, each counted each time it is reached (what is shared counts as often as it is met; a slice's spare places count too). A statement '..UptoSaid' is the law's where the arguments, and the package variables that the reading takes, are together of bulk at most 1048576: NARROWER than '..Said'. Prove '..Said' where nothing that the law and all that it calls make is longer than what came in: it says more and counts as full. Else prove '..UptoSaid'. A law counts once. -/
mutual
def uptoBulk {H : Type} : DataW H → Nat
  | .lit (.string bytes) => bytes.length + 1
  | .lit _ => 1
  | .nil => 1
  | .ptr d => uptoBulk d + 1
  | .slice elems spare => uptoBulkAll elems + uptoBulkAll spare + 1
  | .agg parts => uptoBulkAll parts + 1
  | .iface _ d => uptoBulk d + 1
  | .map entries => uptoBulkEntries entries + 1
  | .held _ => 1
def uptoBulkAll {H : Type} : List (DataW H) → Nat
  | [] => 0
  | d :: r => uptoBulk d + uptoBulkAll r
def uptoBulkEntries {H : Type} : List (Lit × DataW H) → Nat
  | [] => 0
  | x :: r => uptoBulkEntry x + uptoBulkEntries r
def uptoBulkEntry {H : Type} : Lit × DataW H → Nat
  | (.string bytes, d) => bytes.length + uptoBulk d + 1
  | (_, d) => uptoBulk d + 1
 end
def uptoSmall : (H : Type) → List (DataW H) → Bool := fun _ ds => decide (uptoBulkAll ds ≤ 1048576)
def OpenSpec.upto (s : _root_.Go.ChangeSpec) : _root_.Go.OpenSpec := { _root_.Go.OpenSpec.ofChange s with cond := some uptoSmall }

/-- 'quicksilverlaw03.MarginNeeds', WHERE WHAT IT READS IS OF BULK AT MOST 1048576: true; the input reads as it did. -/
def marginNeedsUptoRow : OpenClaim := { program := "ytndcmmghgljinaa", sum := "1d4972c2816e69c45ea12464bc053df962da17711d15c1205006d95ed978969e", func := "quicksilver/quicksilverlaw03.MarginNeeds", spec := "marginNeeds", unfollowed := true, recurses := true, apart := false, narrowed := true }
def MarginNeedsUptoSaid : Prop := marginNeedsUptoRow.holds Try.pinned (OpenSpec.upto marginNeedsSpec)

/-- 'quicksilverlaw03.MarginNows', WHERE WHAT IT READS IS OF BULK AT MOST 1048576: true; the input reads as it did. -/
def marginNowsUptoRow : OpenClaim := { program := "ytndcmmghgljinaa", sum := "1d4972c2816e69c45ea12464bc053df962da17711d15c1205006d95ed978969e", func := "quicksilver/quicksilverlaw03.MarginNows", spec := "marginNows", unfollowed := true, recurses := true, apart := false, narrowed := true }
def MarginNowsUptoSaid : Prop := marginNowsUptoRow.holds Try.pinned (OpenSpec.upto marginNowsSpec)

/-- 'quicksilverlaw03.MarginLives', WHERE WHAT IT READS IS OF BULK AT MOST 1048576: true; the input reads as it did. -/
def marginLivesUptoRow : OpenClaim := { program := "ytndcmmghgljinaa", sum := "1d4972c2816e69c45ea12464bc053df962da17711d15c1205006d95ed978969e", func := "quicksilver/quicksilverlaw03.MarginLives", spec := "marginLives", unfollowed := true, recurses := true, apart := false, narrowed := true }
def MarginLivesUptoSaid : Prop := marginLivesUptoRow.holds Try.pinned (OpenSpec.upto marginLivesSpec)

/-- 'quicksilverlaw03.MarginGroups', WHERE WHAT IT READS IS OF BULK AT MOST 1048576: true; the input reads as it did. -/
def marginGroupsUptoRow : OpenClaim := { program := "ytndcmmghgljinaa", sum := "1d4972c2816e69c45ea12464bc053df962da17711d15c1205006d95ed978969e", func := "quicksilver/quicksilverlaw03.MarginGroups", spec := "marginGroups", unfollowed := true, recurses := true, apart := false, narrowed := true }
def MarginGroupsUptoSaid : Prop := marginGroupsUptoRow.holds Try.pinned (OpenSpec.upto marginGroupsSpec)

/-- 'quicksilverlaw03.MarginPlans', WHERE WHAT IT READS IS OF BULK AT MOST 1048576: true; the input reads as it did. -/
def marginPlansUptoRow : OpenClaim := { program := "ytndcmmghgljinaa", sum := "1d4972c2816e69c45ea12464bc053df962da17711d15c1205006d95ed978969e", func := "quicksilver/quicksilverlaw03.MarginPlans", spec := "marginPlans", unfollowed := true, recurses := true, apart := false, narrowed := true }
def MarginPlansUptoSaid : Prop := marginPlansUptoRow.holds Try.pinned (OpenSpec.upto marginPlansSpec)

/-- 'quicksilverlaw03.MarginKnown', WHERE WHAT IT READS IS OF BULK AT MOST 1048576: true; the input reads as it did. -/
def marginKnownUptoRow : OpenClaim := { program := "ytndcmmghgljinaa", sum := "1d4972c2816e69c45ea12464bc053df962da17711d15c1205006d95ed978969e", func := "quicksilver/quicksilverlaw03.MarginKnown", spec := "marginKnown", unfollowed := true, recurses := true, apart := false, narrowed := true }
def MarginKnownUptoSaid : Prop := marginKnownUptoRow.holds Try.pinned (OpenSpec.upto marginKnownSpec)

/-- 'quicksilverlaw03.MarginTrue', WHERE WHAT IT READS IS OF BULK AT MOST 1048576: true; the input reads as it did. -/
def marginTrueUptoRow : OpenClaim := { program := "ytndcmmghgljinaa", sum := "1d4972c2816e69c45ea12464bc053df962da17711d15c1205006d95ed978969e", func := "quicksilver/quicksilverlaw03.MarginTrue", spec := "marginTrue", unfollowed := true, recurses := true, apart := false, narrowed := true }
def MarginTrueUptoSaid : Prop := marginTrueUptoRow.holds Try.pinned (OpenSpec.upto marginTrueSpec)

/-- 'quicksilverlaw03.MarginReached', WHERE WHAT IT READS IS OF BULK AT MOST 1048576: true; the input reads as it did. -/
def marginReachedUptoRow : OpenClaim := { program := "ytndcmmghgljinaa", sum := "1d4972c2816e69c45ea12464bc053df962da17711d15c1205006d95ed978969e", func := "quicksilver/quicksilverlaw03.MarginReached", spec := "marginReached", unfollowed := true, recurses := true, apart := false, narrowed := true }
def MarginReachedUptoSaid : Prop := marginReachedUptoRow.holds Try.pinned (OpenSpec.upto marginReachedSpec)

/-- 'quicksilverlaw03.MarginMeasured', WHERE WHAT IT READS IS OF BULK AT MOST 1048576: true; the input reads as it did. -/
def marginMeasuredUptoRow : OpenClaim := { program := "ytndcmmghgljinaa", sum := "1d4972c2816e69c45ea12464bc053df962da17711d15c1205006d95ed978969e", func := "quicksilver/quicksilverlaw03.MarginMeasured", spec := "marginMeasured", unfollowed := true, recurses := true, apart := false, narrowed := true }
def MarginMeasuredUptoSaid : Prop := marginMeasuredUptoRow.holds Try.pinned (OpenSpec.upto marginMeasuredSpec)

/-- 'quicksilverlaw03.MarginOrder', WHERE WHAT IT READS IS OF BULK AT MOST 1048576: true; the input reads as it did. -/
def marginOrderUptoRow : OpenClaim := { program := "ytndcmmghgljinaa", sum := "1d4972c2816e69c45ea12464bc053df962da17711d15c1205006d95ed978969e", func := "quicksilver/quicksilverlaw03.MarginOrder", spec := "marginOrder", unfollowed := true, recurses := true, apart := false, narrowed := true }
def MarginOrderUptoSaid : Prop := marginOrderUptoRow.holds Try.pinned (OpenSpec.upto marginOrderSpec)

/-- 'quicksilverlaw03.MarginTells', WHERE WHAT IT READS IS OF BULK AT MOST 1048576: true; the input reads as it did. -/
def marginTellsUptoRow : OpenClaim := { program := "ytndcmmghgljinaa", sum := "1d4972c2816e69c45ea12464bc053df962da17711d15c1205006d95ed978969e", func := "quicksilver/quicksilverlaw03.MarginTells", spec := "marginTells", unfollowed := true, recurses := true, apart := false, narrowed := true }
def MarginTellsUptoSaid : Prop := marginTellsUptoRow.holds Try.pinned (OpenSpec.upto marginTellsSpec)

/-- 'quicksilverlaw03.MarginSuspects', WHERE WHAT IT READS IS OF BULK AT MOST 1048576: true; the input reads as it did. -/
def marginSuspectsUptoRow : OpenClaim := { program := "ytndcmmghgljinaa", sum := "1d4972c2816e69c45ea12464bc053df962da17711d15c1205006d95ed978969e", func := "quicksilver/quicksilverlaw03.MarginSuspects", spec := "marginSuspects", unfollowed := true, recurses := true, apart := false, narrowed := true }
def MarginSuspectsUptoSaid : Prop := marginSuspectsUptoRow.holds Try.pinned (OpenSpec.upto marginSuspectsSpec)

/-- 'quicksilverlaw03.MarginReplaced', WHERE WHAT IT READS IS OF BULK AT MOST 1048576: true; the input reads as it did. -/
def marginReplacedUptoRow : OpenClaim := { program := "ytndcmmghgljinaa", sum := "1d4972c2816e69c45ea12464bc053df962da17711d15c1205006d95ed978969e", func := "quicksilver/quicksilverlaw03.MarginReplaced", spec := "marginReplaced", unfollowed := true, recurses := true, apart := false, narrowed := true }
def MarginReplacedUptoSaid : Prop := marginReplacedUptoRow.holds Try.pinned (OpenSpec.upto marginReplacedSpec)

/-- 'quicksilverlaw03.MarginFewest', WHERE WHAT IT READS IS OF BULK AT MOST 1048576: true; the input reads as it did. -/
def marginFewestUptoRow : OpenClaim := { program := "ytndcmmghgljinaa", sum := "1d4972c2816e69c45ea12464bc053df962da17711d15c1205006d95ed978969e", func := "quicksilver/quicksilverlaw03.MarginFewest", spec := "marginFewest", unfollowed := true, recurses := true, apart := false, narrowed := true }
def MarginFewestUptoSaid : Prop := marginFewestUptoRow.holds Try.pinned (OpenSpec.upto marginFewestSpec)

/-- 'quicksilverlaw03.MarginLater', WHERE WHAT IT READS IS OF BULK AT MOST 1048576: true; the input reads as it did. -/
def marginLaterUptoRow : OpenClaim := { program := "ytndcmmghgljinaa", sum := "1d4972c2816e69c45ea12464bc053df962da17711d15c1205006d95ed978969e", func := "quicksilver/quicksilverlaw03.MarginLater", spec := "marginLater", unfollowed := true, recurses := true, apart := false, narrowed := true }
def MarginLaterUptoSaid : Prop := marginLaterUptoRow.holds Try.pinned (OpenSpec.upto marginLaterSpec)

end Rows
end Go.Proofs.Ytndcmmghgljinaa
