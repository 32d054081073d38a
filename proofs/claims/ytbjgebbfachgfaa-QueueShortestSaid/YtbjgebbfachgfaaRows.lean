/-
  No cell of these rows narrows 'for every input' (looked for: loops, veiled, ifaces, maps, wideKeys, modest, calm, conditions, laid).
  DERIVED. THE GIVEN ROWS OF THIS SEAT. 13 by the template 'for every input the law returns true; each argument reads behind the call as it read before'; 0 by the template 'total and deterministic' (their statements: YtbjgebbfachgfaaTotals.lean).
  GIVEN WITH THE SEED: the statements are not yours to turn. If you find one false, say at which input.
  Laid BY PROGRAM, IN A SANDBOX (cutbox-rows.mjs): the forced cells as the released guide's own fill.sh prints them over the translation 9a7b67c1aa47c992… (all of the seat's roots in one cut). By AI agents, Wed Nov 11 2026. No macro, syntax, notation, axiom, sorry.
-/
import Derived.Test.YtbjgebbfachgfaaChecked
import GoSem.Claim
import GoSem.ClaimJoined
import GoSem.ClaimMapViews
import Derived.JoinedTies
import Derived.KernelRfl
namespace Go.Proofs.Ytbjgebbfachgfaa
/- THE CELL 'sum', in the pinned program and in every row, IS THE sha256 OF THE DUMP (.gsa) THAT YtbjgebbfachgfaaProg.lean LOADS. Nothing in Lean hashes anything: it is a label: what it is worth is what the hold of that sum in a sandbox is worth. -/
noncomputable def Try.pinned : Pinned := { name := "ytbjgebbfachgfaa", sum := "9a7b67c1aa47c992a9114743b6fa8f178b64a279cd8bfc7b40f4bdc9cf878f74", checked := Try.checked }
namespace Rows
def none {H : Type} : Left H := { results := [], args := [] }

/-- 'quicksilverlaw11.QueueChecks': WHATEVER THE INPUT: true; the input reads as it did. -/
def queueChecksSpec : ChangeSpec := { name := "queueChecks", fn := fun _ => fun
  | [d] => { results := [.lit (.bool true)], args := [d] }
  | _ => none }
def queueChecksRow : OpenClaim := { program := "ytbjgebbfachgfaa", sum := "9a7b67c1aa47c992a9114743b6fa8f178b64a279cd8bfc7b40f4bdc9cf878f74", func := "quicksilver/quicksilverlaw11.QueueChecks", spec := "queueChecks", unfollowed := true, recurses := true, apart := false }
def QueueChecksSaid : Prop := queueChecksRow.holds Try.pinned (OpenSpec.ofChange queueChecksSpec)

/-- ITS FALSE NEIGHBOUR: 'it returns false'. Refute it at one input. -/
def queueChecksWrong : ChangeSpec := { name := "queueChecks", fn := fun _ => fun
  | [d] => { results := [.lit (.bool false)], args := [d] }
  | _ => none }
def QueueChecksWrongFalsely : Prop := queueChecksRow.holds Try.pinned (OpenSpec.ofChange queueChecksWrong)

/-- 'quicksilverlaw11.QueueNexts': WHATEVER THE INPUT: true; the input reads as it did. -/
def queueNextsSpec : ChangeSpec := { name := "queueNexts", fn := fun _ => fun
  | [d1, d2] => { results := [.lit (.bool true)], args := [d1, d2] }
  | _ => none }
def queueNextsRow : OpenClaim := { program := "ytbjgebbfachgfaa", sum := "9a7b67c1aa47c992a9114743b6fa8f178b64a279cd8bfc7b40f4bdc9cf878f74", func := "quicksilver/quicksilverlaw11.QueueNexts", spec := "queueNexts", unfollowed := true, recurses := true, apart := false }
def QueueNextsSaid : Prop := queueNextsRow.holds Try.pinned (OpenSpec.ofChange queueNextsSpec)

/-- ITS FALSE NEIGHBOUR: 'it returns false'. Refute it at one input. -/
def queueNextsWrong : ChangeSpec := { name := "queueNexts", fn := fun _ => fun
  | [d1, d2] => { results := [.lit (.bool false)], args := [d1, d2] }
  | _ => none }
def QueueNextsWrongFalsely : Prop := queueNextsRow.holds Try.pinned (OpenSpec.ofChange queueNextsWrong)

/-- 'quicksilverlaw11.QueueDays': WHATEVER THE INPUT: true; the input reads as it did. -/
def queueDaysSpec : ChangeSpec := { name := "queueDays", fn := fun _ => fun
  | [d1, d2] => { results := [.lit (.bool true)], args := [d1, d2] }
  | _ => none }
def queueDaysRow : OpenClaim := { program := "ytbjgebbfachgfaa", sum := "9a7b67c1aa47c992a9114743b6fa8f178b64a279cd8bfc7b40f4bdc9cf878f74", func := "quicksilver/quicksilverlaw11.QueueDays", spec := "queueDays", unfollowed := true, recurses := true, apart := false }
def QueueDaysSaid : Prop := queueDaysRow.holds Try.pinned (OpenSpec.ofChange queueDaysSpec)

/-- ITS FALSE NEIGHBOUR: 'it returns false'. Refute it at one input. -/
def queueDaysWrong : ChangeSpec := { name := "queueDays", fn := fun _ => fun
  | [d1, d2] => { results := [.lit (.bool false)], args := [d1, d2] }
  | _ => none }
def QueueDaysWrongFalsely : Prop := queueDaysRow.holds Try.pinned (OpenSpec.ofChange queueDaysWrong)

/-- 'quicksilverlaw11.QueueQuotes': WHATEVER THE INPUT: true; the input reads as it did. -/
def queueQuotesSpec : ChangeSpec := { name := "queueQuotes", fn := fun _ => fun
  | [d1, d2, d3] => { results := [.lit (.bool true)], args := [d1, d2, d3] }
  | _ => none }
def queueQuotesRow : OpenClaim := { program := "ytbjgebbfachgfaa", sum := "9a7b67c1aa47c992a9114743b6fa8f178b64a279cd8bfc7b40f4bdc9cf878f74", func := "quicksilver/quicksilverlaw11.QueueQuotes", spec := "queueQuotes", unfollowed := true, recurses := true, apart := false }
def QueueQuotesSaid : Prop := queueQuotesRow.holds Try.pinned (OpenSpec.ofChange queueQuotesSpec)

/-- ITS FALSE NEIGHBOUR: 'it returns false'. Refute it at one input. -/
def queueQuotesWrong : ChangeSpec := { name := "queueQuotes", fn := fun _ => fun
  | [d1, d2, d3] => { results := [.lit (.bool false)], args := [d1, d2, d3] }
  | _ => none }
def QueueQuotesWrongFalsely : Prop := queueQuotesRow.holds Try.pinned (OpenSpec.ofChange queueQuotesWrong)

/-- 'quicksilverlaw11.QueueKnown': WHATEVER THE INPUT: true; the input reads as it did. -/
def queueKnownSpec : ChangeSpec := { name := "queueKnown", fn := fun _ => fun
  | [] => { results := [.lit (.bool true)], args := [] }
  | _ => none }
def queueKnownRow : OpenClaim := { program := "ytbjgebbfachgfaa", sum := "9a7b67c1aa47c992a9114743b6fa8f178b64a279cd8bfc7b40f4bdc9cf878f74", func := "quicksilver/quicksilverlaw11.QueueKnown", spec := "queueKnown", unfollowed := true, recurses := true, apart := false }
def QueueKnownSaid : Prop := queueKnownRow.holds Try.pinned (OpenSpec.ofChange queueKnownSpec)

/-- ITS FALSE NEIGHBOUR: 'it returns false'. Refute it at one input. -/
def queueKnownWrong : ChangeSpec := { name := "queueKnown", fn := fun _ => fun
  | [] => { results := [.lit (.bool false)], args := [] }
  | _ => none }
def QueueKnownWrongFalsely : Prop := queueKnownRow.holds Try.pinned (OpenSpec.ofChange queueKnownWrong)

/-- 'quicksilverlaw11.QueueCut': WHATEVER THE INPUT: true; the input reads as it did. -/
def queueCutSpec : ChangeSpec := { name := "queueCut", fn := fun _ => fun
  | [d1, d2, d3] => { results := [.lit (.bool true)], args := [d1, d2, d3] }
  | _ => none }
def queueCutRow : OpenClaim := { program := "ytbjgebbfachgfaa", sum := "9a7b67c1aa47c992a9114743b6fa8f178b64a279cd8bfc7b40f4bdc9cf878f74", func := "quicksilver/quicksilverlaw11.QueueCut", spec := "queueCut", unfollowed := true, recurses := true, apart := false }
def QueueCutSaid : Prop := queueCutRow.holds Try.pinned (OpenSpec.ofChange queueCutSpec)

/-- ITS FALSE NEIGHBOUR: 'it returns false'. Refute it at one input. -/
def queueCutWrong : ChangeSpec := { name := "queueCut", fn := fun _ => fun
  | [d1, d2, d3] => { results := [.lit (.bool false)], args := [d1, d2, d3] }
  | _ => none }
def QueueCutWrongFalsely : Prop := queueCutRow.holds Try.pinned (OpenSpec.ofChange queueCutWrong)

/-- 'quicksilverlaw11.QueueWaits': WHATEVER THE INPUT: true; the input reads as it did. -/
def queueWaitsSpec : ChangeSpec := { name := "queueWaits", fn := fun _ => fun
  | [d] => { results := [.lit (.bool true)], args := [d] }
  | _ => none }
def queueWaitsRow : OpenClaim := { program := "ytbjgebbfachgfaa", sum := "9a7b67c1aa47c992a9114743b6fa8f178b64a279cd8bfc7b40f4bdc9cf878f74", func := "quicksilver/quicksilverlaw11.QueueWaits", spec := "queueWaits", unfollowed := true, recurses := true, apart := false }
def QueueWaitsSaid : Prop := queueWaitsRow.holds Try.pinned (OpenSpec.ofChange queueWaitsSpec)

/-- ITS FALSE NEIGHBOUR: 'it returns false'. Refute it at one input. -/
def queueWaitsWrong : ChangeSpec := { name := "queueWaits", fn := fun _ => fun
  | [d] => { results := [.lit (.bool false)], args := [d] }
  | _ => none }
def QueueWaitsWrongFalsely : Prop := queueWaitsRow.holds Try.pinned (OpenSpec.ofChange queueWaitsWrong)

/-- 'quicksilverlaw11.QueueCharges': WHATEVER THE INPUT: true; the input reads as it did. -/
def queueChargesSpec : ChangeSpec := { name := "queueCharges", fn := fun _ => fun
  | [d1, d2] => { results := [.lit (.bool true)], args := [d1, d2] }
  | _ => none }
def queueChargesRow : OpenClaim := { program := "ytbjgebbfachgfaa", sum := "9a7b67c1aa47c992a9114743b6fa8f178b64a279cd8bfc7b40f4bdc9cf878f74", func := "quicksilver/quicksilverlaw11.QueueCharges", spec := "queueCharges", unfollowed := true, recurses := true, apart := false }
def QueueChargesSaid : Prop := queueChargesRow.holds Try.pinned (OpenSpec.ofChange queueChargesSpec)

/-- ITS FALSE NEIGHBOUR: 'it returns false'. Refute it at one input. -/
def queueChargesWrong : ChangeSpec := { name := "queueCharges", fn := fun _ => fun
  | [d1, d2] => { results := [.lit (.bool false)], args := [d1, d2] }
  | _ => none }
def QueueChargesWrongFalsely : Prop := queueChargesRow.holds Try.pinned (OpenSpec.ofChange queueChargesWrong)

/-- 'quicksilverlaw11.QueueKept': WHATEVER THE INPUT: true; the input reads as it did. -/
def queueKeptSpec : ChangeSpec := { name := "queueKept", fn := fun _ => fun
  | [d1, d2] => { results := [.lit (.bool true)], args := [d1, d2] }
  | _ => none }
def queueKeptRow : OpenClaim := { program := "ytbjgebbfachgfaa", sum := "9a7b67c1aa47c992a9114743b6fa8f178b64a279cd8bfc7b40f4bdc9cf878f74", func := "quicksilver/quicksilverlaw11.QueueKept", spec := "queueKept", unfollowed := true, recurses := true, apart := false }
def QueueKeptSaid : Prop := queueKeptRow.holds Try.pinned (OpenSpec.ofChange queueKeptSpec)

/-- ITS FALSE NEIGHBOUR: 'it returns false'. Refute it at one input. -/
def queueKeptWrong : ChangeSpec := { name := "queueKept", fn := fun _ => fun
  | [d1, d2] => { results := [.lit (.bool false)], args := [d1, d2] }
  | _ => none }
def QueueKeptWrongFalsely : Prop := queueKeptRow.holds Try.pinned (OpenSpec.ofChange queueKeptWrong)

/-- 'quicksilverlaw11.QueueFair': WHATEVER THE INPUT: true; the input reads as it did. -/
def queueFairSpec : ChangeSpec := { name := "queueFair", fn := fun _ => fun
  | [d1, d2] => { results := [.lit (.bool true)], args := [d1, d2] }
  | _ => none }
def queueFairRow : OpenClaim := { program := "ytbjgebbfachgfaa", sum := "9a7b67c1aa47c992a9114743b6fa8f178b64a279cd8bfc7b40f4bdc9cf878f74", func := "quicksilver/quicksilverlaw11.QueueFair", spec := "queueFair", unfollowed := true, recurses := true, apart := false }
def QueueFairSaid : Prop := queueFairRow.holds Try.pinned (OpenSpec.ofChange queueFairSpec)

/-- ITS FALSE NEIGHBOUR: 'it returns false'. Refute it at one input. -/
def queueFairWrong : ChangeSpec := { name := "queueFair", fn := fun _ => fun
  | [d1, d2] => { results := [.lit (.bool false)], args := [d1, d2] }
  | _ => none }
def QueueFairWrongFalsely : Prop := queueFairRow.holds Try.pinned (OpenSpec.ofChange queueFairWrong)

/-- 'quicksilverlaw11.QueueShortest': WHATEVER THE INPUT: true; the input reads as it did. -/
def queueShortestSpec : ChangeSpec := { name := "queueShortest", fn := fun _ => fun
  | [d1, d2, d3] => { results := [.lit (.bool true)], args := [d1, d2, d3] }
  | _ => none }
def queueShortestRow : OpenClaim := { program := "ytbjgebbfachgfaa", sum := "9a7b67c1aa47c992a9114743b6fa8f178b64a279cd8bfc7b40f4bdc9cf878f74", func := "quicksilver/quicksilverlaw11.QueueShortest", spec := "queueShortest", unfollowed := true, recurses := true, apart := false }
def QueueShortestSaid : Prop := queueShortestRow.holds Try.pinned (OpenSpec.ofChange queueShortestSpec)

/-- ITS FALSE NEIGHBOUR: 'it returns false'. Refute it at one input. -/
def queueShortestWrong : ChangeSpec := { name := "queueShortest", fn := fun _ => fun
  | [d1, d2, d3] => { results := [.lit (.bool false)], args := [d1, d2, d3] }
  | _ => none }
def QueueShortestWrongFalsely : Prop := queueShortestRow.holds Try.pinned (OpenSpec.ofChange queueShortestWrong)

/-- 'quicksilverlaw11.QueueLater': WHATEVER THE INPUT: true; the input reads as it did. -/
def queueLaterSpec : ChangeSpec := { name := "queueLater", fn := fun _ => fun
  | [d1, d2, d3] => { results := [.lit (.bool true)], args := [d1, d2, d3] }
  | _ => none }
def queueLaterRow : OpenClaim := { program := "ytbjgebbfachgfaa", sum := "9a7b67c1aa47c992a9114743b6fa8f178b64a279cd8bfc7b40f4bdc9cf878f74", func := "quicksilver/quicksilverlaw11.QueueLater", spec := "queueLater", unfollowed := true, recurses := true, apart := false }
def QueueLaterSaid : Prop := queueLaterRow.holds Try.pinned (OpenSpec.ofChange queueLaterSpec)

/-- ITS FALSE NEIGHBOUR: 'it returns false'. Refute it at one input. -/
def queueLaterWrong : ChangeSpec := { name := "queueLater", fn := fun _ => fun
  | [d1, d2, d3] => { results := [.lit (.bool false)], args := [d1, d2, d3] }
  | _ => none }
def QueueLaterWrongFalsely : Prop := queueLaterRow.holds Try.pinned (OpenSpec.ofChange queueLaterWrong)

/-- 'quicksilverlaw11.QueueEnds': WHATEVER THE INPUT: true; the input reads as it did. -/
def queueEndsSpec : ChangeSpec := { name := "queueEnds", fn := fun _ => fun
  | [d] => { results := [.lit (.bool true)], args := [d] }
  | _ => none }
def queueEndsRow : OpenClaim := { program := "ytbjgebbfachgfaa", sum := "9a7b67c1aa47c992a9114743b6fa8f178b64a279cd8bfc7b40f4bdc9cf878f74", func := "quicksilver/quicksilverlaw11.QueueEnds", spec := "queueEnds", unfollowed := true, recurses := true, apart := false }
def QueueEndsSaid : Prop := queueEndsRow.holds Try.pinned (OpenSpec.ofChange queueEndsSpec)

/-- ITS FALSE NEIGHBOUR: 'it returns false'. Refute it at one input. -/
def queueEndsWrong : ChangeSpec := { name := "queueEnds", fn := fun _ => fun
  | [d] => { results := [.lit (.bool false)], args := [d] }
  | _ => none }
def QueueEndsWrongFalsely : Prop := queueEndsRow.holds Try.pinned (OpenSpec.ofChange queueEndsWrong)

/- THE SECOND FORM. 'bulk': how many values and letters a reading holds, each counted each time it is reached (what is shared counts as often as it is met; a slice's spare places count too). A statement '..UptoSaid' is the law's where the arguments, and the package variables that the reading takes, are together of bulk at most 1048576: NARROWER than '..Said'. Prove '..Said' where nothing that the law and all that it calls make is longer than what came in: it says more and counts as full. Else prove '..UptoSaid'. A law counts once. -/
mutual
def uptoBulk {H : Type} : DataW H → Nat
  | .lit (.string bytes) => bytes.length + 1
  | .lit _ => 1
  | .nil => 1
  | .ptr d => uptoBulk d + 1
  | .slice elems spare => uptoBulkAll elems + uptoBulkAll spare + 1
  | .agg parts => uptoBulkAll parts + 1
  | .iface _ d => uptoBulk d + 1
  | .map entries => uptoBulkEntries entries + 1
  | .held _ => 1
def uptoBulkAll {H : Type} : List (DataW H) → Nat
  | [] => 0
  | d :: r => uptoBulk d + uptoBulkAll r
def uptoBulkEntries {H : Type} : List (Lit × DataW H) → Nat
  | [] => 0
  | x :: r => uptoBulkEntry x + uptoBulkEntries r
def uptoBulkEntry {H : Type} : Lit × DataW H → Nat
  | (.string bytes, d) => bytes.length + uptoBulk d + 1
  | (_, d) => uptoBulk d + 1
 end
def uptoSmall : (H : Type) → List (DataW H) → Bool := fun _ ds => decide (uptoBulkAll ds ≤ 1048576)
def OpenSpec.upto (s : _root_.Go.ChangeSpec) : _root_.Go.OpenSpec := { _root_.Go.OpenSpec.ofChange s with cond := some uptoSmall }

/-- 'quicksilverlaw11.QueueChecks', WHERE WHAT IT READS IS OF BULK AT MOST 1048576: true; the input reads as it did. -/
def queueChecksUptoRow : OpenClaim := { program := "ytbjgebbfachgfaa", sum := "9a7b67c1aa47c992a9114743b6fa8f178b64a279cd8bfc7b40f4bdc9cf878f74", func := "quicksilver/quicksilverlaw11.QueueChecks", spec := "queueChecks", unfollowed := true, recurses := true, apart := false, narrowed := true }
def QueueChecksUptoSaid : Prop := queueChecksUptoRow.holds Try.pinned (OpenSpec.upto queueChecksSpec)

/-- 'quicksilverlaw11.QueueNexts', WHERE WHAT IT READS IS OF BULK AT MOST 1048576: true; the input reads as it did. -/
def queueNextsUptoRow : OpenClaim := { program := "ytbjgebbfachgfaa", sum := "9a7b67c1aa47c992a9114743b6fa8f178b64a279cd8bfc7b40f4bdc9cf878f74", func := "quicksilver/quicksilverlaw11.QueueNexts", spec := "queueNexts", unfollowed := true, recurses := true, apart := false, narrowed := true }
def QueueNextsUptoSaid : Prop := queueNextsUptoRow.holds Try.pinned (OpenSpec.upto queueNextsSpec)

/-- 'quicksilverlaw11.QueueDays', WHERE WHAT IT READS IS OF BULK AT MOST 1048576: true; the input reads as it did. -/
def queueDaysUptoRow : OpenClaim := { program := "ytbjgebbfachgfaa", sum := "9a7b67c1aa47c992a9114743b6fa8f178b64a279cd8bfc7b40f4bdc9cf878f74", func := "quicksilver/quicksilverlaw11.QueueDays", spec := "queueDays", unfollowed := true, recurses := true, apart := false, narrowed := true }
def QueueDaysUptoSaid : Prop := queueDaysUptoRow.holds Try.pinned (OpenSpec.upto queueDaysSpec)

/-- 'quicksilverlaw11.QueueQuotes', WHERE WHAT IT READS IS OF BULK AT MOST 1048576: true; the input reads as it did. -/
def queueQuotesUptoRow : OpenClaim := { program := "ytbjgebbfachgfaa", sum := "9a7b67c1aa47c992a9114743b6fa8f178b64a279cd8bfc7b40f4bdc9cf878f74", func := "quicksilver/quicksilverlaw11.QueueQuotes", spec := "queueQuotes", unfollowed := true, recurses := true, apart := false, narrowed := true }
def QueueQuotesUptoSaid : Prop := queueQuotesUptoRow.holds Try.pinned (OpenSpec.upto queueQuotesSpec)

/-- 'quicksilverlaw11.QueueKnown', WHERE WHAT IT READS IS OF BULK AT MOST 1048576: true; the input reads as it did. -/
def queueKnownUptoRow : OpenClaim := { program := "ytbjgebbfachgfaa", sum := "9a7b67c1aa47c992a9114743b6fa8f178b64a279cd8bfc7b40f4bdc9cf878f74", func := "quicksilver/quicksilverlaw11.QueueKnown", spec := "queueKnown", unfollowed := true, recurses := true, apart := false, narrowed := true }
def QueueKnownUptoSaid : Prop := queueKnownUptoRow.holds Try.pinned (OpenSpec.upto queueKnownSpec)

/-- 'quicksilverlaw11.QueueCut', WHERE WHAT IT READS IS OF BULK AT MOST 1048576: true; the input reads as it did. -/
def queueCutUptoRow : OpenClaim := { program := "ytbjgebbfachgfaa", sum := "9a7b67c1aa47c992a9114743b6fa8f178b64a279cd8bfc7b40f4bdc9cf878f74", func := "quicksilver/quicksilverlaw11.QueueCut", spec := "queueCut", unfollowed := true, recurses := true, apart := false, narrowed := true }
def QueueCutUptoSaid : Prop := queueCutUptoRow.holds Try.pinned (OpenSpec.upto queueCutSpec)

/-- 'quicksilverlaw11.QueueWaits', WHERE WHAT IT READS IS OF BULK AT MOST 1048576: true; the input reads as it did. -/
def queueWaitsUptoRow : OpenClaim := { program := "ytbjgebbfachgfaa", sum := "9a7b67c1aa47c992a9114743b6fa8f178b64a279cd8bfc7b40f4bdc9cf878f74", func := "quicksilver/quicksilverlaw11.QueueWaits", spec := "queueWaits", unfollowed := true, recurses := true, apart := false, narrowed := true }
def QueueWaitsUptoSaid : Prop := queueWaitsUptoRow.holds Try.pinned (OpenSpec.upto queueWaitsSpec)

/-- 'quicksilverlaw11.QueueCharges', WHERE WHAT IT READS IS OF BULK AT MOST 1048576: true; the input reads as it did. -/
def queueChargesUptoRow : OpenClaim := { program := "ytbjgebbfachgfaa", sum := "9a7b67c1aa47c992a9114743b6fa8f178b64a279cd8bfc7b40f4bdc9cf878f74", func := "quicksilver/quicksilverlaw11.QueueCharges", spec := "queueCharges", unfollowed := true, recurses := true, apart := false, narrowed := true }
def QueueChargesUptoSaid : Prop := queueChargesUptoRow.holds Try.pinned (OpenSpec.upto queueChargesSpec)

/-- 'quicksilverlaw11.QueueKept', WHERE WHAT IT READS IS OF BULK AT MOST 1048576: true; the input reads as it did. -/
def queueKeptUptoRow : OpenClaim := { program := "ytbjgebbfachgfaa", sum := "9a7b67c1aa47c992a9114743b6fa8f178b64a279cd8bfc7b40f4bdc9cf878f74", func := "quicksilver/quicksilverlaw11.QueueKept", spec := "queueKept", unfollowed := true, recurses := true, apart := false, narrowed := true }
def QueueKeptUptoSaid : Prop := queueKeptUptoRow.holds Try.pinned (OpenSpec.upto queueKeptSpec)

/-- 'quicksilverlaw11.QueueFair', WHERE WHAT IT READS IS OF BULK AT MOST 1048576: true; the input reads as it did. -/
def queueFairUptoRow : OpenClaim := { program := "ytbjgebbfachgfaa", sum := "9a7b67c1aa47c992a9114743b6fa8f178b64a279cd8bfc7b40f4bdc9cf878f74", func := "quicksilver/quicksilverlaw11.QueueFair", spec := "queueFair", unfollowed := true, recurses := true, apart := false, narrowed := true }
def QueueFairUptoSaid : Prop := queueFairUptoRow.holds Try.pinned (OpenSpec.upto queueFairSpec)

/-- 'quicksilverlaw11.QueueShortest', WHERE WHAT IT READS IS OF BULK AT MOST 1048576: true; the input reads as it did. -/
def queueShortestUptoRow : OpenClaim := { program := "ytbjgebbfachgfaa", sum := "9a7b67c1aa47c992a9114743b6fa8f178b64a279cd8bfc7b40f4bdc9cf878f74", func := "quicksilver/quicksilverlaw11.QueueShortest", spec := "queueShortest", unfollowed := true, recurses := true, apart := false, narrowed := true }
def QueueShortestUptoSaid : Prop := queueShortestUptoRow.holds Try.pinned (OpenSpec.upto queueShortestSpec)

/-- 'quicksilverlaw11.QueueLater', WHERE WHAT IT READS IS OF BULK AT MOST 1048576: true; the input reads as it did. -/
def queueLaterUptoRow : OpenClaim := { program := "ytbjgebbfachgfaa", sum := "9a7b67c1aa47c992a9114743b6fa8f178b64a279cd8bfc7b40f4bdc9cf878f74", func := "quicksilver/quicksilverlaw11.QueueLater", spec := "queueLater", unfollowed := true, recurses := true, apart := false, narrowed := true }
def QueueLaterUptoSaid : Prop := queueLaterUptoRow.holds Try.pinned (OpenSpec.upto queueLaterSpec)

/-- 'quicksilverlaw11.QueueEnds', WHERE WHAT IT READS IS OF BULK AT MOST 1048576: true; the input reads as it did. -/
def queueEndsUptoRow : OpenClaim := { program := "ytbjgebbfachgfaa", sum := "9a7b67c1aa47c992a9114743b6fa8f178b64a279cd8bfc7b40f4bdc9cf878f74", func := "quicksilver/quicksilverlaw11.QueueEnds", spec := "queueEnds", unfollowed := true, recurses := true, apart := false, narrowed := true }
def QueueEndsUptoSaid : Prop := queueEndsUptoRow.holds Try.pinned (OpenSpec.upto queueEndsSpec)

end Rows
end Go.Proofs.Ytbjgebbfachgfaa
