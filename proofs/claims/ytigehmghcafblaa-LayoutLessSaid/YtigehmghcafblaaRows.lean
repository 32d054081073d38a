/-
  No cell of these rows narrows 'for every input' (looked for: loops, veiled, ifaces, maps, wideKeys, modest, calm, conditions, laid).
  DERIVED. THE GIVEN ROWS OF THIS SEAT. 5 by the template 'for every input the law returns true; each argument reads behind the call as it read before'; 0 by the template 'total and deterministic' (their statements: YtigehmghcafblaaTotals.lean).
  GIVEN WITH THE SEED: the statements are not yours to turn. If you find one false, say at which input.
  Laid BY PROGRAM, IN A SANDBOX (cutbox-rows.mjs): the forced cells as the released guide's own fill.sh prints them over the translation e8923540ff7f4d88… (all of the seat's roots in one cut). By AI agents, Wed Nov 11 2026. No macro, syntax, notation, axiom, sorry.
-/
import Derived.Test.YtigehmghcafblaaChecked
import GoSem.Claim
import GoSem.ClaimJoined
import GoSem.ClaimMapViews
import Derived.JoinedTies
import Derived.KernelRfl
namespace Go.Proofs.Ytigehmghcafblaa
/- THE CELL 'sum', in the pinned program and in every row, IS THE sha256 OF THE DUMP (.gsa) THAT YtigehmghcafblaaProg.lean LOADS. Nothing in Lean hashes anything: it is a label: what it is worth is what the hold of that sum in a sandbox is worth. -/
noncomputable def Try.pinned : Pinned := { name := "ytigehmghcafblaa", sum := "e8923540ff7f4d88e461ef626a04f02e0a0ee63d919ed96e41a2ebf973b75aec", checked := Try.checked }
namespace Rows
def none {H : Type} : Left H := { results := [], args := [] }

/-- 'quicksilverlaw06.LayoutKnown': WHATEVER THE INPUT: true; the input reads as it did. -/
def layoutKnownSpec : ChangeSpec := { name := "layoutKnown", fn := fun _ => fun
  | [] => { results := [.lit (.bool true)], args := [] }
  | _ => none }
def layoutKnownRow : OpenClaim := { program := "ytigehmghcafblaa", sum := "e8923540ff7f4d88e461ef626a04f02e0a0ee63d919ed96e41a2ebf973b75aec", func := "quicksilver/quicksilverlaw06.LayoutKnown", spec := "layoutKnown", unfollowed := true, recurses := true, plainKeys := false, apart := false }
def LayoutKnownSaid : Prop := layoutKnownRow.holds Try.pinned (OpenSpec.ofChange layoutKnownSpec)

/-- ITS FALSE NEIGHBOUR: 'it returns false'. Refute it at one input. -/
def layoutKnownWrong : ChangeSpec := { name := "layoutKnown", fn := fun _ => fun
  | [] => { results := [.lit (.bool false)], args := [] }
  | _ => none }
def LayoutKnownWrongFalsely : Prop := layoutKnownRow.holds Try.pinned (OpenSpec.ofChange layoutKnownWrong)

/-- 'quicksilverlaw06.LayoutBest': WHATEVER THE INPUT: true; the input reads as it did. -/
def layoutBestSpec : ChangeSpec := { name := "layoutBest", fn := fun _ => fun
  | [d1, d2] => { results := [.lit (.bool true)], args := [d1, d2] }
  | _ => none }
def layoutBestRow : OpenClaim := { program := "ytigehmghcafblaa", sum := "e8923540ff7f4d88e461ef626a04f02e0a0ee63d919ed96e41a2ebf973b75aec", func := "quicksilver/quicksilverlaw06.LayoutBest", spec := "layoutBest", unfollowed := true, recurses := true, plainKeys := false, apart := false }
def LayoutBestSaid : Prop := layoutBestRow.holds Try.pinned (OpenSpec.ofChange layoutBestSpec)

/-- ITS FALSE NEIGHBOUR: 'it returns false'. Refute it at one input. -/
def layoutBestWrong : ChangeSpec := { name := "layoutBest", fn := fun _ => fun
  | [d1, d2] => { results := [.lit (.bool false)], args := [d1, d2] }
  | _ => none }
def LayoutBestWrongFalsely : Prop := layoutBestRow.holds Try.pinned (OpenSpec.ofChange layoutBestWrong)

/-- 'quicksilverlaw06.LayoutTurned': WHATEVER THE INPUT: true; the input reads as it did. -/
def layoutTurnedSpec : ChangeSpec := { name := "layoutTurned", fn := fun _ => fun
  | [d1, d2, d3] => { results := [.lit (.bool true)], args := [d1, d2, d3] }
  | _ => none }
def layoutTurnedRow : OpenClaim := { program := "ytigehmghcafblaa", sum := "e8923540ff7f4d88e461ef626a04f02e0a0ee63d919ed96e41a2ebf973b75aec", func := "quicksilver/quicksilverlaw06.LayoutTurned", spec := "layoutTurned", unfollowed := true, recurses := true, plainKeys := false, apart := false }
def LayoutTurnedSaid : Prop := layoutTurnedRow.holds Try.pinned (OpenSpec.ofChange layoutTurnedSpec)

/-- ITS FALSE NEIGHBOUR: 'it returns false'. Refute it at one input. -/
def layoutTurnedWrong : ChangeSpec := { name := "layoutTurned", fn := fun _ => fun
  | [d1, d2, d3] => { results := [.lit (.bool false)], args := [d1, d2, d3] }
  | _ => none }
def LayoutTurnedWrongFalsely : Prop := layoutTurnedRow.holds Try.pinned (OpenSpec.ofChange layoutTurnedWrong)

/-- 'quicksilverlaw06.LayoutLess': WHATEVER THE INPUT: true; the input reads as it did. -/
def layoutLessSpec : ChangeSpec := { name := "layoutLess", fn := fun _ => fun
  | [d1, d2, d3] => { results := [.lit (.bool true)], args := [d1, d2, d3] }
  | _ => none }
def layoutLessRow : OpenClaim := { program := "ytigehmghcafblaa", sum := "e8923540ff7f4d88e461ef626a04f02e0a0ee63d919ed96e41a2ebf973b75aec", func := "quicksilver/quicksilverlaw06.LayoutLess", spec := "layoutLess", unfollowed := true, recurses := true, plainKeys := false, apart := false }
def LayoutLessSaid : Prop := layoutLessRow.holds Try.pinned (OpenSpec.ofChange layoutLessSpec)

/-- ITS FALSE NEIGHBOUR: 'it returns false'. Refute it at one input. -/
def layoutLessWrong : ChangeSpec := { name := "layoutLess", fn := fun _ => fun
  | [d1, d2, d3] => { results := [.lit (.bool false)], args := [d1, d2, d3] }
  | _ => none }
def LayoutLessWrongFalsely : Prop := layoutLessRow.holds Try.pinned (OpenSpec.ofChange layoutLessWrong)

/-- 'quicksilverlaw06.LayoutLines': WHATEVER THE INPUT: true; the input reads as it did. -/
def layoutLinesSpec : ChangeSpec := { name := "layoutLines", fn := fun _ => fun
  | [d] => { results := [.lit (.bool true)], args := [d] }
  | _ => none }
def layoutLinesRow : OpenClaim := { program := "ytigehmghcafblaa", sum := "e8923540ff7f4d88e461ef626a04f02e0a0ee63d919ed96e41a2ebf973b75aec", func := "quicksilver/quicksilverlaw06.LayoutLines", spec := "layoutLines", unfollowed := true, recurses := true, plainKeys := false, apart := false }
def LayoutLinesSaid : Prop := layoutLinesRow.holds Try.pinned (OpenSpec.ofChange layoutLinesSpec)

/-- ITS FALSE NEIGHBOUR: 'it returns false'. Refute it at one input. -/
def layoutLinesWrong : ChangeSpec := { name := "layoutLines", fn := fun _ => fun
  | [d] => { results := [.lit (.bool false)], args := [d] }
  | _ => none }
def LayoutLinesWrongFalsely : Prop := layoutLinesRow.holds Try.pinned (OpenSpec.ofChange layoutLinesWrong)

/- THE SECOND FORM. 'bulk': how many values and letters a reading holds, each counted each time it is reached (what is shared counts as often as it is met; a slice's spare places count too). A statement '..UptoSaid' is the law's where the arguments, and the package variables that the reading takes, are together of bulk at most 1048576: NARROWER than '..Said'. Prove '..Said' where nothing that the law and all that it calls make is longer than what came in: it says more and counts as full. Else prove '..UptoSaid'. A law counts once. -/
mutual
def uptoBulk {H : Type} : DataW H → Nat
  | .lit (.string bytes) => bytes.length + 1
  | .lit _ => 1
  | .nil => 1
  | .ptr d => uptoBulk d + 1
  | .slice elems spare => uptoBulkAll elems + uptoBulkAll spare + 1
  | .agg parts => uptoBulkAll parts + 1
  | .iface _ d => uptoBulk d + 1
  | .map entries => uptoBulkEntries entries + 1
  | .held _ => 1
def uptoBulkAll {H : Type} : List (DataW H) → Nat
  | [] => 0
  | d :: r => uptoBulk d + uptoBulkAll r
def uptoBulkEntries {H : Type} : List (Lit × DataW H) → Nat
  | [] => 0
  | x :: r => uptoBulkEntry x + uptoBulkEntries r
def uptoBulkEntry {H : Type} : Lit × DataW H → Nat
  | (.string bytes, d) => bytes.length + uptoBulk d + 1
  | (_, d) => uptoBulk d + 1
 end
def uptoSmall : (H : Type) → List (DataW H) → Bool := fun _ ds => decide (uptoBulkAll ds ≤ 1048576)
def OpenSpec.upto (s : _root_.Go.ChangeSpec) : _root_.Go.OpenSpec := { _root_.Go.OpenSpec.ofChange s with cond := some uptoSmall }

/-- 'quicksilverlaw06.LayoutKnown', WHERE WHAT IT READS IS OF BULK AT MOST 1048576: true; the input reads as it did. -/
def layoutKnownUptoRow : OpenClaim := { program := "ytigehmghcafblaa", sum := "e8923540ff7f4d88e461ef626a04f02e0a0ee63d919ed96e41a2ebf973b75aec", func := "quicksilver/quicksilverlaw06.LayoutKnown", spec := "layoutKnown", unfollowed := true, recurses := true, plainKeys := false, apart := false, narrowed := true }
def LayoutKnownUptoSaid : Prop := layoutKnownUptoRow.holds Try.pinned (OpenSpec.upto layoutKnownSpec)

/-- 'quicksilverlaw06.LayoutBest', WHERE WHAT IT READS IS OF BULK AT MOST 1048576: true; the input reads as it did. -/
def layoutBestUptoRow : OpenClaim := { program := "ytigehmghcafblaa", sum := "e8923540ff7f4d88e461ef626a04f02e0a0ee63d919ed96e41a2ebf973b75aec", func := "quicksilver/quicksilverlaw06.LayoutBest", spec := "layoutBest", unfollowed := true, recurses := true, plainKeys := false, apart := false, narrowed := true }
def LayoutBestUptoSaid : Prop := layoutBestUptoRow.holds Try.pinned (OpenSpec.upto layoutBestSpec)

/-- 'quicksilverlaw06.LayoutTurned', WHERE WHAT IT READS IS OF BULK AT MOST 1048576: true; the input reads as it did. -/
def layoutTurnedUptoRow : OpenClaim := { program := "ytigehmghcafblaa", sum := "e8923540ff7f4d88e461ef626a04f02e0a0ee63d919ed96e41a2ebf973b75aec", func := "quicksilver/quicksilverlaw06.LayoutTurned", spec := "layoutTurned", unfollowed := true, recurses := true, plainKeys := false, apart := false, narrowed := true }
def LayoutTurnedUptoSaid : Prop := layoutTurnedUptoRow.holds Try.pinned (OpenSpec.upto layoutTurnedSpec)

/-- 'quicksilverlaw06.LayoutLess', WHERE WHAT IT READS IS OF BULK AT MOST 1048576: true; the input reads as it did. -/
def layoutLessUptoRow : OpenClaim := { program := "ytigehmghcafblaa", sum := "e8923540ff7f4d88e461ef626a04f02e0a0ee63d919ed96e41a2ebf973b75aec", func := "quicksilver/quicksilverlaw06.LayoutLess", spec := "layoutLess", unfollowed := true, recurses := true, plainKeys := false, apart := false, narrowed := true }
def LayoutLessUptoSaid : Prop := layoutLessUptoRow.holds Try.pinned (OpenSpec.upto layoutLessSpec)

/-- 'quicksilverlaw06.LayoutLines', WHERE WHAT IT READS IS OF BULK AT MOST 1048576: true; the input reads as it did. -/
def layoutLinesUptoRow : OpenClaim := { program := "ytigehmghcafblaa", sum := "e8923540ff7f4d88e461ef626a04f02e0a0ee63d919ed96e41a2ebf973b75aec", func := "quicksilver/quicksilverlaw06.LayoutLines", spec := "layoutLines", unfollowed := true, recurses := true, plainKeys := false, apart := false, narrowed := true }
def LayoutLinesUptoSaid : Prop := layoutLinesUptoRow.holds Try.pinned (OpenSpec.upto layoutLinesSpec)

end Rows
end Go.Proofs.Ytigehmghcafblaa
