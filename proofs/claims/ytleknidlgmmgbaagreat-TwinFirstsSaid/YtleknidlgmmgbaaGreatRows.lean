/-
  No cell of these rows narrows 'for every input' (looked for: loops, veiled, ifaces, maps, wideKeys, modest, calm, conditions, laid).
  DERIVED. THE GIVEN ROWS OF THIS SEAT. 13 by the template 'for every input the law returns true; each argument reads behind the call as it read before'; 0 by the template 'total and deterministic' (their statements: YtleknidlgmmgbaaGreatTotals.lean).
  GIVEN WITH THE SEED: the statements are not yours to turn. If you find one false, say at which input.
  Laid BY PROGRAM, IN A SANDBOX (cutbox-rows.mjs): the forced cells as the released guide's own fill.sh prints them over the translation 20e9bd54240c531b… (all of the seat's roots in one cut). By AI agents, Wed Nov 11 2026. No macro, syntax, notation, axiom, sorry.
-/
import Derived.Test.YtleknidlgmmgbaaGreatChecked
import GoSem.Claim
import GoSem.ClaimJoined
import GoSem.ClaimMapViews
import Derived.JoinedTies
import Derived.KernelRfl
namespace Go.Proofs.YtleknidlgmmgbaaGreat
/- THE CELL 'sum', in the pinned program and in every row, IS THE sha256 OF THE DUMP (.gsa) THAT YtleknidlgmmgbaaGreatProg.lean LOADS. Nothing in Lean hashes anything: it is a label: what it is worth is what the hold of that sum in a sandbox is worth. -/
noncomputable def Tryz.pinned : Pinned := { name := "ytleknidlgmmgbaagreat", sum := "20e9bd54240c531b84f5af6332a261747df7b0e750555b524b9ece3f6b4b415d", checked := Tryz.checked }
namespace Rows
def none {H : Type} : Left H := { results := [], args := [] }

/-- 'quicksilverlaw12.TwinFirsts': WHATEVER THE INPUT: true; the input reads as it did. -/
def twinFirstsSpec : ChangeSpec := { name := "twinFirsts", fn := fun _ => fun
  | [d1, d2, d3] => { results := [.lit (.bool true)], args := [d1, d2, d3] }
  | _ => none }
def twinFirstsRow : OpenClaim := { program := "ytleknidlgmmgbaagreat", sum := "20e9bd54240c531b84f5af6332a261747df7b0e750555b524b9ece3f6b4b415d", func := "quicksilver/quicksilverlaw12.TwinFirsts", spec := "twinFirsts", unfollowed := true, recurses := true, plainKeys := false, apart := false }
def TwinFirstsSaid : Prop := twinFirstsRow.holds Tryz.pinned (OpenSpec.ofChange twinFirstsSpec)

/-- ITS FALSE NEIGHBOUR: 'it returns false'. Refute it at one input. -/
def twinFirstsWrong : ChangeSpec := { name := "twinFirsts", fn := fun _ => fun
  | [d1, d2, d3] => { results := [.lit (.bool false)], args := [d1, d2, d3] }
  | _ => none }
def TwinFirstsWrongFalsely : Prop := twinFirstsRow.holds Tryz.pinned (OpenSpec.ofChange twinFirstsWrong)

/-- 'quicksilverlaw12.TwinMerges': WHATEVER THE INPUT: true; the input reads as it did. -/
def twinMergesSpec : ChangeSpec := { name := "twinMerges", fn := fun _ => fun
  | [d1, d2, d3] => { results := [.lit (.bool true)], args := [d1, d2, d3] }
  | _ => none }
def twinMergesRow : OpenClaim := { program := "ytleknidlgmmgbaagreat", sum := "20e9bd54240c531b84f5af6332a261747df7b0e750555b524b9ece3f6b4b415d", func := "quicksilver/quicksilverlaw12.TwinMerges", spec := "twinMerges", unfollowed := true, recurses := true, plainKeys := false, apart := false }
def TwinMergesSaid : Prop := twinMergesRow.holds Tryz.pinned (OpenSpec.ofChange twinMergesSpec)

/-- ITS FALSE NEIGHBOUR: 'it returns false'. Refute it at one input. -/
def twinMergesWrong : ChangeSpec := { name := "twinMerges", fn := fun _ => fun
  | [d1, d2, d3] => { results := [.lit (.bool false)], args := [d1, d2, d3] }
  | _ => none }
def TwinMergesWrongFalsely : Prop := twinMergesRow.holds Tryz.pinned (OpenSpec.ofChange twinMergesWrong)

/-- 'quicksilverlaw12.TwinKnown': WHATEVER THE INPUT: true; the input reads as it did. -/
def twinKnownSpec : ChangeSpec := { name := "twinKnown", fn := fun _ => fun
  | [] => { results := [.lit (.bool true)], args := [] }
  | _ => none }
def twinKnownRow : OpenClaim := { program := "ytleknidlgmmgbaagreat", sum := "20e9bd54240c531b84f5af6332a261747df7b0e750555b524b9ece3f6b4b415d", func := "quicksilver/quicksilverlaw12.TwinKnown", spec := "twinKnown", unfollowed := true, recurses := true, plainKeys := false, apart := false }
def TwinKnownSaid : Prop := twinKnownRow.holds Tryz.pinned (OpenSpec.ofChange twinKnownSpec)

/-- ITS FALSE NEIGHBOUR: 'it returns false'. Refute it at one input. -/
def twinKnownWrong : ChangeSpec := { name := "twinKnown", fn := fun _ => fun
  | [] => { results := [.lit (.bool false)], args := [] }
  | _ => none }
def TwinKnownWrongFalsely : Prop := twinKnownRow.holds Tryz.pinned (OpenSpec.ofChange twinKnownWrong)

/-- 'quicksilverlaw12.TwinHalf': WHATEVER THE INPUT: true; the input reads as it did. -/
def twinHalfSpec : ChangeSpec := { name := "twinHalf", fn := fun _ => fun
  | [d1, d2, d3] => { results := [.lit (.bool true)], args := [d1, d2, d3] }
  | _ => none }
def twinHalfRow : OpenClaim := { program := "ytleknidlgmmgbaagreat", sum := "20e9bd54240c531b84f5af6332a261747df7b0e750555b524b9ece3f6b4b415d", func := "quicksilver/quicksilverlaw12.TwinHalf", spec := "twinHalf", unfollowed := true, recurses := true, plainKeys := false, apart := false }
def TwinHalfSaid : Prop := twinHalfRow.holds Tryz.pinned (OpenSpec.ofChange twinHalfSpec)

/-- ITS FALSE NEIGHBOUR: 'it returns false'. Refute it at one input. -/
def twinHalfWrong : ChangeSpec := { name := "twinHalf", fn := fun _ => fun
  | [d1, d2, d3] => { results := [.lit (.bool false)], args := [d1, d2, d3] }
  | _ => none }
def TwinHalfWrongFalsely : Prop := twinHalfRow.holds Tryz.pinned (OpenSpec.ofChange twinHalfWrong)

/-- 'quicksilverlaw12.TwinCut': WHATEVER THE INPUT: true; the input reads as it did. -/
def twinCutSpec : ChangeSpec := { name := "twinCut", fn := fun _ => fun
  | [d1, d2, d3] => { results := [.lit (.bool true)], args := [d1, d2, d3] }
  | _ => none }
def twinCutRow : OpenClaim := { program := "ytleknidlgmmgbaagreat", sum := "20e9bd54240c531b84f5af6332a261747df7b0e750555b524b9ece3f6b4b415d", func := "quicksilver/quicksilverlaw12.TwinCut", spec := "twinCut", unfollowed := true, recurses := true, plainKeys := false, apart := false }
def TwinCutSaid : Prop := twinCutRow.holds Tryz.pinned (OpenSpec.ofChange twinCutSpec)

/-- ITS FALSE NEIGHBOUR: 'it returns false'. Refute it at one input. -/
def twinCutWrong : ChangeSpec := { name := "twinCut", fn := fun _ => fun
  | [d1, d2, d3] => { results := [.lit (.bool false)], args := [d1, d2, d3] }
  | _ => none }
def TwinCutWrongFalsely : Prop := twinCutRow.holds Tryz.pinned (OpenSpec.ofChange twinCutWrong)

/-- 'quicksilverlaw12.TwinOrder': WHATEVER THE INPUT: true; the input reads as it did. -/
def twinOrderSpec : ChangeSpec := { name := "twinOrder", fn := fun _ => fun
  | [d1, d2] => { results := [.lit (.bool true)], args := [d1, d2] }
  | _ => none }
def twinOrderRow : OpenClaim := { program := "ytleknidlgmmgbaagreat", sum := "20e9bd54240c531b84f5af6332a261747df7b0e750555b524b9ece3f6b4b415d", func := "quicksilver/quicksilverlaw12.TwinOrder", spec := "twinOrder", unfollowed := true, recurses := true, plainKeys := false, apart := false }
def TwinOrderSaid : Prop := twinOrderRow.holds Tryz.pinned (OpenSpec.ofChange twinOrderSpec)

/-- ITS FALSE NEIGHBOUR: 'it returns false'. Refute it at one input. -/
def twinOrderWrong : ChangeSpec := { name := "twinOrder", fn := fun _ => fun
  | [d1, d2] => { results := [.lit (.bool false)], args := [d1, d2] }
  | _ => none }
def TwinOrderWrongFalsely : Prop := twinOrderRow.holds Tryz.pinned (OpenSpec.ofChange twinOrderWrong)

/-- 'quicksilverlaw12.TwinOften': WHATEVER THE INPUT: true; the input reads as it did. -/
def twinOftenSpec : ChangeSpec := { name := "twinOften", fn := fun _ => fun
  | [d1, d2, d3] => { results := [.lit (.bool true)], args := [d1, d2, d3] }
  | _ => none }
def twinOftenRow : OpenClaim := { program := "ytleknidlgmmgbaagreat", sum := "20e9bd54240c531b84f5af6332a261747df7b0e750555b524b9ece3f6b4b415d", func := "quicksilver/quicksilverlaw12.TwinOften", spec := "twinOften", unfollowed := true, recurses := true, plainKeys := false, apart := false }
def TwinOftenSaid : Prop := twinOftenRow.holds Tryz.pinned (OpenSpec.ofChange twinOftenSpec)

/-- ITS FALSE NEIGHBOUR: 'it returns false'. Refute it at one input. -/
def twinOftenWrong : ChangeSpec := { name := "twinOften", fn := fun _ => fun
  | [d1, d2, d3] => { results := [.lit (.bool false)], args := [d1, d2, d3] }
  | _ => none }
def TwinOftenWrongFalsely : Prop := twinOftenRow.holds Tryz.pinned (OpenSpec.ofChange twinOftenWrong)

/-- 'quicksilverlaw12.TwinFirst': WHATEVER THE INPUT: true; the input reads as it did. -/
def twinFirstSpec : ChangeSpec := { name := "twinFirst", fn := fun _ => fun
  | [d1, d2, d3] => { results := [.lit (.bool true)], args := [d1, d2, d3] }
  | _ => none }
def twinFirstRow : OpenClaim := { program := "ytleknidlgmmgbaagreat", sum := "20e9bd54240c531b84f5af6332a261747df7b0e750555b524b9ece3f6b4b415d", func := "quicksilver/quicksilverlaw12.TwinFirst", spec := "twinFirst", unfollowed := true, recurses := true, plainKeys := false, apart := false }
def TwinFirstSaid : Prop := twinFirstRow.holds Tryz.pinned (OpenSpec.ofChange twinFirstSpec)

/-- ITS FALSE NEIGHBOUR: 'it returns false'. Refute it at one input. -/
def twinFirstWrong : ChangeSpec := { name := "twinFirst", fn := fun _ => fun
  | [d1, d2, d3] => { results := [.lit (.bool false)], args := [d1, d2, d3] }
  | _ => none }
def TwinFirstWrongFalsely : Prop := twinFirstRow.holds Tryz.pinned (OpenSpec.ofChange twinFirstWrong)

/-- 'quicksilverlaw12.TwinMarks': WHATEVER THE INPUT: true; the input reads as it did. -/
def twinMarksSpec : ChangeSpec := { name := "twinMarks", fn := fun _ => fun
  | [d1, d2] => { results := [.lit (.bool true)], args := [d1, d2] }
  | _ => none }
def twinMarksRow : OpenClaim := { program := "ytleknidlgmmgbaagreat", sum := "20e9bd54240c531b84f5af6332a261747df7b0e750555b524b9ece3f6b4b415d", func := "quicksilver/quicksilverlaw12.TwinMarks", spec := "twinMarks", unfollowed := true, recurses := true, plainKeys := false, apart := false }
def TwinMarksSaid : Prop := twinMarksRow.holds Tryz.pinned (OpenSpec.ofChange twinMarksSpec)

/-- ITS FALSE NEIGHBOUR: 'it returns false'. Refute it at one input. -/
def twinMarksWrong : ChangeSpec := { name := "twinMarks", fn := fun _ => fun
  | [d1, d2] => { results := [.lit (.bool false)], args := [d1, d2] }
  | _ => none }
def TwinMarksWrongFalsely : Prop := twinMarksRow.holds Tryz.pinned (OpenSpec.ofChange twinMarksWrong)

/-- 'quicksilverlaw12.TwinRuns': WHATEVER THE INPUT: true; the input reads as it did. -/
def twinRunsSpec : ChangeSpec := { name := "twinRuns", fn := fun _ => fun
  | [d1, d2, d3] => { results := [.lit (.bool true)], args := [d1, d2, d3] }
  | _ => none }
def twinRunsRow : OpenClaim := { program := "ytleknidlgmmgbaagreat", sum := "20e9bd54240c531b84f5af6332a261747df7b0e750555b524b9ece3f6b4b415d", func := "quicksilver/quicksilverlaw12.TwinRuns", spec := "twinRuns", unfollowed := true, recurses := true, plainKeys := false, apart := false }
def TwinRunsSaid : Prop := twinRunsRow.holds Tryz.pinned (OpenSpec.ofChange twinRunsSpec)

/-- ITS FALSE NEIGHBOUR: 'it returns false'. Refute it at one input. -/
def twinRunsWrong : ChangeSpec := { name := "twinRuns", fn := fun _ => fun
  | [d1, d2, d3] => { results := [.lit (.bool false)], args := [d1, d2, d3] }
  | _ => none }
def TwinRunsWrongFalsely : Prop := twinRunsRow.holds Tryz.pinned (OpenSpec.ofChange twinRunsWrong)

/-- 'quicksilverlaw12.TwinSeals': WHATEVER THE INPUT: true; the input reads as it did. -/
def twinSealsSpec : ChangeSpec := { name := "twinSeals", fn := fun _ => fun
  | [d1, d2] => { results := [.lit (.bool true)], args := [d1, d2] }
  | _ => none }
def twinSealsRow : OpenClaim := { program := "ytleknidlgmmgbaagreat", sum := "20e9bd54240c531b84f5af6332a261747df7b0e750555b524b9ece3f6b4b415d", func := "quicksilver/quicksilverlaw12.TwinSeals", spec := "twinSeals", unfollowed := true, recurses := true, plainKeys := false, apart := false }
def TwinSealsSaid : Prop := twinSealsRow.holds Tryz.pinned (OpenSpec.ofChange twinSealsSpec)

/-- ITS FALSE NEIGHBOUR: 'it returns false'. Refute it at one input. -/
def twinSealsWrong : ChangeSpec := { name := "twinSeals", fn := fun _ => fun
  | [d1, d2] => { results := [.lit (.bool false)], args := [d1, d2] }
  | _ => none }
def TwinSealsWrongFalsely : Prop := twinSealsRow.holds Tryz.pinned (OpenSpec.ofChange twinSealsWrong)

/-- 'quicksilverlaw12.TwinLogs': WHATEVER THE INPUT: true; the input reads as it did. -/
def twinLogsSpec : ChangeSpec := { name := "twinLogs", fn := fun _ => fun
  | [d1, d2, d3] => { results := [.lit (.bool true)], args := [d1, d2, d3] }
  | _ => none }
def twinLogsRow : OpenClaim := { program := "ytleknidlgmmgbaagreat", sum := "20e9bd54240c531b84f5af6332a261747df7b0e750555b524b9ece3f6b4b415d", func := "quicksilver/quicksilverlaw12.TwinLogs", spec := "twinLogs", unfollowed := true, recurses := true, plainKeys := false, apart := false }
def TwinLogsSaid : Prop := twinLogsRow.holds Tryz.pinned (OpenSpec.ofChange twinLogsSpec)

/-- ITS FALSE NEIGHBOUR: 'it returns false'. Refute it at one input. -/
def twinLogsWrong : ChangeSpec := { name := "twinLogs", fn := fun _ => fun
  | [d1, d2, d3] => { results := [.lit (.bool false)], args := [d1, d2, d3] }
  | _ => none }
def TwinLogsWrongFalsely : Prop := twinLogsRow.holds Tryz.pinned (OpenSpec.ofChange twinLogsWrong)

/-- 'quicksilverlaw12.TwinMarked': WHATEVER THE INPUT: true; the input reads as it did. -/
def twinMarkedSpec : ChangeSpec := { name := "twinMarked", fn := fun _ => fun
  | [d1, d2, d3] => { results := [.lit (.bool true)], args := [d1, d2, d3] }
  | _ => none }
def twinMarkedRow : OpenClaim := { program := "ytleknidlgmmgbaagreat", sum := "20e9bd54240c531b84f5af6332a261747df7b0e750555b524b9ece3f6b4b415d", func := "quicksilver/quicksilverlaw12.TwinMarked", spec := "twinMarked", unfollowed := true, recurses := true, plainKeys := false, apart := false }
def TwinMarkedSaid : Prop := twinMarkedRow.holds Tryz.pinned (OpenSpec.ofChange twinMarkedSpec)

/-- ITS FALSE NEIGHBOUR: 'it returns false'. Refute it at one input. -/
def twinMarkedWrong : ChangeSpec := { name := "twinMarked", fn := fun _ => fun
  | [d1, d2, d3] => { results := [.lit (.bool false)], args := [d1, d2, d3] }
  | _ => none }
def TwinMarkedWrongFalsely : Prop := twinMarkedRow.holds Tryz.pinned (OpenSpec.ofChange twinMarkedWrong)

/- THE SECOND FORM. 'bulk': how many values and letters a reading holds, each counted each time it is reached (what is shared counts as often as it is met; a slice's spare places count too). A statement '..UptoSaid' is the law's where the arguments, and the package variables that the reading takes, are together of bulk at most 1048576: NARROWER than '..Said'. Prove '..Said' where nothing that the law and all that it calls make is longer than what came in: it says more and counts as full. Else prove '..UptoSaid'. A law counts once. -/
mutual
def uptoBulk {H : Type} : DataW H → Nat
  | .lit (.string bytes) => bytes.length + 1
  | .lit _ => 1
  | .nil => 1
  | .ptr d => uptoBulk d + 1
  | .slice elems spare => uptoBulkAll elems + uptoBulkAll spare + 1
  | .agg parts => uptoBulkAll parts + 1
  | .iface _ d => uptoBulk d + 1
  | .map entries => uptoBulkEntries entries + 1
  | .held _ => 1
def uptoBulkAll {H : Type} : List (DataW H) → Nat
  | [] => 0
  | d :: r => uptoBulk d + uptoBulkAll r
def uptoBulkEntries {H : Type} : List (Lit × DataW H) → Nat
  | [] => 0
  | x :: r => uptoBulkEntry x + uptoBulkEntries r
def uptoBulkEntry {H : Type} : Lit × DataW H → Nat
  | (.string bytes, d) => bytes.length + uptoBulk d + 1
  | (_, d) => uptoBulk d + 1
 end
def uptoSmall : (H : Type) → List (DataW H) → Bool := fun _ ds => decide (uptoBulkAll ds ≤ 1048576)
def OpenSpec.upto (s : _root_.Go.ChangeSpec) : _root_.Go.OpenSpec := { _root_.Go.OpenSpec.ofChange s with cond := some uptoSmall }

/-- 'quicksilverlaw12.TwinFirsts', WHERE WHAT IT READS IS OF BULK AT MOST 1048576: true; the input reads as it did. -/
def twinFirstsUptoRow : OpenClaim := { program := "ytleknidlgmmgbaagreat", sum := "20e9bd54240c531b84f5af6332a261747df7b0e750555b524b9ece3f6b4b415d", func := "quicksilver/quicksilverlaw12.TwinFirsts", spec := "twinFirsts", unfollowed := true, recurses := true, plainKeys := false, apart := false, narrowed := true }
def TwinFirstsUptoSaid : Prop := twinFirstsUptoRow.holds Tryz.pinned (OpenSpec.upto twinFirstsSpec)

/-- 'quicksilverlaw12.TwinMerges', WHERE WHAT IT READS IS OF BULK AT MOST 1048576: true; the input reads as it did. -/
def twinMergesUptoRow : OpenClaim := { program := "ytleknidlgmmgbaagreat", sum := "20e9bd54240c531b84f5af6332a261747df7b0e750555b524b9ece3f6b4b415d", func := "quicksilver/quicksilverlaw12.TwinMerges", spec := "twinMerges", unfollowed := true, recurses := true, plainKeys := false, apart := false, narrowed := true }
def TwinMergesUptoSaid : Prop := twinMergesUptoRow.holds Tryz.pinned (OpenSpec.upto twinMergesSpec)

/-- 'quicksilverlaw12.TwinKnown', WHERE WHAT IT READS IS OF BULK AT MOST 1048576: true; the input reads as it did. -/
def twinKnownUptoRow : OpenClaim := { program := "ytleknidlgmmgbaagreat", sum := "20e9bd54240c531b84f5af6332a261747df7b0e750555b524b9ece3f6b4b415d", func := "quicksilver/quicksilverlaw12.TwinKnown", spec := "twinKnown", unfollowed := true, recurses := true, plainKeys := false, apart := false, narrowed := true }
def TwinKnownUptoSaid : Prop := twinKnownUptoRow.holds Tryz.pinned (OpenSpec.upto twinKnownSpec)

/-- 'quicksilverlaw12.TwinHalf', WHERE WHAT IT READS IS OF BULK AT MOST 1048576: true; the input reads as it did. -/
def twinHalfUptoRow : OpenClaim := { program := "ytleknidlgmmgbaagreat", sum := "20e9bd54240c531b84f5af6332a261747df7b0e750555b524b9ece3f6b4b415d", func := "quicksilver/quicksilverlaw12.TwinHalf", spec := "twinHalf", unfollowed := true, recurses := true, plainKeys := false, apart := false, narrowed := true }
def TwinHalfUptoSaid : Prop := twinHalfUptoRow.holds Tryz.pinned (OpenSpec.upto twinHalfSpec)

/-- 'quicksilverlaw12.TwinCut', WHERE WHAT IT READS IS OF BULK AT MOST 1048576: true; the input reads as it did. -/
def twinCutUptoRow : OpenClaim := { program := "ytleknidlgmmgbaagreat", sum := "20e9bd54240c531b84f5af6332a261747df7b0e750555b524b9ece3f6b4b415d", func := "quicksilver/quicksilverlaw12.TwinCut", spec := "twinCut", unfollowed := true, recurses := true, plainKeys := false, apart := false, narrowed := true }
def TwinCutUptoSaid : Prop := twinCutUptoRow.holds Tryz.pinned (OpenSpec.upto twinCutSpec)

/-- 'quicksilverlaw12.TwinOrder', WHERE WHAT IT READS IS OF BULK AT MOST 1048576: true; the input reads as it did. -/
def twinOrderUptoRow : OpenClaim := { program := "ytleknidlgmmgbaagreat", sum := "20e9bd54240c531b84f5af6332a261747df7b0e750555b524b9ece3f6b4b415d", func := "quicksilver/quicksilverlaw12.TwinOrder", spec := "twinOrder", unfollowed := true, recurses := true, plainKeys := false, apart := false, narrowed := true }
def TwinOrderUptoSaid : Prop := twinOrderUptoRow.holds Tryz.pinned (OpenSpec.upto twinOrderSpec)

/-- 'quicksilverlaw12.TwinOften', WHERE WHAT IT READS IS OF BULK AT MOST 1048576: true; the input reads as it did. -/
def twinOftenUptoRow : OpenClaim := { program := "ytleknidlgmmgbaagreat", sum := "20e9bd54240c531b84f5af6332a261747df7b0e750555b524b9ece3f6b4b415d", func := "quicksilver/quicksilverlaw12.TwinOften", spec := "twinOften", unfollowed := true, recurses := true, plainKeys := false, apart := false, narrowed := true }
def TwinOftenUptoSaid : Prop := twinOftenUptoRow.holds Tryz.pinned (OpenSpec.upto twinOftenSpec)

/-- 'quicksilverlaw12.TwinFirst', WHERE WHAT IT READS IS OF BULK AT MOST 1048576: true; the input reads as it did. -/
def twinFirstUptoRow : OpenClaim := { program := "ytleknidlgmmgbaagreat", sum := "20e9bd54240c531b84f5af6332a261747df7b0e750555b524b9ece3f6b4b415d", func := "quicksilver/quicksilverlaw12.TwinFirst", spec := "twinFirst", unfollowed := true, recurses := true, plainKeys := false, apart := false, narrowed := true }
def TwinFirstUptoSaid : Prop := twinFirstUptoRow.holds Tryz.pinned (OpenSpec.upto twinFirstSpec)

/-- 'quicksilverlaw12.TwinMarks', WHERE WHAT IT READS IS OF BULK AT MOST 1048576: true; the input reads as it did. -/
def twinMarksUptoRow : OpenClaim := { program := "ytleknidlgmmgbaagreat", sum := "20e9bd54240c531b84f5af6332a261747df7b0e750555b524b9ece3f6b4b415d", func := "quicksilver/quicksilverlaw12.TwinMarks", spec := "twinMarks", unfollowed := true, recurses := true, plainKeys := false, apart := false, narrowed := true }
def TwinMarksUptoSaid : Prop := twinMarksUptoRow.holds Tryz.pinned (OpenSpec.upto twinMarksSpec)

/-- 'quicksilverlaw12.TwinRuns', WHERE WHAT IT READS IS OF BULK AT MOST 1048576: true; the input reads as it did. -/
def twinRunsUptoRow : OpenClaim := { program := "ytleknidlgmmgbaagreat", sum := "20e9bd54240c531b84f5af6332a261747df7b0e750555b524b9ece3f6b4b415d", func := "quicksilver/quicksilverlaw12.TwinRuns", spec := "twinRuns", unfollowed := true, recurses := true, plainKeys := false, apart := false, narrowed := true }
def TwinRunsUptoSaid : Prop := twinRunsUptoRow.holds Tryz.pinned (OpenSpec.upto twinRunsSpec)

/-- 'quicksilverlaw12.TwinSeals', WHERE WHAT IT READS IS OF BULK AT MOST 1048576: true; the input reads as it did. -/
def twinSealsUptoRow : OpenClaim := { program := "ytleknidlgmmgbaagreat", sum := "20e9bd54240c531b84f5af6332a261747df7b0e750555b524b9ece3f6b4b415d", func := "quicksilver/quicksilverlaw12.TwinSeals", spec := "twinSeals", unfollowed := true, recurses := true, plainKeys := false, apart := false, narrowed := true }
def TwinSealsUptoSaid : Prop := twinSealsUptoRow.holds Tryz.pinned (OpenSpec.upto twinSealsSpec)

/-- 'quicksilverlaw12.TwinLogs', WHERE WHAT IT READS IS OF BULK AT MOST 1048576: true; the input reads as it did. -/
def twinLogsUptoRow : OpenClaim := { program := "ytleknidlgmmgbaagreat", sum := "20e9bd54240c531b84f5af6332a261747df7b0e750555b524b9ece3f6b4b415d", func := "quicksilver/quicksilverlaw12.TwinLogs", spec := "twinLogs", unfollowed := true, recurses := true, plainKeys := false, apart := false, narrowed := true }
def TwinLogsUptoSaid : Prop := twinLogsUptoRow.holds Tryz.pinned (OpenSpec.upto twinLogsSpec)

/-- 'quicksilverlaw12.TwinMarked', WHERE WHAT IT READS IS OF BULK AT MOST 1048576: true; the input reads as it did. -/
def twinMarkedUptoRow : OpenClaim := { program := "ytleknidlgmmgbaagreat", sum := "20e9bd54240c531b84f5af6332a261747df7b0e750555b524b9ece3f6b4b415d", func := "quicksilver/quicksilverlaw12.TwinMarked", spec := "twinMarked", unfollowed := true, recurses := true, plainKeys := false, apart := false, narrowed := true }
def TwinMarkedUptoSaid : Prop := twinMarkedUptoRow.holds Tryz.pinned (OpenSpec.upto twinMarkedSpec)

end Rows
end Go.Proofs.YtleknidlgmmgbaaGreat
