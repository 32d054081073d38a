/- A cut ahead of a region: what holds behind it, in whatever way it was walked. -/
import Derived.Test.YtbjgebbfachgfaacW42
import Derived.Test.YtbjgebbfachgfaacPure10
set_option linter.unusedVariables false
set_option linter.unusedSimpArgs false
set_option linter.unusedSectionVars false
set_option linter.all false
namespace Go.Proofs.Ytbjgebbfachgfaa
open Go.RowKit

theorem cut_F {P : Program} {id : Nat} {l : Array Oper} {b : Bool} {n : Nat} {ds : List Deferred} {Q : Exit → Act → World → Prop} {s0 : Nat → Value} {w0 : World} (K : (Nat → Value) → World → Prop)
    (h : (Code.region id l b).wp P (fun e a w => e = .normal ∧ ∃ s, a = mkA n s ds ∧ K s w) (mkA n s0 ds) w0) (hK : ∀ s w, K s w → Q .normal (mkA n s ds) w) : (Code.region id l b).wp P Q (mkA n s0 ds) w0 :=
  wp_mono h (by rintro e a w ⟨rfl, s, rfl, hk⟩; exact hK s w hk)

theorem Rd.two {α : Type} {f : α → List Value} {m : Nat} {w : World} {a : Option Addr} {l : List α} {Y o o' : Nat} {u u' : Value} (h : Rd f m w a l) (hn : ∀ b, a = some b → b.block ≠ Y) : Rd f m ((w.setCell ⟨Y, o, none⟩ u).setCell ⟨Y, o', none⟩ u') a l :=
  (Rd.setFar h hn).setFar hn

end Go.Proofs.Ytbjgebbfachgfaa
