/- Arguments: a slice of bytes. -/
import Derived.Test.YtbjgebbfachgfaacRow3
set_option linter.unusedVariables false
set_option linter.unusedSimpArgs false
set_option linter.unusedSectionVars false
set_option linter.all false
namespace Go.Proofs.Ytbjgebbfachgfaa
open Go.ChangeShapes Go.WideShapes Go.ChangeAt Go.RowKit Go.Deep

section
variable {H : Type} {enc : TypeId × Value → H} {w : World} {spare : Nat → Bool} {n : Nat}
set_option maxRecDepth 100000 in
theorem open_u8s {base : Nat} {v : Value} {d : DataW H} {p : List MemPlace} (hv : Value.okWide Try.prog w .any base 75 v) (h : DataW.Trod enc Try.prog w 0 spare true 75 v d p) (hlt : ∀ x ∈ p, x.block < w.heap.size) :
    ∃ (l : List Int) (a : Option Addr) (c : Nat), v = .slice a l.length c ∧ Rd (fun n : Int => [Value.int .u8 n]) 1 w a l ∧ l.length ≤ 9223372036854775807 ∧ ∀ x ∈ l, 0 ≤ x ∧ x ≤ 255 := by
  obtain ⟨a0, len, cap, rfl⟩ := okWide_slice Try.underlying75 hv
  obtain ⟨fuel, hf0⟩ := h
  obtain ⟨a, c, l, hj, rj, nj, okj⟩ := open_rows (f := fun n : Int => [Value.int .u8 n]) (m := 1) (ok := fun x : Int => 0 ≤ x ∧ x ≤ 255) Try.underlying75 (by kernel_rfl) (fun n cs' z _ hz => by
    obtain ⟨k, hk, _, hw⟩ := DataW.trod_int Try.underlying5 hz
    have := bounds_u8 hw
    exact ⟨k, hk, by omega⟩) (by decide) hf0 (fun q hq => hlt q hq)
  simp [Value.cells] at hj
  obtain ⟨rfl, rfl, rfl⟩ := hj
  unfold maxLen at nj
  exact ⟨l, a0, cap, rfl, rj, by omega, okj⟩
end

end Go.Proofs.Ytbjgebbfachgfaa
