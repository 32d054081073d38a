/- Structs by value, opened. -/
import Derived.Test.YtbjgebbfachgfaacJ3
set_option linter.unusedVariables false
set_option linter.unusedSimpArgs false
set_option linter.unusedSectionVars false
set_option linter.all false
namespace Go.Proofs.Ytbjgebbfachgfaa
open Go.ChangeShapes Go.WideShapes Go.ChangeAt Go.RowKit Go.Deep

section
variable {H : Type} {enc : TypeId × Value → H} {w : World} {spare : Nat → Bool} {n : Nat}

set_option maxRecDepth 100000 in
theorem open_rules1 {base : Nat} {v : Value} {d : DataW H} {p : List MemPlace} (hv : Value.okWide Try.prog w .any base 23 v) (h : DataW.Trod enc Try.prog w 0 spare true 23 v d p) :
    ∃ r : Rules, v = .agg #[.int .i64 r.slice, .int .i64 r.load, .int .i64 r.dump, .int .i64 r.patience, .int .i64 r.rate] := by
  obtain ⟨cs0, rfl, hsz⟩ := okWide_struct Try.underlying23 hv
  obtain ⟨fuel, hf0⟩ := h
  obtain ⟨r, hr⟩ := open_rules hf0
  refine ⟨r, ?_⟩
  obtain ⟨cs⟩ := cs0
  simp [Value.cells] at hr
  rw [hr]
set_option maxRecDepth 100000 in
theorem open_job1 {base : Nat} {v : Value} {d : DataW H} {p : List MemPlace} (hv : Value.okWide Try.prog w .any base 56 v) (h : DataW.Trod enc Try.prog w 0 spare true 56 v d p) :
    ∃ j : Job, v = .agg #[.string j.name, .int .i64 j.arrive, .int .i64 j.claim, .int .i64 j.needs] ∧ j.name.size ≤ maxLen := by
  obtain ⟨cs0, rfl, hsz⟩ := okWide_struct Try.underlying56 hv
  obtain ⟨fuel, hf0⟩ := h
  obtain ⟨r, hr, hs⟩ := open_job hf0
  refine ⟨r, ?_, hs⟩
  obtain ⟨cs⟩ := cs0
  simp [Value.cells] at hr
  rw [hr]; rfl
end

end Go.Proofs.Ytbjgebbfachgfaa
