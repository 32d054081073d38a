/- Arguments of the laws, opened: checks with their capacity. -/
import Derived.Test.YtndcmmghgljinaaR4
set_option linter.all false
namespace Go.Proofs.Ytndcmmghgljinaa
open Go.RowKit


open Go.ChangeShapes Go.WideShapes Go.ChangeAt Go.RowKit Go.Deep
section
variable {H : Type} {enc : TypeId × Value → H} {w : World} {spare : Nat → Bool} {n : Nat}
set_option maxRecDepth 100000 in
theorem open_cksc {base : Nat} {v : Value} {d : DataW H} {p : List MemPlace} (hv : Value.okWide Try.prog w .any base 33 v) (h : DataW.Trod enc Try.prog w 0 spare true 33 v d p) (hlt : ∀ x ∈ p, x.block < w.heap.size) :
    ∃ (l : List MCk) (a : Option Addr) (c : Nat), v = .slice a l.length c ∧ RdCks w a l ∧ l.length ≤ 9223372036854775807 ∧ l.length ≤ c := by
  obtain ⟨l, a, c, rfl, h1, h2⟩ := open_cks hv h hlt; refine ⟨l, a, c, rfl, h1, h2, ?_⟩; obtain ⟨fuel, hf0⟩ := h
  rcases open_slice Try.underlying33 hf0 with ⟨he, _⟩ | ⟨a', len, cap, m', n, D, Pl, he, _, hl, hcap, _⟩
  · simp [Value.cells] at he
    obtain ⟨_, h3, _⟩ := he; rw [h3]; exact Nat.zero_le _
  · simp [Value.cells] at he
    obtain ⟨_, h3, h4⟩ := he
    omega
end

end Go.Proofs.Ytndcmmghgljinaa
