/- Arguments of the laws, opened: a run's spans. -/
import Derived.Test.YtndcmmghgljinaaR2
set_option linter.all false
namespace Go.Proofs.Ytndcmmghgljinaa
open Go.RowKit


open Go.ChangeShapes Go.WideShapes Go.ChangeAt Go.RowKit Go.Deep
section
variable {H : Type} {enc : TypeId × Value → H} {w : World} {spare : Nat → Bool} {n : Nat}
set_option maxRecDepth 100000 in
theorem open_tested {base : Nat} {v : Value} {d : DataW H} {p : List MemPlace} (hv : Value.okWide Try.prog w .any base 46 v) (h : DataW.Trod enc Try.prog w 0 spare true 46 v d p) (hlt : ∀ x ∈ p, x.block < w.heap.size) :
    ∃ (l : List Span) (a : Option Addr) (c : Nat) (u : Int) (b : Bool), v = .agg #[.slice a l.length c, .int .i64 u, .bool b] ∧ RdSpans w a l ∧ l.length ≤ 9223372036854775807 := by
  obtain ⟨cs0, rfl, hsz⟩ := okWide_struct Try.underlying46 hv
  obtain ⟨fuel, hf0⟩ := h
  have e : Value.cells (.agg cs0) = cs0 := rfl
  rw [e] at hf0
  obtain ⟨xs, n', _, hxe, hlen, hx, hf⟩ := DataW.trod_struct Try.underlying46 hf0
  have hl : cs0.toList.length = 3 := hlen.trans (by kernel_rfl)
  have hxl : xs.length = 3 := hx.trans (by rfl)
  have ec : Try.prog.cellsOf 3 = 1 := by kernel_rfl
  have eb : Try.prog.cellsOf 4 = 1 := by kernel_rfl
  have es : Try.prog.cellsOf 44 = 1 := by kernel_rfl
  obtain ⟨cs0⟩ := cs0
  match cs0, hl, xs, hxl with
  | [c0, c1, c2], _, [x0, x1, x2], _ =>
    have h0 := hf 0 _ rfl
    obtain ⟨u, hu, _⟩ := fld_int (hf 1 _ rfl) (by simp)
    obtain ⟨b, hb⟩ := fld_bool (hf 2 _ rfl) (by simp)
    simp [ec, es, eb] at h0 hu hb
    obtain ⟨aj, cj, lj, hj, rj, nj, _⟩ := open_rows (f := Span.cs) (m := 2) (ok := fun _ : Span => True) Try.underlying44 (by kernel_rfl) (fun n cs' z _ hz => (open_span hz).imp fun _ e => ⟨e, trivial⟩) (by decide) h0 (fun q hq => hlt q (by rw [(Prod.mk.inj hxe).2]; simp [hq]))
    simp at hj
    subst hj hu hb
    unfold maxLen at nj
    exact ⟨lj, aj, cj, u, b, rfl, rj, by omega⟩
end

end Go.Proofs.Ytndcmmghgljinaa
