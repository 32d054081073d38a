/- Arguments of the laws, opened. -/
import Derived.Test.YtndcmmghgljinaaR1
set_option linter.all false
namespace Go.Proofs.Ytndcmmghgljinaa
open Go.RowKit


open Go.ChangeShapes Go.WideShapes Go.ChangeAt Go.RowKit Go.Deep
section
variable {H : Type} {enc : TypeId × Value → H} {w : World} {spare : Nat → Bool} {n : Nat}
theorem fld_int {i : Nat} {xs : List (DataW H × List MemPlace)} {l : List Value} (hf : DataW.trod enc Try.prog w 0 spare true n 3 l = xs[i]?) (hi : i < xs.length) : ∃ k, l = [.int .i64 k] ∧ (-9223372036854775808 ≤ k ∧ k ≤ 9223372036854775807) := by
  rw [List.getElem?_eq_getElem hi] at hf; obtain ⟨k, hk, _, hw⟩ := DataW.trod_int Try.underlying3 hf; exact ⟨k, hk, bounds_i64 hw⟩
theorem fld_bool {i : Nat} {xs : List (DataW H × List MemPlace)} {l : List Value} (hf : DataW.trod enc Try.prog w 0 spare true n 4 l = xs[i]?) (hi : i < xs.length) : ∃ k, l = [.bool k] := by
  rw [List.getElem?_eq_getElem hi] at hf; obtain ⟨k, hk, _⟩ := DataW.trod_bool Try.underlying4 hf; exact ⟨k, hk⟩
instance : Inhabited Span := ⟨Span.zero⟩
instance : Inhabited Stp := ⟨Stp.zero⟩
instance : Inhabited MCk := ⟨⟨0, 0, false⟩⟩
set_option maxRecDepth 100000 in
theorem open_span {cs : List Value} {x : DataW H × List MemPlace} (h : DataW.trod enc Try.prog w 0 spare true n 23 cs = some x) : ∃ s : Span, cs = Span.cs s := by
  obtain ⟨xs, n', _, _, hlen, hx, hf⟩ := DataW.trod_struct Try.underlying23 h; have hl : cs.length = 2 := hlen.trans (by kernel_rfl); have hxl : xs.length = 2 := hx.trans (by rfl)
  match cs, hl with
  | [c0, c1], _ =>
    obtain ⟨a, ha, _⟩ := fld_int (hf 0 _ rfl) (by omega); obtain ⟨b, hb, _⟩ := fld_int (hf 1 _ rfl) (by omega); refine ⟨⟨a, b⟩, ?_⟩
    have ec : Try.prog.cellsOf 3 = 1 := by kernel_rfl
    simp [ec] at ha hb
    subst ha hb
    rfl
set_option maxRecDepth 100000 in
theorem open_stp {cs : List Value} {x : DataW H × List MemPlace} (h : DataW.trod enc Try.prog w 0 spare true n 77 cs = some x) : ∃ s : Stp, cs = Stp.cs s := by
  obtain ⟨xs, n', _, _, hlen, hx, hf⟩ := DataW.trod_struct Try.underlying77 h; have hl : cs.length = 2 := hlen.trans (by kernel_rfl); have hxl : xs.length = 2 := hx.trans (by rfl)
  match cs, hl with
  | [c0, c1], _ =>
    obtain ⟨a, ha, _⟩ := fld_int (hf 0 _ rfl) (by omega); obtain ⟨b, hb, _⟩ := fld_int (hf 1 _ rfl) (by omega); refine ⟨⟨a, b⟩, ?_⟩
    have ec : Try.prog.cellsOf 3 = 1 := by kernel_rfl
    simp [ec] at ha hb
    subst ha hb
    rfl
set_option maxRecDepth 100000 in
theorem open_ck {cs : List Value} {x : DataW H × List MemPlace} (h : DataW.trod enc Try.prog w 0 spare true n 74 cs = some x) : ∃ s : MCk, cs = MCk.cs s := by
  obtain ⟨xs, n', _, _, hlen, hx, hf⟩ := DataW.trod_struct Try.underlying74 h; have hl : cs.length = 3 := hlen.trans (by kernel_rfl); have hxl : xs.length = 3 := hx.trans (by rfl)
  match cs, hl with
  | [c0, c1, c2], _ =>
    obtain ⟨a, ha, _⟩ := fld_int (hf 0 _ rfl) (by omega); obtain ⟨b, hb, _⟩ := fld_int (hf 1 _ rfl) (by omega); obtain ⟨c, hc⟩ := fld_bool (hf 2 _ rfl) (by omega); refine ⟨⟨a, b, c⟩, ?_⟩
    have ec : Try.prog.cellsOf 3 = 1 := by kernel_rfl
    have eb : Try.prog.cellsOf 4 = 1 := by kernel_rfl
    simp [ec, eb] at ha hb hc
    subst ha hb hc
    rfl
def KdIn (w : World) (k : Kd) (a : Option Addr) : Prop := (-9223372036854775808 ≤ k.new ∧ k.new ≤ 9223372036854775807) ∧ k.steps.length ≤ 9223372036854775807 ∧ RdSteps w a k.steps
set_option maxRecDepth 100000 in
theorem open_kd {cs : List Value} {x : DataW H × List MemPlace} (h : DataW.trod enc Try.prog w 0 spare true n 26 cs = some x) (hlt : ∀ q ∈ x.2, q.block < w.heap.size) : ∃ (k : Kd) (a : Option Addr) (c : Nat), cs = [.int .i64 k.new, .int .i64 k.wear.lo, .int .i64 k.wear.hi, .slice a k.steps.length c] ∧ KdIn w k a := by
  obtain ⟨xs, n', _, hxe, hlen, hx, hf⟩ := DataW.trod_struct Try.underlying26 h; have hl : cs.length = 4 := hlen.trans (by kernel_rfl); have hxl : xs.length = 3 := hx.trans (by rfl)
  have ec : Try.prog.cellsOf 3 = 1 := by kernel_rfl
  have es : Try.prog.cellsOf 23 = 2 := by kernel_rfl
  have et : Try.prog.cellsOf 24 = 1 := by kernel_rfl
  match cs, hl, xs, hxl with
  | [c0, c1, c2, c3], _, [x0, x1, x2], _ =>
    have h1 := hf 1 _ rfl; have h2 := hf 2 _ rfl; obtain ⟨a, ha, hab⟩ := fld_int (hf 0 _ rfl) (by simp)
    simp [ec, es, et] at ha h1 h2
    obtain ⟨s, hs⟩ := open_span h1; obtain ⟨aj, cj, lj, hj, rj, nj, _⟩ := open_rows (f := Stp.cs) (m := 2) (ok := fun _ : Stp => True) Try.underlying24 (by kernel_rfl) (fun n cs' z _ hz => (open_stp hz).imp fun _ e => ⟨e, trivial⟩) (by decide) h2 (fun q hq => hlt q (by rw [hxe]; simp [hq]))
    simp at hs hj
    obtain ⟨rfl, rfl⟩ := hs; subst ha hj; unfold maxLen at nj; exact ⟨⟨a, s, lj⟩, aj, cj, rfl, hab, by show lj.length ≤ _; omega, rj⟩
set_option maxRecDepth 100000 in
theorem open_kind {base : Nat} {v : Value} {d : DataW H} {p : List MemPlace} (hv : Value.okWide Try.prog w .any base 26 v) (h : DataW.Trod enc Try.prog w 0 spare true 26 v d p) (hlt : ∀ x ∈ p, x.block < w.heap.size) :
    ∃ (k : Kd) (a : Option Addr) (c : Nat), v = .agg #[.int .i64 k.new, .int .i64 k.wear.lo, .int .i64 k.wear.hi, .slice a k.steps.length c] ∧ KdIn w k a := by
  obtain ⟨cs0, rfl, hsz⟩ := okWide_struct Try.underlying26 hv; obtain ⟨fuel, hf0⟩ := h; have e : Value.cells (.agg cs0) = cs0 := rfl; rw [e] at hf0; obtain ⟨k, a, c, hc, hk⟩ := open_kd hf0 hlt; refine ⟨k, a, c, ?_, hk⟩; rw [← hc]
set_option maxRecDepth 100000 in
theorem open_cks {base : Nat} {v : Value} {d : DataW H} {p : List MemPlace} (hv : Value.okWide Try.prog w .any base 33 v) (h : DataW.Trod enc Try.prog w 0 spare true 33 v d p) (hlt : ∀ x ∈ p, x.block < w.heap.size) :
    ∃ (l : List MCk) (a : Option Addr) (c : Nat), v = .slice a l.length c ∧ RdCks w a l ∧ l.length ≤ 9223372036854775807 := by
  obtain ⟨a0, len, cap, rfl⟩ := okWide_slice Try.underlying33 hv; obtain ⟨fuel, hf0⟩ := h; obtain ⟨a, c, l, hj, rj, nj, _⟩ := open_rows (f := MCk.cs) (m := 3) (ok := fun _ : MCk => True) Try.underlying33 (by kernel_rfl) (fun n cs' z _ hz => (open_ck hz).imp fun _ e => ⟨e, trivial⟩) (by decide) hf0 (fun q hq => hlt q hq)
  simp [Value.cells] at hj
  obtain ⟨rfl, rfl, rfl⟩ := hj; unfold maxLen at nj; exact ⟨l, a0, cap, rfl, rj, by omega⟩
end

end Go.Proofs.Ytndcmmghgljinaa
