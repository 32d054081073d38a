/- Arguments of the laws, opened: arrays. -/
import Derived.Test.YtndcmmghgljinaaR2
set_option linter.all false
namespace Go.Proofs.Ytndcmmghgljinaa
open Go.RowKit


open Go.ChangeShapes Go.WideShapes Go.ChangeAt Go.RowKit Go.Deep
section
variable {H : Type} {enc : TypeId × Value → H} {w : World} {spare : Nat → Bool} {n : Nat}
theorem okWide_array {P : Program} {w : World} {r : Reach} {base n : Nat} {t e : TypeId} {v : Value} (ht : P.underlying t = some (.array n e)) (h : Value.okWide P w r base t v) : ∃ cs, v = .agg cs ∧ cs.size = P.cellsOf t := by
  simp only [Value.okWide, ht] at h
  obtain ⟨cs, h1, h2, _⟩ := h; exact ⟨cs, h1, h2⟩

theorem fld_u16 {i : Nat} {xs : List (DataW H × List MemPlace)} {l : List Value} (hf : DataW.trod enc Try.prog w 0 spare true n 64 l = xs[i]?) (hi : i < xs.length) : ∃ k, l = [.int .u16 k] ∧ (0 ≤ k ∧ k ≤ 65535) := by
  rw [List.getElem?_eq_getElem hi] at hf; obtain ⟨k, hk, _, hw⟩ := DataW.trod_int Try.underlying64 hf; exact ⟨k, hk, bounds_u16 hw⟩

theorem fld_u32 {i : Nat} {xs : List (DataW H × List MemPlace)} {l : List Value} (hf : DataW.trod enc Try.prog w 0 spare true n 71 l = xs[i]?) (hi : i < xs.length) : ∃ k, l = [.int .u32 k] ∧ (0 ≤ k ∧ k ≤ 4294967295) := by
  rw [List.getElem?_eq_getElem hi] at hf; obtain ⟨k, hk, _, hw⟩ := DataW.trod_int Try.underlying71 hf; exact ⟨k, hk, bounds_u32 hw⟩

set_option maxRecDepth 100000 in
theorem open_u16_4 {base : Nat} {v : Value} {d : DataW H} {p : List MemPlace} (hv : Value.okWide Try.prog w .any base 96 v) (h : DataW.Trod enc Try.prog w 0 spare true 96 v d p) :
    ∃ x0 x1 x2 x3 : Int, v = .agg #[.int .u16 x0, .int .u16 x1, .int .u16 x2, .int .u16 x3] ∧ (0 ≤ x0 ∧ x0 ≤ 65535) ∧ (0 ≤ x1 ∧ x1 ≤ 65535) ∧ (0 ≤ x2 ∧ x2 ≤ 65535) ∧ (0 ≤ x3 ∧ x3 ≤ 65535) := by
  obtain ⟨cs0, rfl, hsz⟩ := okWide_array Try.underlying96 hv; obtain ⟨fuel, hf0⟩ := h; have e : Value.cells (.agg cs0) = cs0 := rfl; rw [e] at hf0; obtain ⟨xs, m, _, _, hlen, hx, hf⟩ := DataW.trod_array Try.underlying96 hf0; have hl : cs0.toList.length = 4 := hlen.trans (by kernel_rfl)
  have ec : Try.prog.cellsOf 64 = 1 := by kernel_rfl
  obtain ⟨cs0⟩ := cs0
  match cs0, hl with
  | [c0, c1, c2, c3], _ =>
    obtain ⟨x0, h0, b0⟩ := fld_u16 (hf 0 (by decide)) (by omega); obtain ⟨x1, h1, b1⟩ := fld_u16 (hf 1 (by decide)) (by omega); obtain ⟨x2, h2, b2⟩ := fld_u16 (hf 2 (by decide)) (by omega); obtain ⟨x3, h3, b3⟩ := fld_u16 (hf 3 (by decide)) (by omega)
    simp [ec] at h0 h1 h2 h3
    subst h0 h1 h2 h3; exact ⟨x0, x1, x2, x3, rfl, b0, b1, b2, b3⟩

set_option maxRecDepth 100000 in
theorem open_u16_3 {base : Nat} {v : Value} {d : DataW H} {p : List MemPlace} (hv : Value.okWide Try.prog w .any base 81 v) (h : DataW.Trod enc Try.prog w 0 spare true 81 v d p) :
    ∃ x0 x1 x2 : Int, v = .agg #[.int .u16 x0, .int .u16 x1, .int .u16 x2] ∧ (0 ≤ x0 ∧ x0 ≤ 65535) ∧ (0 ≤ x1 ∧ x1 ≤ 65535) ∧ (0 ≤ x2 ∧ x2 ≤ 65535) := by
  obtain ⟨cs0, rfl, hsz⟩ := okWide_array Try.underlying81 hv; obtain ⟨fuel, hf0⟩ := h; have e : Value.cells (.agg cs0) = cs0 := rfl; rw [e] at hf0; obtain ⟨xs, m, _, _, hlen, hx, hf⟩ := DataW.trod_array Try.underlying81 hf0; have hl : cs0.toList.length = 3 := hlen.trans (by kernel_rfl)
  have ec : Try.prog.cellsOf 64 = 1 := by kernel_rfl
  obtain ⟨cs0⟩ := cs0
  match cs0, hl with
  | [c0, c1, c2], _ =>
    obtain ⟨x0, h0, b0⟩ := fld_u16 (hf 0 (by decide)) (by omega); obtain ⟨x1, h1, b1⟩ := fld_u16 (hf 1 (by decide)) (by omega); obtain ⟨x2, h2, b2⟩ := fld_u16 (hf 2 (by decide)) (by omega)
    simp [ec] at h0 h1 h2
    subst h0 h1 h2; exact ⟨x0, x1, x2, rfl, b0, b1, b2⟩

set_option maxRecDepth 100000 in
theorem open_u16_2 {base : Nat} {v : Value} {d : DataW H} {p : List MemPlace} (hv : Value.okWide Try.prog w .any base 83 v) (h : DataW.Trod enc Try.prog w 0 spare true 83 v d p) :
    ∃ x0 x1 : Int, v = .agg #[.int .u16 x0, .int .u16 x1] ∧ (0 ≤ x0 ∧ x0 ≤ 65535) ∧ (0 ≤ x1 ∧ x1 ≤ 65535) := by
  obtain ⟨cs0, rfl, hsz⟩ := okWide_array Try.underlying83 hv; obtain ⟨fuel, hf0⟩ := h; have e : Value.cells (.agg cs0) = cs0 := rfl; rw [e] at hf0; obtain ⟨xs, m, _, _, hlen, hx, hf⟩ := DataW.trod_array Try.underlying83 hf0; have hl : cs0.toList.length = 2 := hlen.trans (by kernel_rfl)
  have ec : Try.prog.cellsOf 64 = 1 := by kernel_rfl
  obtain ⟨cs0⟩ := cs0
  match cs0, hl with
  | [c0, c1], _ =>
    obtain ⟨x0, h0, b0⟩ := fld_u16 (hf 0 (by decide)) (by omega); obtain ⟨x1, h1, b1⟩ := fld_u16 (hf 1 (by decide)) (by omega)
    simp [ec] at h0 h1
    subst h0 h1; exact ⟨x0, x1, rfl, b0, b1⟩

set_option maxRecDepth 100000 in
theorem open_u32_2 {base : Nat} {v : Value} {d : DataW H} {p : List MemPlace} (hv : Value.okWide Try.prog w .any base 72 v) (h : DataW.Trod enc Try.prog w 0 spare true 72 v d p) :
    ∃ x0 x1 : Int, v = .agg #[.int .u32 x0, .int .u32 x1] ∧ (0 ≤ x0 ∧ x0 ≤ 4294967295) ∧ (0 ≤ x1 ∧ x1 ≤ 4294967295) := by
  obtain ⟨cs0, rfl, hsz⟩ := okWide_array Try.underlying72 hv; obtain ⟨fuel, hf0⟩ := h; have e : Value.cells (.agg cs0) = cs0 := rfl; rw [e] at hf0; obtain ⟨xs, m, _, _, hlen, hx, hf⟩ := DataW.trod_array Try.underlying72 hf0; have hl : cs0.toList.length = 2 := hlen.trans (by kernel_rfl)
  have ec : Try.prog.cellsOf 71 = 1 := by kernel_rfl
  obtain ⟨cs0⟩ := cs0
  match cs0, hl with
  | [c0, c1], _ =>
    obtain ⟨x0, h0, b0⟩ := fld_u32 (hf 0 (by decide)) (by omega); obtain ⟨x1, h1, b1⟩ := fld_u32 (hf 1 (by decide)) (by omega)
    simp [ec] at h0 h1
    subst h0 h1; exact ⟨x0, x1, rfl, b0, b1⟩

set_option maxRecDepth 100000 in
theorem open_i64_2 {base : Nat} {v : Value} {d : DataW H} {p : List MemPlace} (hv : Value.okWide Try.prog w .any base 54 v) (h : DataW.Trod enc Try.prog w 0 spare true 54 v d p) :
    ∃ x0 x1 : Int, v = .agg #[.int .i64 x0, .int .i64 x1] ∧ (-9223372036854775808 ≤ x0 ∧ x0 ≤ 9223372036854775807) ∧ (-9223372036854775808 ≤ x1 ∧ x1 ≤ 9223372036854775807) := by
  obtain ⟨cs0, rfl, hsz⟩ := okWide_array Try.underlying54 hv; obtain ⟨fuel, hf0⟩ := h; have e : Value.cells (.agg cs0) = cs0 := rfl; rw [e] at hf0; obtain ⟨xs, m, _, _, hlen, hx, hf⟩ := DataW.trod_array Try.underlying54 hf0; have hl : cs0.toList.length = 2 := hlen.trans (by kernel_rfl)
  have ec : Try.prog.cellsOf 3 = 1 := by kernel_rfl
  obtain ⟨cs0⟩ := cs0
  match cs0, hl with
  | [c0, c1], _ =>
    obtain ⟨x0, h0, b0⟩ := fld_int (hf 0 (by decide)) (by omega); obtain ⟨x1, h1, b1⟩ := fld_int (hf 1 (by decide)) (by omega)
    simp [ec] at h0 h1
    subst h0 h1; exact ⟨x0, x1, rfl, b0, b1⟩

end

end Go.Proofs.Ytndcmmghgljinaa
