/- Arguments of the laws, opened. -/
import Derived.Test.YtleknidlgmmgbaaGreattoR1
import Derived.Test.YtleknidlgmmgbaaGreattoW51
set_option linter.all false
set_option maxRecDepth 100000
namespace Go.Proofs.YtleknidlgmmgbaaGreat

open Go.RowKit


open Go.ChangeShapes Go.WideShapes Go.ChangeAt Go.RowKit Go.Deep
section
variable {H : Type} {enc : TypeId × Value → H} {w : World} {spare : Nat → Bool} {n : Nat}
theorem fld_int {i : Nat} {xs : List (DataW H × List MemPlace)} {l : List Value} (hf : DataW.trod enc Tryz.prog w 0 spare true n 3 l = xs[i]?) (hi : i < xs.length) : ∃ k, l = [.int .i64 k] ∧ (-9223372036854775808 ≤ k ∧ k ≤ 9223372036854775807) := by
  rw [List.getElem?_eq_getElem hi] at hf; obtain ⟨k, hk, _, hw⟩ := DataW.trod_int Tryz.underlying3 hf; exact ⟨k, hk, bounds_i64 hw⟩
theorem fld_str {i : Nat} {xs : List (DataW H × List MemPlace)} {l : List Value} (hf : DataW.trod enc Tryz.prog w 0 spare true n 9 l = xs[i]?) (hi : i < xs.length) : ∃ k : ByteArray, l = [.string k] ∧ k.size ≤ 9223372036854775807 := by
  rw [List.getElem?_eq_getElem hi] at hf; obtain ⟨k, hk, _, h⟩ := DataW.trod_string Tryz.underlying9 hf; exact ⟨k, hk, h⟩
theorem okWide_array {P : Program} {w : World} {r : Reach} {base n : Nat} {t e : TypeId} {v : Value} (ht : P.underlying t = some (.array n e)) (h : Value.okWide P w r base t v) : ∃ cs, v = .agg cs ∧ cs.size = P.cellsOf t := by
  simp only [Value.okWide, ht] at h
  obtain ⟨cs, h1, h2, _⟩ := h; exact ⟨cs, h1, h2⟩
instance : Inhabited Flt := ⟨⟨0, 0, 0⟩⟩
instance : Inhabited Mrk := ⟨⟨0, 0, 0⟩⟩

theorem fld_u8 {i : Nat} {xs : List (DataW H × List MemPlace)} {l : List Value} (hf : DataW.trod enc Tryz.prog w 0 spare true n 5 l = xs[i]?) (hi : i < xs.length) : ∃ k, l = [.int .u8 k] ∧ (0 ≤ k ∧ k ≤ 255) := by
  rw [List.getElem?_eq_getElem hi] at hf; obtain ⟨k, hk, _, hw⟩ := DataW.trod_int Tryz.underlying5 hf; exact ⟨k, hk, bounds_u8 hw⟩

theorem open_u8_2 {base : Nat} {v : Value} {d : DataW H} {p : List MemPlace} (hv : Value.okWide Tryz.prog w .any base 67 v) (h : DataW.Trod enc Tryz.prog w 0 spare true 67 v d p) :
    ∃ x0 x1 : Int, v = .agg #[.int .u8 x0, .int .u8 x1] ∧ (0 ≤ x0 ∧ x0 ≤ 255) ∧ (0 ≤ x1 ∧ x1 ≤ 255) := by
  obtain ⟨cs0, rfl, hsz⟩ := okWide_array Tryz.underlying67 hv; obtain ⟨fuel, hf0⟩ := h; have e : Value.cells (.agg cs0) = cs0 := rfl; rw [e] at hf0; obtain ⟨xs, m, _, _, hlen, hx, hf⟩ := DataW.trod_array Tryz.underlying67 hf0; have hl : cs0.toList.length = 2 := hlen.trans (by kernel_rfl)
  have ec : Tryz.prog.cellsOf 5 = 1 := by kernel_rfl
  obtain ⟨cs0⟩ := cs0
  match cs0, hl with
  | [c0, c1], _ =>
    obtain ⟨x0, h0, b0⟩ := fld_u8 (hf 0 (by decide)) (by omega); obtain ⟨x1, h1, b1⟩ := fld_u8 (hf 1 (by decide)) (by omega)
    simp [ec] at h0 h1
    subst h0 h1; exact ⟨x0, x1, rfl, b0, b1⟩

theorem open_ent1 {cs : List Value} {x : DataW H × List MemPlace} (h : DataW.trod enc Tryz.prog w 0 spare true n 65 cs = some x) : ∃ s : Ent, cs = Ent.cs s ∧ s.unit.size ≤ 9223372036854775807 := by
  obtain ⟨xs, n', _, _, hlen, hx, hf⟩ := DataW.trod_struct Tryz.underlying65 h; have hl : cs.length = 4 := hlen.trans (by kernel_rfl); have hxl : xs.length = 4 := hx.trans (by rfl)
  match cs, hl with
  | [c0, c1, c2, c3], _ =>
    obtain ⟨x0, h0, b0⟩ := fld_int (hf 0 _ rfl) (by omega); obtain ⟨x1, h1, b1⟩ := fld_int (hf 1 _ rfl) (by omega); obtain ⟨x2, h2, b2⟩ := fld_int (hf 2 _ rfl) (by omega); obtain ⟨x3, h3, b3⟩ := fld_str (hf 3 _ rfl) (by omega); refine ⟨⟨x0, x1, x2, x3⟩, ?_⟩
    have ec : Tryz.prog.cellsOf 3 = 1 := by kernel_rfl
    have es : Tryz.prog.cellsOf 9 = 1 := by kernel_rfl
    simp [ec, es] at h0 h1 h2 h3
    subst h0 h1 h2 h3; exact ⟨rfl, b3⟩

theorem open_ents0 {fuel : Nat} {cs : List Value} {x : DataW H × List MemPlace} (h : DataW.trod enc Tryz.prog w 0 spare true fuel 36 cs = some x) (hlt : ∀ p ∈ x.2, p.block < w.heap.size) :
    ∃ a c, ∃ l : List Ent, cs = [.slice a l.length c] ∧ RdEn w a l ∧ l.length ≤ 9223372036854775807 ∧ ∀ y ∈ l, y.unit.size ≤ 9223372036854775807 := by
  obtain ⟨a, c, l, hj, rj, nj, oj⟩ := open_rows (f := Ent.cs) (m := 4) (ok := fun y : Ent => y.unit.size ≤ 9223372036854775807) Tryz.underlying36 (by kernel_rfl) (fun n cs' z _ hz => (open_ent1 hz).imp fun _ e => e) (by decide) h hlt; exact ⟨a, c, l, hj, rj, nj, oj⟩
theorem open_ents {base : Nat} {v : Value} {d : DataW H} {p : List MemPlace} (hv : Value.okWide Tryz.prog w .any base 36 v) (h : DataW.Trod enc Tryz.prog w 0 spare true 36 v d p) (hlt : ∀ x ∈ p, x.block < w.heap.size) :
    ∃ (l : List Ent) (a : Option Addr) (c : Nat), v = .slice a l.length c ∧ RdEn w a l ∧ l.length ≤ 9223372036854775807 ∧ ∀ y ∈ l, y.unit.size ≤ 9223372036854775807 := by
  obtain ⟨a0, len, cap, rfl⟩ := okWide_slice Tryz.underlying36 hv; obtain ⟨fuel, hf0⟩ := h; obtain ⟨a, c, l, hj, rj⟩ := open_ents0 hf0 (fun q hq => hlt q hq)
  simp [Value.cells] at hj
  obtain ⟨rfl, rfl, rfl⟩ := hj; exact ⟨l, a0, cap, rfl, rj⟩

theorem open_cut {base : Nat} {v : Value} {d : DataW H} {p : List MemPlace} (hv : Value.okWide Tryz.prog w .any base 63 v) (h : DataW.Trod enc Tryz.prog w 0 spare true 63 v d p) :
    ∃ f g y m : Int, v = .agg #[.int .u8 f, .int .u8 g, .int .i64 y, .int .i64 m] ∧ (0 ≤ f ∧ f ≤ 255) ∧ (0 ≤ g ∧ g ≤ 255) ∧ (-9223372036854775808 ≤ y ∧ y ≤ 9223372036854775807) ∧ (-9223372036854775808 ≤ m ∧ m ≤ 9223372036854775807) := by
  obtain ⟨cs0, rfl, hsz⟩ := okWide_struct Tryz.underlying63 hv; obtain ⟨fuel, hf0⟩ := h; have e : Value.cells (.agg cs0) = cs0 := rfl; rw [e] at hf0; obtain ⟨xs, n', _, hxe, hlen, hx, hf⟩ := DataW.trod_struct Tryz.underlying63 hf0; have hl : cs0.toList.length = 4 := hlen.trans (by kernel_rfl); have hxl : xs.length = 4 := hx.trans (by rfl)
  have ec : Tryz.prog.cellsOf 3 = 1 := by kernel_rfl
  have eu : Tryz.prog.cellsOf 5 = 1 := by kernel_rfl
  obtain ⟨cs0⟩ := cs0
  match cs0, hl with
  | [c0, c1, c2, c3], _ =>
    obtain ⟨i0, g0, b0⟩ := fld_u8 (hf 0 _ rfl) (by omega); obtain ⟨i1, g1, b1⟩ := fld_u8 (hf 1 _ rfl) (by omega); obtain ⟨i2, g2, b2⟩ := fld_int (hf 2 _ rfl) (by omega); obtain ⟨i3, g3, b3⟩ := fld_int (hf 3 _ rfl) (by omega)
    simp [ec, eu] at g0 g1 g2 g3
    subst g0 g1 g2 g3; exact ⟨i0, i1, i2, i3, rfl, b0, b1, b2, b3⟩
end

end Go.Proofs.YtleknidlgmmgbaaGreat
