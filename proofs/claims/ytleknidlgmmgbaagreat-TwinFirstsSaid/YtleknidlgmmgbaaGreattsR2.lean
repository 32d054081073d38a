/- Arguments of the laws, opened. -/
import Derived.Test.YtleknidlgmmgbaaGreattsR1
import Derived.Test.YtleknidlgmmgbaaGreattsW51
set_option linter.all false
set_option maxRecDepth 100000
namespace Go.Proofs.YtleknidlgmmgbaaGreat

open Go.RowKit


open Go.ChangeShapes Go.WideShapes Go.ChangeAt Go.RowKit Go.Deep
section
variable {H : Type} {enc : TypeId × Value → H} {w : World} {spare : Nat → Bool} {n : Nat}
theorem fld_int {i : Nat} {xs : List (DataW H × List MemPlace)} {l : List Value} (hf : DataW.trod enc Tryz.prog w 0 spare true n 3 l = xs[i]?) (hi : i < xs.length) : ∃ k, l = [.int .i64 k] ∧ (-9223372036854775808 ≤ k ∧ k ≤ 9223372036854775807) := by
  rw [List.getElem?_eq_getElem hi] at hf; obtain ⟨k, hk, _, hw⟩ := DataW.trod_int Tryz.underlying3 hf; exact ⟨k, hk, bounds_i64 hw⟩
instance : Inhabited Flt := ⟨⟨0, 0, 0⟩⟩
instance : Inhabited Mrk := ⟨⟨0, 0, 0⟩⟩

theorem open_flt1 {cs : List Value} {x : DataW H × List MemPlace} (h : DataW.trod enc Tryz.prog w 0 spare true n 55 cs = some x) : ∃ s : Flt, cs = Flt.cs s := by
  obtain ⟨xs, n', _, _, hlen, hx, hf⟩ := DataW.trod_struct Tryz.underlying55 h; have hl : cs.length = 3 := hlen.trans (by kernel_rfl); have hxl : xs.length = 3 := hx.trans (by rfl)
  match cs, hl with
  | [c0, c1, c2], _ =>
    obtain ⟨x0, h0, b0⟩ := fld_int (hf 0 _ rfl) (by omega); obtain ⟨x1, h1, b1⟩ := fld_int (hf 1 _ rfl) (by omega); obtain ⟨x2, h2, b2⟩ := fld_int (hf 2 _ rfl) (by omega); refine ⟨⟨x0, x1, x2⟩, ?_⟩
    have ec : Tryz.prog.cellsOf 3 = 1 := by kernel_rfl
    have es : Tryz.prog.cellsOf 9 = 1 := by kernel_rfl
    simp [ec, es] at h0 h1 h2
    subst h0 h1 h2; exact rfl

theorem open_flts0 {fuel : Nat} {cs : List Value} {x : DataW H × List MemPlace} (h : DataW.trod enc Tryz.prog w 0 spare true fuel 25 cs = some x) (hlt : ∀ p ∈ x.2, p.block < w.heap.size) :
    ∃ a c, ∃ l : List Flt, cs = [.slice a l.length c] ∧ RdFl w a l ∧ l.length ≤ 9223372036854775807 := by
  obtain ⟨a, c, l, hj, rj, nj, oj⟩ := open_rows (f := Flt.cs) (m := 3) (ok := fun y : Flt => True) Tryz.underlying25 (by kernel_rfl) (fun n cs' z _ hz => (open_flt1 hz).imp fun _ e => ⟨e, trivial⟩) (by decide) h hlt; exact ⟨a, c, l, hj, rj, nj⟩
theorem open_flts {base : Nat} {v : Value} {d : DataW H} {p : List MemPlace} (hv : Value.okWide Tryz.prog w .any base 25 v) (h : DataW.Trod enc Tryz.prog w 0 spare true 25 v d p) (hlt : ∀ x ∈ p, x.block < w.heap.size) :
    ∃ (l : List Flt) (a : Option Addr) (c : Nat), v = .slice a l.length c ∧ RdFl w a l ∧ l.length ≤ 9223372036854775807 := by
  obtain ⟨a0, len, cap, rfl⟩ := okWide_slice Tryz.underlying25 hv; obtain ⟨fuel, hf0⟩ := h; obtain ⟨a, c, l, hj, rj⟩ := open_flts0 hf0 (fun q hq => hlt q hq)
  simp [Value.cells] at hj
  obtain ⟨rfl, rfl, rfl⟩ := hj; exact ⟨l, a0, cap, rfl, rj⟩

theorem open_int0 {fuel : Nat} {cs : List Value} {x : DataW H × List MemPlace} (h : DataW.trod enc Tryz.prog w 0 spare true fuel 22 cs = some x) (hlt : ∀ p ∈ x.2, p.block < w.heap.size) :
    ∃ a c, ∃ l : List Int, cs = [.slice a l.length c] ∧ RdInts w a l ∧ l.length ≤ 9223372036854775807 := by
  obtain ⟨a, c, l, hj, rj, nj, _⟩ := open_rows (f := int1) (m := 1) (ok := fun _ : Int => True) Tryz.underlying22 (by kernel_rfl) (fun n cs' z _ hz => by obtain ⟨k, hk, _⟩ := DataW.trod_int Tryz.underlying3 hz; exact ⟨k, hk, trivial⟩) (by decide) h hlt; exact ⟨a, c, l, hj, rj, nj⟩
theorem open_state {base : Nat} {v : Value} {d : DataW H} {p : List MemPlace} (hv : Value.okWide Tryz.prog w .any base 24 v) (h : DataW.Trod enc Tryz.prog w 0 spare true 24 v d p) (hlt : ∀ x ∈ p, x.block < w.heap.size) :
    ∃ (s : St4) (A : SA), v = .agg #[.slice A.sa s.store.length A.sc, .slice A.ta s.tape.length A.tc, .int .i64 s.taken, .slice A.pa s.printed.length A.pc, .int .i64 s.time, .int .i64 s.pc, .int .i64 s.done, .int .i64 s.why] ∧ RdSt w s A ∧ LenI s := by
  obtain ⟨cs0, rfl, hsz⟩ := okWide_struct Tryz.underlying24 hv; obtain ⟨fuel, hf0⟩ := h; have e : Value.cells (.agg cs0) = cs0 := rfl; rw [e] at hf0; obtain ⟨xs, n', _, hxe, hlen, hx, hf⟩ := DataW.trod_struct Tryz.underlying24 hf0; have hl : cs0.toList.length = 8 := hlen.trans (by kernel_rfl); have hxl : xs.length = 8 := hx.trans (by rfl)
  have ec : Tryz.prog.cellsOf 3 = 1 := by kernel_rfl
  have et : Tryz.prog.cellsOf 22 = 1 := by kernel_rfl
  obtain ⟨cs0⟩ := cs0
  match cs0, hl, xs, hxl with
  | [c0, c1, c2, c3, c4, c5, c6, c7], _, [x0, x1, x2, x3, x4, x5, x6, x7], _ =>
    have h0 := hf 0 _ rfl; have h1 := hf 1 _ rfl; have h3 := hf 3 _ rfl; have hp := congrArg Prod.snd hxe
    simp only at hp
    obtain ⟨i2, g2, _⟩ := fld_int (hf 2 _ rfl) (by simp); obtain ⟨i4, g4, _⟩ := fld_int (hf 4 _ rfl) (by simp); obtain ⟨i5, g5, _⟩ := fld_int (hf 5 _ rfl) (by simp); obtain ⟨i6, g6, _⟩ := fld_int (hf 6 _ rfl) (by simp); obtain ⟨i7, g7, _⟩ := fld_int (hf 7 _ rfl) (by simp)
    simp [ec, et] at h0 h1 h3 g2 g4 g5 g6 g7
    obtain ⟨a0, d0, l0, j0, r0, n0⟩ := open_int0 h0 (fun q hq => hlt q (by rw [hp]; simp [hq])); obtain ⟨a1, d1, l1, j1, r1, n1⟩ := open_int0 h1 (fun q hq => hlt q (by rw [hp]; simp [hq])); obtain ⟨a3, d3, l3, j3, r3, n3⟩ := open_int0 h3 (fun q hq => hlt q (by rw [hp]; simp [hq]))
    simp at j0 j1 j3
    subst j0 j1 j3 g2 g4 g5 g6 g7; exact ⟨⟨l0, l1, i2, l3, i4, i5, i6, i7⟩, ⟨a0, d0, a1, d1, a3, d3⟩, rfl, ⟨r0, r1, r3⟩, ⟨n0, n1, n3⟩⟩
end

end Go.Proofs.YtleknidlgmmgbaaGreat
