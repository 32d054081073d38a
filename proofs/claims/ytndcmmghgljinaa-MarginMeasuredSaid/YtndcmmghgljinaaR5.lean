/- Arguments of the laws, opened: Life, Kept. -/
import Derived.Test.YtndcmmghgljinaaR4
import Derived.Test.YtndcmmghgljinaaW44
set_option linter.all false
namespace Go.Proofs.Ytndcmmghgljinaa
open Go.RowKit


open Go.ChangeShapes Go.WideShapes Go.ChangeAt Go.RowKit Go.Deep
abbrev boolc (b : Bool) : List Value := [.bool b]
abbrev RdB := Rd boolc 1
section
variable {H : Type} {enc : TypeId × Value → H} {w : World} {spare : Nat → Bool} {n : Nat}
theorem sl_u16 {fuel : Nat} {cs : List Value} {x : DataW H × List MemPlace} (h : DataW.trod enc Try.prog w 0 spare true fuel 63 cs = some x) (hlt : ∀ p ∈ x.2, p.block < w.heap.size) : ∃ a c, ∃ l : List Int, cs = [.slice a l.length c] ∧ RdU w a l ∧ l.length ≤ 9223372036854775807 ∧ U16 l := by
  obtain ⟨a, c, l, h1, h2, h3, h4⟩ := open_rows (f := u16c) (m := 1) (ok := fun x : Int => 0 ≤ x ∧ x ≤ 65535) Try.underlying63 (by kernel_rfl) (fun n cs' z _ hz => by obtain ⟨k, hk, _, hw⟩ := DataW.trod_int Try.underlying64 hz; exact ⟨k, hk, bounds_u16 hw⟩) (by decide) h hlt; unfold maxLen at h3; exact ⟨a, c, l, h1, h2, by omega, h4⟩
theorem sl_bool {fuel : Nat} {cs : List Value} {x : DataW H × List MemPlace} (h : DataW.trod enc Try.prog w 0 spare true fuel 88 cs = some x) (hlt : ∀ p ∈ x.2, p.block < w.heap.size) : ∃ a c, ∃ l : List Bool, cs = [.slice a l.length c] ∧ RdB w a l ∧ l.length ≤ 9223372036854775807 := by
  obtain ⟨a, c, l, h1, h2, h3, h4⟩ := open_rows (f := boolc) (m := 1) (ok := fun _ : Bool => True) Try.underlying88 (by kernel_rfl) (fun n cs' z _ hz => by obtain ⟨k, hk, _⟩ := DataW.trod_bool Try.underlying4 hz; exact ⟨k, hk, trivial⟩) (by decide) h hlt; unfold maxLen at h3; exact ⟨a, c, l, h1, h2, by omega⟩
set_option maxRecDepth 100000 in
theorem open_life {base : Nat} {v : Value} {d : DataW H} {p : List MemPlace} (hv : Value.okWide Try.prog w .any base 66 v) (h : DataW.Trod enc Try.prog w 0 spare true 66 v d p) (hlt : ∀ x ∈ p, x.block < w.heap.size) :
    ∃ (lh : List Int) (ah : Option Addr) (ch : Nat) (lv : List Int) (av : Option Addr) (cv : Nat) (f : Int) (lw : List Int) (aw : Option Addr) (cw : Nat), v = .agg #[.slice ah lh.length ch, .slice av lv.length cv, .int .u16 f, .slice aw lw.length cw] ∧
      (RdU w ah lh ∧ lh.length ≤ 9223372036854775807 ∧ U16 lh) ∧ (RdU w av lv ∧ lv.length ≤ 9223372036854775807 ∧ U16 lv) ∧ (0 ≤ f ∧ f ≤ 65535) ∧ (RdU w aw lw ∧ lw.length ≤ 9223372036854775807 ∧ U16 lw) := by
  obtain ⟨cs0, rfl, hsz⟩ := okWide_struct Try.underlying66 hv; obtain ⟨fuel, hf0⟩ := h; have e : Value.cells (.agg cs0) = cs0 := rfl; rw [e] at hf0; obtain ⟨xs, n', _, hxe, hlen, hx, hf⟩ := DataW.trod_struct Try.underlying66 hf0; have hl : cs0.toList.length = 4 := hlen.trans (by kernel_rfl); have hxl : xs.length = 4 := hx.trans (by rfl)
  have ec : Try.prog.cellsOf 64 = 1 := by kernel_rfl
  have es : Try.prog.cellsOf 63 = 1 := by kernel_rfl
  obtain ⟨cs0⟩ := cs0
  match cs0, hl, xs, hxl with
  | [c0, c1, c2, c3], _, [x0, x1, x2, x3], _ =>
    have hp := (Prod.mk.inj hxe).2; have h0 := hf 0 _ rfl; have h1 := hf 1 _ rfl; obtain ⟨f, hf2, bf⟩ := fld_u16 (hf 2 _ rfl) (by simp); have h3 := hf 3 _ rfl
    simp [ec, es] at h0 h1 hf2 h3
    obtain ⟨a0, k0, l0, g0, r0⟩ := sl_u16 h0 (fun q hq => hlt q (by rw [hp]; simp [hq])); obtain ⟨a1, k1, l1, g1, r1⟩ := sl_u16 h1 (fun q hq => hlt q (by rw [hp]; simp [hq])); obtain ⟨a3, k3, l3, g3, r3⟩ := sl_u16 h3 (fun q hq => hlt q (by rw [hp]; simp [hq]))
    simp at g0 g1 g3
    subst g0 g1 hf2 g3; exact ⟨l0, a0, k0, l1, a1, k1, f, l3, a3, k3, rfl, r0, r1, bf, r3⟩
set_option maxRecDepth 100000 in
theorem open_kept {base : Nat} {v : Value} {d : DataW H} {p : List MemPlace} (hv : Value.okWide Try.prog w .any base 90 v) (h : DataW.Trod enc Try.prog w 0 spare true 90 v d p) (hlt : ∀ x ∈ p, x.block < w.heap.size) :
    ∃ (f u : Int) (lw : List Int) (aw : Option Addr) (cw : Nat) (lo : List Bool) (ao : Option Addr) (co : Nat), v = .agg #[.int .u16 f, .int .u16 u, .slice aw lw.length cw, .slice ao lo.length co] ∧
      (0 ≤ f ∧ f ≤ 65535) ∧ (0 ≤ u ∧ u ≤ 65535) ∧ (RdU w aw lw ∧ lw.length ≤ 9223372036854775807 ∧ U16 lw) ∧ (RdB w ao lo ∧ lo.length ≤ 9223372036854775807) := by
  obtain ⟨cs0, rfl, hsz⟩ := okWide_struct Try.underlying90 hv; obtain ⟨fuel, hf0⟩ := h; have e : Value.cells (.agg cs0) = cs0 := rfl; rw [e] at hf0; obtain ⟨xs, n', _, hxe, hlen, hx, hf⟩ := DataW.trod_struct Try.underlying90 hf0; have hl : cs0.toList.length = 4 := hlen.trans (by kernel_rfl); have hxl : xs.length = 4 := hx.trans (by rfl)
  have ec : Try.prog.cellsOf 64 = 1 := by kernel_rfl
  have es : Try.prog.cellsOf 63 = 1 := by kernel_rfl
  have eb : Try.prog.cellsOf 88 = 1 := by kernel_rfl
  obtain ⟨cs0⟩ := cs0
  match cs0, hl, xs, hxl with
  | [c0, c1, c2, c3], _, [x0, x1, x2, x3], _ =>
    have hp := (Prod.mk.inj hxe).2; obtain ⟨f, hf0, bf⟩ := fld_u16 (hf 0 _ rfl) (by simp); obtain ⟨u, hu0, bu⟩ := fld_u16 (hf 1 _ rfl) (by simp); have h2 := hf 2 _ rfl; have h3 := hf 3 _ rfl
    simp [ec, es, eb] at hf0 hu0 h2 h3
    obtain ⟨a2, k2, l2, g2, r2⟩ := sl_u16 h2 (fun q hq => hlt q (by rw [hp]; simp [hq])); obtain ⟨a3, k3, l3, g3, r3⟩ := sl_bool h3 (fun q hq => hlt q (by rw [hp]; simp [hq]))
    simp at g2 g3
    subst hf0 hu0 g2 g3; exact ⟨f, u, l2, a2, k2, l3, a3, k3, rfl, bf, bu, r2, r3⟩
end

end Go.Proofs.Ytndcmmghgljinaa
