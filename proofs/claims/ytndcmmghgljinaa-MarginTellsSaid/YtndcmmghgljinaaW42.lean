/- Awake: what its calls return. -/
import Derived.Test.YtndcmmghgljinaaW41
import Derived.Test.YtndcmmghgljinaaW40
import Derived.Test.YtndcmmghgljinaaW32
import Derived.Test.YtndcmmghgljinaaW20
import Derived.Test.YtndcmmghgljinaaW17
import Derived.Test.YtndcmmghgljinaaW16
set_option linter.all false
namespace Go.Proofs.Ytndcmmghgljinaa
open Go.RowKit


theorem aw_need : (needRes KND 950).1 = 500 ∧ (needRes KND 950).2 = 0 := by decide +kernel
theorem aw_need2 : (needRes KND 799).1 = 0 ∧ (needRes KND 799).2 = 7 := by decide +kernel
theorem aw_now : (asked KND CHS 250).1.lo = 350 ∧ (asked KND CHS 250).1.hi = 649 ∧ (asked KND CHS 250).2 = 0 := by decide +kernel
theorem aw_fails : (failsRes KND CHS 250).1.earliest = 267 ∧ (failsRes KND CHS 250).1.latest = 600 ∧ (failsRes KND CHS 250).2 = 0 := by decide +kernel
theorem aw_life : (lifeRes KND 2).1.earliest = 134 ∧ (lifeRes KND 2).1.latest = 701 ∧ (lifeRes KND 2).2 = 0 := by decide +kernel
theorem aw_next : (nextRes KND CHS 250).1 = 900 ∧ (nextRes KND CHS 250).2.1 = 149 ∧ (nextRes KND CHS 250).2.2 = 0 := by decide +kernel
theorem aw_group : grpRes KND [⟨350, 649⟩, ⟨600, 900⟩] 900 false = ([⟨350, 499⟩, ⟨600, 900⟩], [0], 0) := by decide +kernel
abbrev VLK (b : Nat) : Vl := ⟨KND, some ⟨b, 0, none⟩, 3, none, 0, []⟩
theorem aw_rep (b : Nat) : repRes [VLK b] [100, 200, 300, 400, 500] 0 600 = ([[], [0], [], [0], []], 0) := by kernel_rfl
theorem RdPlan.at {w w' : World} {a : Option Addr} {xs : List Sl} (h : RdPlan w a xs) (hb : Below w.heap.size w w') : RdPlan w' a xs := ⟨Rd.at h.1 hb, fun x hx => Rd.at (h.2 x hx) hb⟩
theorem RdPlan.oldB {w w' : World} {a : Option Addr} {xs : List Sl} (h : RdPlan w a xs) (ho : OldB [] w w') : RdPlan w' a xs := ⟨Rd.oldB h.1 ho (by simp), fun x hx => Rd.oldB (h.2 x hx) ho (by simp)⟩
theorem exSpans_c {w0 w : World} {a : Option Addr} {c X : Nat} (h : RdSpans w0 a [⟨350, 499⟩, ⟨600, 900⟩]) (ho : OldB [] w0.drew w) (k : Cells w X [.int .i64 350, .int .i64 499, .int .i64 600, .int .i64 900]) : Calls Try.prog 33 #[.slice a 2 c, .slice (some ⟨X, 0, none⟩) 2 2] w fun e w' => e = .returned (.bool true) ∧ Below w.heap.size w w' :=
  (rspans_any a c [⟨350, 499⟩, ⟨600, 900⟩] (some ⟨X, 0, none⟩) 2 [⟨350, 499⟩, ⟨600, 900⟩] w (Rd.oldB h ho.unDrew (by simp)) (Cells.rd (f := Span.cs) (m := 2) (l := [⟨350, 499⟩, ⟨600, 900⟩]) (fun _ => rfl) k) (by decide) (by decide)).mono fun e w' hh => ⟨by rw [hh.1]; rfl, hh.2⟩
theorem exInts_c {w0 w : World} {a : Option Addr} {c X : Nat} (h : RdInts w0 a [0]) (ho : OldB [] w0.drew w) (k : Cells w X [.int .i64 0]) : Calls Try.prog 34 #[.slice a 1 c, .slice (some ⟨X, 0, none⟩) 1 1] w fun e w' => e = .returned (.bool true) ∧ Below w.heap.size w w' :=
  (rints_any a c [0] (some ⟨X, 0, none⟩) 1 [0] w (Rd.oldB h ho.unDrew (by simp)) (Cells.rd (f := int1) (m := 1) (l := [0]) (fun _ => rfl) k) (by decide) (by decide)).mono fun e w' hh => ⟨by rw [hh.1]; rfl, hh.2⟩
theorem exPlans_c {w0 w : World} {a : Option Addr} {c X Y Z : Nat} {xs : List Sl} (h : RdPlan w0 a xs) (hx : xs.map Sl.l = [[], [0], [], [0], []]) (ho : OldB [] w0.drew w) (k : Cells w X [.slice none 0 0, .slice (some ⟨Y, 0, none⟩) 1 1, .slice none 0 0, .slice (some ⟨Z, 0, none⟩) 1 1, .slice none 0 0]) (ky : Cells w Y [.int .i64 0]) (kz : Cells w Z [.int .i64 0]) :
    Calls Try.prog 37 #[.slice a 5 c, .slice (some ⟨X, 0, none⟩) 5 5] w fun e w' => e = .returned (.bool true) ∧ Below w.heap.size w w' := by
  have hl : xs.length = 5 := by have := congrArg List.length hx; simpa using this
  have hm : ∀ x ∈ xs, x.l.length ≤ 9223372036854775807 := fun x hm => by
    have : x.l ∈ xs.map Sl.l := List.mem_map.2 ⟨x, hm, rfl⟩; rw [hx] at this
    simp only [List.mem_cons, List.not_mem_nil, or_false] at this
    rcases this with h | h | h | h | h <;> rw [h] <;> decide
  have hp : RdPlan w a xs := ⟨Rd.oldB h.1 ho.unDrew (by simp), fun x hx => Rd.oldB (h.2 x hx) ho.unDrew (by simp)⟩
  have hq : RdPlan w (some ⟨X, 0, none⟩) [⟨none, 0, []⟩, ⟨some ⟨Y, 0, none⟩, 1, [0]⟩, ⟨none, 0, []⟩, ⟨some ⟨Z, 0, none⟩, 1, [0]⟩, ⟨none, 0, []⟩] := by
    refine ⟨Cells.rd (f := Sl.cs) (m := 1) (l := [⟨none, 0, []⟩, ⟨some ⟨Y, 0, none⟩, 1, [0]⟩, ⟨none, 0, []⟩, ⟨some ⟨Z, 0, none⟩, 1, [0]⟩, ⟨none, 0, []⟩]) (fun _ => rfl) k, fun x hx => ?_⟩
    simp only [List.mem_cons, List.not_mem_nil, or_false] at hx
    rcases hx with rfl | rfl | rfl | rfl | rfl
    · exact .inl rfl
    · exact Cells.rd (f := int1) (m := 1) (l := [0]) (fun _ => rfl) ky
    · exact .inl rfl
    · exact Cells.rd (f := int1) (m := 1) (l := [0]) (fun _ => rfl) kz
    · exact .inl rfl
  have hh := rplans_any a c xs (some ⟨X, 0, none⟩) 5 _ w hp hq (by omega) (by simp) hm (by intro x hx; simp only [List.mem_cons, List.not_mem_nil, or_false] at hx; rcases hx with rfl | rfl | rfl | rfl | rfl <;> simp); rw [hl] at hh
  exact hh.mono fun e w' h2 => ⟨by rw [h2.1, hx]; rfl, h2.2⟩

end Go.Proofs.Ytndcmmghgljinaa
