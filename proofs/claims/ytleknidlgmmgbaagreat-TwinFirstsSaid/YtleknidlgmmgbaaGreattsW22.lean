/- The program: Grow, Concat. -/
import Derived.Test.YtleknidlgmmgbaaGreattsW18
import Derived.Lib.AppendZeros
set_option linter.all false
namespace Go.Proofs.YtleknidlgmmgbaaGreat

open Go.RowKit


section
variable {α : Type} {f : α → List Value} {m : Nat} {T : TypeId}
theorem own_zeros (w : World) (n : Nat) (z : Value) (hz : z.cells.size = m) (hn : n ≤ maxLen) : Own f m T w.heap.size (w.drew.alloc (.cells (Builtin.zeroCells z.cells n ++ Builtin.zeroCells z.cells (grownCap w n 0 T - n)) T)) (.slice (some ⟨w.heap.size, 0, none⟩) 0 (grownCap w n 0 T)) ([] : List α) := by
  have hge := grownCap_ge w n 0 T; refine ⟨by simp, .inr ⟨w.heap.size, _, _, rfl, Nat.le_refl _, heap_alloc_new w.drew _, Nat.zero_le _, grownCap_le_maxLen w n 0 T hn, ?_, by simp⟩⟩
  simp only [Array.size_append, size_zeroCells, hz, ← Nat.add_mul]
  congr 1
  omega
end
theorem Below.drewAlloc (w : World) (o : Obj) : Below w.heap.size w (w.drew.alloc o) := ⟨rfl, rfl, rfl, by simp, fun k hk => heap_alloc_old w.drew _ hk⟩

end Go.Proofs.YtleknidlgmmgbaaGreat
