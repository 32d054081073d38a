/- The program: Differ. -/
import Derived.Test.YtleknidlgmmgbaaGreattsW24
set_option linter.all false
namespace Go.Proofs.YtleknidlgmmgbaaGreat

open Go.RowKit


abbrev Mrk.cs (x : Mrk) : List Value := [.int .i64 x.done, .int .i64 x.pc, .int .i64 x.sl]
abbrev RdMk := Rd Mrk.cs 3
theorem RdMk.ne {w : World} {a : Option Addr} {l : List Mrk} (h : RdMk w a l) {k : Nat} (hk : k < l.length) :
    ∃ b off, a = some ⟨b, off, none⟩ ∧ b < w.heap.size ∧ w.cell? ⟨b, off + k * 3, none⟩ = some (.int .i64 l[k].done) ∧ w.cell? ⟨b, off + k * 3 + 1, none⟩ = some (.int .i64 l[k].pc) ∧ w.cell? ⟨b, off + k * 3 + 2, none⟩ = some (.int .i64 l[k].sl) := by
  obtain ⟨b, off, ha, hb, hc⟩ := Rd.ne h hk; exact ⟨b, off, ha, hb, by simpa using hc 0 _ rfl, hc 1 _ rfl, hc 2 _ rfl⟩

end Go.Proofs.YtleknidlgmmgbaaGreat
