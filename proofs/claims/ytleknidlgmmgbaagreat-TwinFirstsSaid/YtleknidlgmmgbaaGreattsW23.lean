/- The program: Concat. -/
import Derived.Test.YtleknidlgmmgbaaGreattsW22
set_option linter.all false
namespace Go.Proofs.YtleknidlgmmgbaaGreat

open Go.RowKit


structure SlI where
  a : Option Addr
  c : Nat
  l : List Int
abbrev SlI.cs (x : SlI) : List Value := [.slice x.a x.l.length x.c]
abbrev RdSls := Rd SlI.cs 1
theorem RdSls.ne {w : World} {a : Option Addr} {l : List SlI} (h : RdSls w a l) {k : Nat} (hk : k < l.length) :
    ∃ b off, a = some ⟨b, off, none⟩ ∧ b < w.heap.size ∧ w.cell? ⟨b, off + k, none⟩ = some (.slice l[k].a l[k].l.length l[k].c) := by
  obtain ⟨b, off, ha, hb, hc⟩ := Rd.ne h hk; exact ⟨b, off, ha, hb, by simpa using hc 0 _ rfl⟩

end Go.Proofs.YtleknidlgmmgbaaGreat
