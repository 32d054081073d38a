/- The reference: Run. -/
import Derived.Test.YtleknidlgmmgbaaGreattsW50
set_option linter.all false
namespace Go.Proofs.YtleknidlgmmgbaaGreat

open Go.RowKit


def St4.zero : St4 := ⟨[], [], 0, [], 0, 0, 0, 0⟩
def SA.none : SA := ⟨Option.none, 0, Option.none, 0, Option.none, 0⟩
theorem RdSt.zero (w : World) : RdSt w St4.zero SA.none := ⟨.inl rfl, .inl rfl, .inl rfl⟩
/-- what Run answers -/
def runR (s : St4) (fs : List Flt) (most : Int) : St4 := if askErr12 s fs most = 0 then run12 s fs most.toNat else St4.zero


theorem rasked_v (s : St4) (A : SA) (af : Option Addr) (cf : Nat) (fs : List Flt) (most er : Int) (w : World) (hR : RdSt w s A) (hL : LenI s) (hF : RdFl w af fs) (hlf : fs.length ≤ 9223372036854775807) (hA : askErr12 s fs most = er) :
    Calls Tryz.prog 49 #[.agg #[.slice A.sa s.store.length A.sc, .slice A.ta s.tape.length A.tc, .int .i64 s.taken, .slice A.pa s.printed.length A.pc, .int .i64 s.time, .int .i64 s.pc, .int .i64 s.done, .int .i64 s.why], .slice af fs.length cf, .int .i64 most] w (fun e w' => e = .returned (.int .i64 er) ∧ Below w.heap.size w w') := by
  have := rasked12_any s A af cf fs most w hR hL hF hlf; rw [hA] at this; exact this

end Go.Proofs.YtleknidlgmmgbaaGreat
